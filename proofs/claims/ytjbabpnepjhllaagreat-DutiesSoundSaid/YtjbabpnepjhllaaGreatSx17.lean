/- Part 17 of a claim; what it proves stands in its last text. -/
import Derived.Test.YtjbabpnepjhllaaGreatSx13
import Derived.Test.YtjbabpnepjhllaaGreatSx14
import Derived.Test.YtjbabpnepjhllaaGreatSx16
import Derived.Test.YtjbabpnepjhllaaGreatSx11
namespace Go.Proofs.YtjbabpnepjhllaaGreat
open Go.RowKit
set_option maxRecDepth 100000
theorem doV_no {vs:List KVar} {ops:List KOp} {i t n:Nat} {v:List Nat} {r:Option (List Nat)} {o:KOp} {f:Fct} (h:DoV vs ops false i t n v r) (hi:i < t) (ho:ops[i]? = some o) (hf:f∈needsF o) (hn:holdsF v f=false):r=none:=by
 have key:¬ (needsF o).all (holdsF v)=true:=fun e=>by rw [List.all_eq_true.1 e f hf] at hn;cases hn
 cases h with
 | done h=>omega
 | miss=>rfl
 | op _ ho' hn'=>rw [ho] at ho';cases ho';exact absurd hn' key
 | loopNo=>rfl
 | loop _ ho' hn'=>rw [ho] at ho';cases ho';exact absurd hn' key
theorem doV_op {vs:List KVar} {ops:List KOp} {i t n:Nat} {v:List Nat} {r:Option (List Nat)} {o:KOp} (h:DoV vs ops false i t n v r) (hi:i < t) (ho:ops[i]? = some o) (hn:(needsF o).all (holdsF v)=true) (hk:o.kind≠15):DoV vs ops false (i+1) t n (stepV vs o v) r:=by
 cases h with
 | done h=>omega
 | miss _ ho' hn'=>rw [ho] at ho';cases ho';rw [hn] at hn';cases hn'
 | op _ ho' _ _ hr=>rw [ho] at ho';cases ho';exact hr
 | loopNo _ ho' _ hk'=>rw [ho] at ho';cases ho';exact absurd hk' hk
 | loop _ ho' _ hk'=>rw [ho] at ho';cases ho';exact absurd hk' hk
theorem doV_loop {vs:List KVar} {ops:List KOp} {i t n:Nat} {v:List Nat} {r:Option (List Nat)} {o:KOp} (h:DoV vs ops false i t n v r) (hi:i < t) (ho:ops[i]? = some o) (hn:(needsF o).all (holdsF v)=true) (hk:o.kind=15) :
   ∃ (e:Nat) (x:Option (List Nat)),(kEnds ops).getD i 0=(e:Int)∧DoV vs ops true i e o.imm v x∧(x=none→r=none)∧(∀ v1,x=some v1→DoV vs ops false (e+1) t n v1 r):=by
 cases h with
 | done h=>omega
 | miss _ ho' hn'=>rw [ho] at ho';cases ho';rw [hn] at hn';cases hn'
 | op _ ho' _ hk'=>rw [ho] at ho';cases ho';exact absurd hk hk'
 | loopNo _ ho' _ _ he hl=>rw [ho] at ho';cases ho';exact ⟨_,none,he,hl,fun _=>rfl,fun v1 h=>(by cases h)⟩
 | loop _ ho' _ _ he hl hr=>rw [ho] at ho';cases ho';exact ⟨_,_,he,hl,fun h=>(by cases h),fun v1 h=>(by cases h;exact hr)⟩
theorem doV_end {vs:List KVar} {ops:List KOp} {i t n:Nat} {v:List Nat} {r:Option (List Nat)} (h:DoV vs ops false i t n v r) (hi:t≤i):r=some v:=by
 cases h with
 | done h=>rfl
 | miss h=>omega
 | op h=>omega
 | loopNo h=>omega
 | loop h=>omega
theorem doV_body {vs:List KVar} {ops:List KOp} {i e n:Nat} {v:List Nat} {r:Option (List Nat)} (h:DoV vs ops true i e (n+1) v r):∃ x,DoV vs ops false (i+1) e 0 v x∧(x=none→r=none)∧(∀ v1,x=some v1→DoV vs ops true i e n v1 r):=by
 cases h with
 | bodyNo hb=>exact ⟨none,hb,fun _=>rfl,fun v1 h=>(by cases h)⟩
 | body hb hr=>exact ⟨_,hb,fun h=>(by cases h),fun v1 h=>(by cases h;exact hr)⟩
theorem doV_stop {vs:List KVar} {ops:List KOp} {i e:Nat} {v:List Nat} {r:Option (List Nat)} (h:DoV vs ops true i e 0 v r):r=some v:=by
 cases h with
 | stop=>rfl
structure DoIn (w:World) (g:Nat) (Av:Option Addr) (nv cv:Nat) (Ao:Option Addr) (no co:Nat) (Ar:Option Addr) (nr cr:Nat) (Ae:Option Addr) (ne ce:Nat) (k:Krn):Prop where
 kern:KernAt w (fun q=>q < w.heap.size∧q≠g) [.slice Av nv cv,.slice Ao no co,.slice Ar nr cr] k
 ends:NumsAt w (fun q=>q < w.heap.size∧q≠g) (.slice Ae ne ce) (kEnds k.ops)
theorem DoIn.chg {w w':World} {g:Nat} {Av:Option Addr} {nv cv:Nat} {Ao:Option Addr} {no co:Nat} {Ar:Option Addr} {nr cr:Nat} {Ae:Option Addr} {ne ce:Nat} {k:Krn} (h:DoIn w g Av nv cv Ao no co Ar nr cr Ae ne ce k) (hc:Chg (fun q=>q=g) w w'):DoIn w' g Av nv cv Ao no co Ar nr cr Ae ne ce k:=by
 have hs:SameOn (fun q=>q < w.heap.size∧q≠g) w w':=hc.same fun _ hk=>⟨hk.1,hk.2⟩
 have hm:∀ q,(q < w.heap.size∧q≠g)→q < w'.heap.size∧q≠g:=fun q hq=>⟨Nat.lt_of_lt_of_le hq.1 hc.size,hq.2⟩
 exact ⟨(h.kern.keep hs).mono hm,Rows.mono (Rows.keep h.ends hs) hm⟩
def DoSay (g n:Nat) (vs:List KVar) (r:Option (List Nat)) (w:World) (e:Ending) (w':World):Prop:=Chg (fun q=>q=g) w w'∧(r=none→e=.returned (.bool false))∧(∀ v',r=some v'→e=.returned (.bool true)∧ValsAt w' g n v'∧ValOk vs v')
structure DoK (k:Krn):Prop where
 bal:KBal k.ops
 vars:varsK k.vars=true
 one:∀ (i:Nat) (o:KOp),k.ops[i]? = some o→oneK k.vars o=true
 ok:∀ o∈k.ops,KOpOk o
 len:k.ops.length≤4096
structure DoAt (w0 w:World) (g n:Nat) (vs:List KVar) (v:List Nat):Prop where
 vals:ValsAt w g n v
 ok:ValOk vs v
 chg:Chg (fun q=>q=g) w0 w
theorem DoAt.next {w0 w w':World} {g n:Nat} {vs:List KVar} {v:List Nat} (h:DoAt w0 w g n vs v) (hb:Below w.heap.size w w'):DoAt w0 w' g n vs v:=⟨h.vals.next hb,h.ok,h.chg.trans (Chg.of_below hb)⟩
set_option maxHeartbeats 20000000 in
theorem do_any (Av Ao Ar Ae:Option Addr) (nv cv no co nr cr ne ce:Nat) (k:Krn) (g n:Nat) (HK0:DoK k) (hn6:n≤1000000):∀ (m i0 t:Nat) (v:List Nat) (r:Option (List Nat)) (w:World),t - i0≤m→LiveK k.ops i0 t→DoV k.vars k.ops false i0 t 0 v r→DoIn w g Av nv cv Ao no co Ar nr cr Ae ne ce k→ValsAt w g n v→ValOk k.vars v →
   Calls Tryz.prog 43 #[.agg #[.slice Av nv cv,.slice Ao no co,.slice Ar nr cr],.slice Ae ne ce,.int .i64 i0,.int .i64 t,.slice (some ⟨g,0,none⟩) n n] w (DoSay g n k.vars r w):=by
 intro m
 induction m using Nat.strongRecOn with
 | ind m ih =>
   intro i0 t v r w hm hL hD hin hv hok
   obtain ⟨W,hW⟩:∃ W,W=w.alloc (.cells #[.slice Av nv cv,.slice Ao no co,.slice Ar nr cr] 25):=⟨_,rfl⟩
   have hb:Below w.heap.size w W:=by rw [hW];exact (Below.refl _ _).alloc (Nat.le_refl _) _
   obtain ⟨B,hB⟩:∃ B,B=w.heap.size:=⟨_,rfl⟩
   have hbox:W.heap[B]? = some (.cells #[.slice Av nv cv,.slice Ao no co,.slice Ar nr cr] 25 (0,0)):=by rw [hW,hB];exact heap_alloc_new w _
   have hBg:B≠g:=by rw [hB];have:=hv.lt;omega
   have HKB:=Lh (show ∀ w_,Chg (fun q=>q=g) W w_→w_.cell? ⟨B,0,none⟩=some (.slice Av nv cv)∧w_.cell? ⟨B,1,none⟩=some (.slice Ao no co)∧w_.cell? ⟨B,2,none⟩=some (.slice Ar nr cr) from fun w_ h=>by
     have hx:=(h.block B (lt_of_block hbox) hBg).trans hbox
     simp [World.cell?,hx])
   have HIN:=Lh (hin.chg (Chg.of_below hb))
   have HW:=Lh hW
   have HB:=Lh (show Chg (fun q=>q=g) w W from Chg.of_below hb)
   have HA0:=Lh (show DoAt W W g n k.vars v from ⟨hv.next hb,hok,Chg.refl _ _⟩)
   have HD0:=Lh (And.intro hL hD)
   have HM:=Lh hm
   have HIH:=Lh ih
   have HLT:=Lh hL.len
   have hno:=(rows_len (show KOpsAt W (fun q=>q < W.heap.size∧q≠g) (.slice Ao no co) k.ops from by
     obtain ⟨vv,vo,vr,e,_,h2,_⟩:=HIN.out.kern.row
     simp only [List.cons.injEq,and_true] at e
     obtain ⟨rfl,rfl,rfl⟩:=e
     exact h2)).1
   have hno4:no≤4096:=by rw [hno];exact HK0.len
   have HNO:=Lh hno
   have hi0:i0≤4096:=by have:=hL.le;have:=hL.len;have:=HK0.len;omega
   have HK1:=Lh HK0
   clear hW hb hbox hBg hin hv hok hL hD hm ih hno HK0
   go_enter Tryz.func43,Tryz.ntmps43
   go_upto_region 1 with go_in
   rw [←HW.out]
   (try rw [←hB])
   clear HW hB
   go_wp2
   go_loopw [10,11,12,13,14,15] (fun _ s11 _ _ _ _ wr=>∃ (i:Nat) (v1:List Nat),i0≤i∧i≤4097∧s11=.int .i64 i∧LiveK k.ops i t∧DoV k.vars k.ops false i t 0 v1 r∧DoAt W wr g n k.vars v1) (fun _ s11 _ _ _ _ _=>t - (intOf s11).toNat)
   case atStart=>exact ⟨i0,v,Nat.le_refl _,by omega,rfl,HD0.out.1,HD0.out.2,HA0.out⟩
   case round =>
     obtain ⟨i,v1,hi0i,hi4,rfl,hL,hD,hat⟩:=hrel
     have HAT:=Lh hat
     have HD:=Lh (And.intro hL hD)
     have HI:=Lh hi0i
     clear hi0i hat hL hD HA0 HD0
     by_cases hlt:i < t
     rotate_left
     · have d1:decide (i < t)=false:=decide_eq_false hlt
       have HR:=Lh (doV_end HD.out.2 (Nat.le_of_not_lt hlt))
       go_wp2
       go_ret
       exact ⟨HB.out.trans HAT.out.chg,fun h=>(by rw [HR.out] at h;cases h),fun v' h=>(by rw [HR.out] at h;cases h;exact ⟨rfl,HAT.out.vals,HAT.out.ok⟩)⟩
     have d1:decide (i < t)=true:=decide_eq_true hlt
     obtain ⟨o,ho⟩:∃ o,k.ops[i]? = some o:=⟨_,List.getElem?_eq_getElem (by have:=HLT.out;omega)⟩
     have HO:=Lh ho
     have h1:=HK1.out.one i o ho
     have HONE:=Lh h1
     have HKO:=Lh (HK1.out.ok o (List.mem_of_getElem? ho))
     have hin:=HIN.out.chg HAT.out.chg
     obtain ⟨vv,vo,vr,e3,_,hko,_⟩:=hin.kern.row
     simp only [List.cons.injEq,and_true] at e3
     obtain ⟨rfl,rfl,rfl⟩:=e3
     obtain ⟨gg,off,hA,hgg,x0,x1,x2,x3,x4,x5,x6⟩:=hko.at_ ho
     subst hA
     obtain ⟨c0,c1,c2⟩:=HKB.out _ HAT.out.chg
     have i1:(0:Int)≤(i:Int):=by omega
     have i2:(i:Int) < (no:Int):=by have:=(List.getElem?_eq_some_iff.1 ho).1;have:=HNO.out;omega
     have i3:IntKind.i64.wrap (i:Int)=i:=by rw [IntKind.wrap_i64];omega
     obtain ⟨W1,hW1⟩:∃ W1,W1=wr.alloc (.cells #[.int .i64 o.kind,.int .i64 o.d,.int .i64 o.e,.int .i64 o.a,.int .i64 o.b,.int .i64 o.c,.int .u64 o.imm] 43):=⟨_,rfl⟩
     obtain ⟨ob,hob⟩:∃ ob,ob=wr.heap.size:=⟨_,rfl⟩
     have hbW1:Below wr.heap.size wr W1:=by rw [hW1];exact (Below.refl _ _).alloc (Nat.le_refl _) _
     have hoblk:W1.heap[ob]? = some (.cells #[.int .i64 o.kind,.int .i64 o.d,.int .i64 o.e,.int .i64 o.a,.int .i64 o.b,.int .i64 o.c,.int .u64 o.imm] 43 (0,0)):=by rw [hW1,hob];exact heap_alloc_new wr _
     have HOB:=Lh (show ∀ w_,Chg (fun q=>q=g) W1 w_→w_.cell? ⟨ob,0,none⟩=some (.int .i64 o.kind)∧w_.cell? ⟨ob,1,none⟩=some (.int .i64 o.d)∧w_.cell? ⟨ob,2,none⟩=some (.int .i64 o.e)∧w_.cell? ⟨ob,3,none⟩=some (.int .i64 o.a)∧w_.cell? ⟨ob,4,none⟩=some (.int .i64 o.b)∧w_.cell? ⟨ob,5,none⟩=some (.int .i64 o.c)∧w_.cell? ⟨ob,6,none⟩=some (.int .u64 o.imm) from fun w_ h=>by
       have hx:=(h.block ob (lt_of_block hoblk) (by rw [hob];have:=HAT.out.vals.lt;omega)).trans hoblk
       simp [World.cell?,hx])
     have HAT1:=Lh (HAT.out.next hbW1)
     clear ho h1 hin hko hgg
     go_upto_region 5 with (first | go_in)
     rw [←hob]
     rw [←hW1]
     clear x0 x1 x2 x3 x4 x5 x6 c0 c1 c2 hW1 hob hbW1 hoblk
     have HRN:=Lh (fun w_=>show Calls Tryz.prog 16 #[.agg #[.int .i64 o.kind,.int .i64 o.d,.int .i64 o.e,.int .i64 o.a,.int .i64 o.b,.int .i64 o.c,.int .u64 o.imm]] w_ _ from RNeeds_any o w_)
     obtain ⟨p0,p1,p2,p3,p4,p5,p6⟩:=HOB.out W1 (Chg.refl _ _)
     go_upto_region 6 with (first | ((with_reducible refine (HRN.out _).mono ?_);rintro e_ w4 ⟨jT,rfl,ho4,hb4⟩;obtain ⟨An,cn,rfl⟩:=own_form ho4;have HO4:=Lh ho4;have HB4:=Lh hb4;clear ho4 hb4) | go_in)
     clear p0 p1 p2 p3 p4 p5 p6 HRN
     obtain ⟨nn,hnn⟩:∃ nn,nn=(needsF o).length:=⟨_,rfl⟩
     have HNN:=Lh hnn
     have hnn3:nn≤3:=by have:=needsF_len' o;omega
     have HNF:=Lh (show FactsAt w4 (fun q=>q < w4.heap.size) (.slice An nn cn) (needsF o) by
       rw [hnn]
       exact Rows.mono (facts_own HO4.out) fun q hq=>(own_lt HO4.out q hq).1)
     rw [←hnn]
     have HAT4:=Lh (HAT1.out.next HB4.out)
     have HOC:=Lh (show ∀ w_,Chg (fun q=>q=g) w4 w_→w_.cell? ⟨ob,0,none⟩=some (.int .i64 o.kind)∧w_.cell? ⟨ob,1,none⟩=some (.int .i64 o.d)∧w_.cell? ⟨ob,2,none⟩=some (.int .i64 o.e)∧w_.cell? ⟨ob,3,none⟩=some (.int .i64 o.a)∧w_.cell? ⟨ob,4,none⟩=some (.int .i64 o.b)∧w_.cell? ⟨ob,5,none⟩=some (.int .i64 o.c)∧w_.cell? ⟨ob,6,none⟩=some (.int .u64 o.imm) from fun w_ h=>HOB.out w_ ((Chg.of_below HB4.out).trans h))
     clear hnn HO4 HAT1 HOB HB4 HAT
     have hit:i+1≤t∧t≤4096:=⟨hlt,by have:=HLT.out;have:=HK1.out.len;omega⟩
     go_wp2
     go_loopw [10,14] (fun _ s14 wr2=>∃ q:Nat,q≤nn∧s14=.int .i64 q∧(∀ (p:Nat) (f:Fct),p < q→(needsF o)[p]? = some f→holdsF v1 f=true)∧Below w4.heap.size w4 wr2) (fun _ s14 _=>nn - (intOf s14).toNat)
     case atStart=>exact ⟨0,Nat.zero_le _,rfl,fun p f h=>absurd h (by omega),Below.refl _ _⟩
     case round =>
       obtain ⟨q,hq,rfl,hall,hbr⟩:=hrel
       have HALL:=Lh hall
       have HBR:=Lh hbr
       have HATR:=Lh (HAT4.out.next hbr)
       by_cases hlt2:q < nn
       · have d2:decide (q < nn)=true:=decide_eq_true hlt2
         obtain ⟨x,hx⟩:∃ x,(needsF o)[q]? = some x:=⟨_,List.getElem?_eq_getElem (by have:=HNN.out;omega)⟩
         have HX:=Lh hx
         obtain ⟨gx,ox,rfl,hgx,z0,z1,z2⟩:=FactsAt.at_ (rows_next HNF.out hbr) hx
         have HHO:=Lh (Holds_any x g n v1 wr HATR.out.vals (by have h2:=well_needs HONE.out x (List.mem_of_getElem? hx);have h3:=HATR.out.ok.len;have h4:=HATR.out.vals.len;rw [show n=k.vars.length by omega];exact h2) hn6)
         have j1:(0:Int)≤(q:Int):=by omega
         have j2:(q:Int) < (nn:Int):=by omega
         have j3:IntKind.i64.wrap (q:Int)=q:=by rw [IntKind.wrap_i64];omega
         cases hh:holdsF v1 x
         · rw [hh] at HHO
           have HR:=Lh (doV_no HD.out.2 hlt HO.out (List.mem_of_getElem? hx) hh)
           clear hh hx hgx hall hbr
           go_wp2_with (first | ((with_reducible refine HHO.out.mono ?_);rintro e_ w5 ⟨rfl,hb5⟩;have HB5:=Lh hb5;clear hb5) | go_in)
           go_ret
           exact ⟨HB.out.trans ((HATR.out.next HB5.out).chg),fun _=>rfl,fun v' h=>(by rw [HR.out] at h;cases h)⟩
         · rw [hh] at HHO
           have HHX:=Lh hh
           clear hh hx hgx hall hbr
           go_wp2_with (first | ((with_reducible refine HHO.out.mono ?_);rintro e_ w5 ⟨rfl,hb5⟩;have HB5:=Lh hb5;clear hb5) | go_in)
           go_roundw
           case rel =>
             refine ⟨q+1,hlt2,by go_num,fun p f h1 h2=>?_,HBR.out.trans (HB5.out.mono HBR.out.size)⟩
             rcases Nat.lt_or_ge p q with h3 | h3
             · exact HALL.out p f h3 h2
             · obtain rfl:p=q:=by omega
               rw [HX.out] at h2;cases h2
               exact HHX.out
           case measure=>simp [intOf];omega
       · have d2:decide (q < nn)=false:=decide_eq_false hlt2
         have HN:=Lh (show (needsF o).all (holdsF v1)=true from List.all_eq_true.2 fun f hf=>by
           obtain ⟨p,hp,e⟩:=List.getElem_of_mem hf
           exact hall p f (by have:=HNN.out;omega) (by rw [←e];exact List.getElem?_eq_getElem hp))
         have HNEED:=Lh (show ∀ f∈needsF o,holdsF v1 f=true from List.all_eq_true.1 HN.out)
         have hcw:Chg (fun q=>q=g) w4 wr:=Chg.of_below hbr
         have HCW:=Lh hcw
         obtain ⟨p0,p1,p2,p3,p4,p5,p6⟩:=HOC.out wr hcw
         clear hall hbr hcw HBR HAT4 HALL HNF
         by_cases h17:o.kind=17
         · have e17:(o.kind == 17)=true:=beq_iff_eq.2 h17
           have HV:=Lh (show stepV k.vars o v1=v1 by unfold stepV;rw [if_pos h17])
           have HNX:=Lh (doV_op HD.out.2 hlt HO.out HN.out (by omega))
           have HLX:=Lh (HD.out.1.op HK1.out.bal hlt HO.out (by omega)).2
           have i4:IntKind.i64.wrap ((i:Int)+1)=((i+1:Nat):Int):=by rw [IntKind.wrap_i64];omega
           clear h17
           go_wp2
           go_roundw
           case rel=>exact ⟨i+1,v1,by have:=HI.out;omega,by omega,by go_num,HLX.out,by rw [←HV.out];exact HNX.out,HATR.out⟩
           case measure=>simp [intOf];omega
         have e17:(o.kind == 17)=false:=beq_eq_false_iff_ne.2 h17
         by_cases h15:o.kind=15
         · have e15:(o.kind == 15)=true:=beq_iff_eq.2 h15
           obtain ⟨e,x,he,hdl,hxn,hxs⟩:=doV_loop HD.out.2 hlt HO.out HN.out h15
           obtain ⟨e',he',hie,het,hLb,hLe,_⟩:=HD.out.1.loop HK1.out.bal hlt HO.out h15
           have hee:e'=e:=by rw [he] at he';omega
           subst hee
           have HDL:=Lh hdl
           have HXN:=Lh hxn
           have HXS:=Lh hxs
           have HLB:=Lh (And.intro hLb hLe)
           have hget:(kEnds k.ops)[i]? = some (e':Int):=by
             have hl:i < (kEnds k.ops).length:=by unfold kEnds;rw [kTo_len];exact (List.getElem?_eq_some_iff.1 HO.out).1
             rw [List.getD_eq_getElem?_getD,List.getElem?_eq_getElem hl] at he
             rw [List.getElem?_eq_getElem hl]
             simpa using he
           have hend:=HIN.out.ends
           have hne:=(rows_len hend).1
           obtain ⟨ge,oe,hAe,hge,y0⟩:=NumsAt.at_ hend hget
           subst hAe
           have hie2:(i:Int) < (ne:Int):=by have:=(List.getElem?_eq_some_iff.1 hget).1;omega
           have HEC:=Lh (show ∀ w_,Chg (fun q=>q=g) W w_→w_.cell? ⟨ge,oe+i,none⟩=some (.int .i64 (e':Int)) from fun w_ h=>(World.cell?_of_block (h.block ge hge.1 hge.2)).trans y0)
           have HIM:=Lh HKO.out.imm
           have HIE:=Lh (And.intro hie het)
           obtain ⟨iq,hp1⟩:∃ iq,iq=i+1:=⟨_,rfl⟩
           have HP1:=Lh hp1
           have i4:IntKind.i64.wrap ((i:Int)+1)=(iq:Int):=by rw [IntKind.wrap_i64];omega
           have i5:IntKind.i64.wrap ((e':Int)+1)=((e'+1:Nat):Int):=by rw [IntKind.wrap_i64];omega
           clear h17 h15 he hdl hxn hxs he' hie het hLb hLe hget hend hne hge y0 hp1
           go_wp2
           clear p0 p1 p2 p3 p4 p5 p6
           go_loopw [10,15] (fun _ s15 wr3=>∃ (j:Nat) (v2:List Nat),j≤o.imm∧s15=.int .u64 j∧DoV k.vars k.ops true i e' (o.imm - j) v2 x∧DoAt W wr3 g n k.vars v2∧Chg (fun q=>q=g) w4 wr3) (fun _ s15 _=>o.imm - (intOf s15).toNat)
           case atStart=>exact ⟨0,v1,Nat.zero_le _,rfl,HDL.out,HATR.out,HCW.out⟩
           case round =>
             obtain ⟨j,v2,hj,rfl,hd2,hat2,hc2⟩:=hrel
             have HD2:=Lh hd2
             have HAT2:=Lh hat2
             have HC2:=Lh hc2
             obtain ⟨p0,p1,p2,p3,p4,p5,p6⟩:=HOC.out wr hc2
             clear hd2 hat2 hc2
             by_cases hlt3:j < o.imm
             · have d3:decide (j < o.imm)=true:=decide_eq_true hlt3
               have d4:decide ((j:Int) < (o.imm:Int))=true:=decide_eq_true (by omega)
               have i6:IntKind.u64.wrap ((j:Int)+1)=((j+1:Nat):Int):=by rw [wrapU'];have:=HIM.out;omega
               obtain ⟨y,hy,hyn,hys⟩:=doV_body (n:=o.imm - j - 1) (by rw [show o.imm - j - 1+1=o.imm - j by omega];exact HD2.out)
               have HIC:=Lh (show ∀ w_,Chg (fun q=>q=g) wr w_→w_.cell? ⟨B,0,none⟩=some (.slice Av nv cv)∧w_.cell? ⟨B,1,none⟩=some (.slice (some ⟨gg,off,none⟩) no co)∧w_.cell? ⟨B,2,none⟩=some (.slice Ar nr cr)∧w_.cell? ⟨ge,oe+i,none⟩=some (.int .i64 (e':Int)) from fun w_ h=>by
                 have h1:=HKB.out w_ (HAT2.out.chg.trans h)
                 exact ⟨h1.1,h1.2.1,h1.2.2,HEC.out w_ (HAT2.out.chg.trans h)⟩)
               have hcall:=fun (w_:World) (h:Below wr.heap.size wr w_)=>HIH.out (e' - iq) (by have:=HIE.out;have:=HM.out;have:=HI.out;have:=HP1.out;omega) iq e' v2 y w_ (Nat.le_refl _) (by rw [HP1.out];exact HLB.out.1) (by rw [HP1.out];exact hy) (HIN.out.chg ((HAT2.out.next h).chg)) (HAT2.out.vals.next h) HAT2.out.ok
               cases y with
               | none =>
                 have HDO:=Lh (fun (w_:World) (h:Below wr.heap.size wr w_)=>(hcall w_ h).mono fun e w' h=>(⟨h.2.1 rfl,h.1⟩:e=.returned (.bool false)∧Chg (fun q=>q=g) w_ w'))
                 have HR:=Lh (HXN.out (hyn rfl))
                 clear hcall hy hyn hys p0 p1 p2 p3 p4 p5
                 go_upto_region 18 with (first | go_in)
                 clear p6
                 have hb0:=(Below.refl wr.heap.size wr).drew
                 have hS:=(Chg.of_below hb0:Chg (fun q=>q=g) wr wr.drew)
                 (refine wp_region_lines (Chg (fun q=>q=g) wr) (by kernel_rfl) (by kernel_rfl) (Chg.of_below ((Below.refl wr.heap.size wr).drew)) ?_)
                 (try simp only [])
                 repeat (first | (refine runL_no (by rfl) ?_;(try simp only [Act.put,List.setIfInBounds_toArray,List.set_cons_zero,List.set_cons_succ])) | (refine runL_val (v:=?_) (by rfl) ?_ ?_;rotate_left;(focus (intro w_ hw_;obtain ⟨f0_,f1_,f2_,f3_⟩:=HIC.out w_ hw_;go_simp;(try with_reducible rfl);done));(try simp only [Act.put,List.setIfInBounds_toArray,List.set_cons_zero,List.set_cons_succ])) | (refine runL_call (f:=?_) (args:=?_) (w1:=?_) (by rfl) (by rfl) ?_ ?_;rotate_left 3;(focus (go_simp;refine ⟨⟨?_,?_⟩,?_⟩ <;> with_reducible rfl));(with_reducible refine (HDO.out _ hb0).mono ?_);rintro e_ w5 ⟨rfl,hc5⟩;replace hS:=hS.trans hc5;clear hc5;refine ⟨_,rfl,.inr hS,?_⟩;(try simp only [Act.put,List.setIfInBounds_toArray,List.set_cons_zero,List.set_cons_succ])))
                 (refine runL_nil ?_)
                 have HS:=Lh hS
                 clear hS hb0
                 go_wp2
                 go_ret
                 exact ⟨HB.out.trans (HAT2.out.chg.trans HS.out),fun _=>rfl,fun v' h=>(by rw [HR.out] at h;cases h)⟩
               | some aC =>
                 have HDO:=Lh (fun (w_:World) (h:Below wr.heap.size wr w_)=>(hcall w_ h).mono fun e w' h=>(⟨(h.2.2 aC rfl).1,h.1,(h.2.2 aC rfl).2⟩:e=.returned (.bool true)∧Chg (fun q=>q=g) w_ w'∧ValsAt w' g n aC∧ValOk k.vars aC))
                 have HNY:=Lh (show DoV k.vars k.ops true i e' (o.imm - (j+1)) aC x from by have:=hys aC rfl;rwa [show o.imm - j - 1=o.imm - (j+1) by omega] at this)
                 clear hcall hy hyn hys p0 p1 p2 p3 p4 p5
                 go_upto_region 18 with (first | go_in)
                 clear p6
                 have hb0:=(Below.refl wr.heap.size wr).drew
                 have hS:=(Chg.of_below hb0:Chg (fun q=>q=g) wr wr.drew)
                 (refine wp_region_lines (Chg (fun q=>q=g) wr) (by kernel_rfl) (by kernel_rfl) (Chg.of_below ((Below.refl wr.heap.size wr).drew)) ?_)
                 (try simp only [])
                 repeat (first | (refine runL_no (by rfl) ?_;(try simp only [Act.put,List.setIfInBounds_toArray,List.set_cons_zero,List.set_cons_succ])) | (refine runL_val (v:=?_) (by rfl) ?_ ?_;rotate_left;(focus (intro w_ hw_;obtain ⟨f0_,f1_,f2_,f3_⟩:=HIC.out w_ hw_;go_simp;(try with_reducible rfl);done));(try simp only [Act.put,List.setIfInBounds_toArray,List.set_cons_zero,List.set_cons_succ])) | (refine runL_call (f:=?_) (args:=?_) (w1:=?_) (by rfl) (by rfl) ?_ ?_;rotate_left 3;(focus (go_simp;refine ⟨⟨?_,?_⟩,?_⟩ <;> with_reducible rfl));(with_reducible refine (HDO.out _ hb0).mono ?_);rintro e_ w5 ⟨rfl,hc5,hv5,ho5⟩;have HV5:=Lh (And.intro hv5 ho5);replace hS:=hS.trans hc5;clear hc5 hv5 ho5;refine ⟨_,rfl,.inr hS,?_⟩;(try simp only [Act.put,List.setIfInBounds_toArray,List.set_cons_zero,List.set_cons_succ])))
                 (refine runL_nil ?_)
                 have HS:=Lh hS
                 clear hS hb0
                 go_wp2
                 go_roundw
                 case rel=>exact ⟨j+1,aC,hlt3,by go_num,HNY.out,⟨HV5.out.1,HV5.out.2,HAT2.out.chg.trans HS.out⟩,HC2.out.trans HS.out⟩
                 case measure=>simp [intOf];omega
             · have d3:decide (j < o.imm)=false:=decide_eq_false hlt3
               have d4:decide ((j:Int) < (o.imm:Int))=false:=decide_eq_false (by omega)
               have hj0:o.imm - j=0:=by omega
               have hx2:=HD2.out
               rw [hj0] at hx2
               have HX2:=Lh (HXS.out v2 (doV_stop hx2))
               have y0:=HEC.out wr HAT2.out.chg
               clear hj0 hx2
               go_wp2
               go_roundw
               case rel=>exact ⟨e'+1,v2,by have:=HI.out;have:=HIE.out;omega,by have:=HIE.out;omega,by go_num,HLB.out.2,HX2.out,HAT2.out⟩
               case measure=>simp [intOf];have:=HIE.out;omega
         have e15:(o.kind == 15)=false:=beq_eq_false_iff_ne.2 h15
         have hop:=HD.out.1.op HK1.out.bal hlt HO.out h15
         have HNX:=Lh (doV_op HD.out.2 hlt HO.out HN.out h15)
         have HLX:=Lh hop.2
         have hk:=(oneK_parts HONE.out).kind
         have HOK2:=Lh (val_ok HONE.out HATR.out.ok h15 hop.1)
         have i4:IntKind.i64.wrap ((i:Int)+1)=((i+1:Nat):Int):=by rw [IntKind.wrap_i64];omega
         by_cases h14:o.kind=14
         · have e14:(o.kind == 14)=true:=beq_iff_eq.2 h14
           have hp:=oneK_parts HONE.out
           have hd:=part_d hp (by omega)
           have he:=part_e hp h14
           have hc:=hp.c (by omega)
           have hnl:n=k.vars.length:=by have:=HATR.out.ok.len;have:=HATR.out.vals.len;omega
           have hvl:=HATR.out.vals.len
           obtain ⟨pd,hpd⟩:∃ p:Nat,o.d=p:=⟨o.d.toNat,by omega⟩
           obtain ⟨pe,hpe⟩:∃ p:Nat,o.e=p:=⟨o.e.toNat,by omega⟩
           obtain ⟨pc,hpc⟩:∃ p:Nat,o.c=p:=⟨o.c.toNat,by omega⟩
           obtain ⟨xd,hxd⟩:∃ x,v1[pd]? = some x:=⟨_,List.getElem?_eq_getElem (by omega)⟩
           obtain ⟨xe,hxe⟩:∃ x,v1[pe]? = some x:=⟨_,List.getElem?_eq_getElem (by omega)⟩
           obtain ⟨xc,hxc⟩:∃ x,v1[pc]? = some x:=⟨_,List.getElem?_eq_getElem (by omega)⟩
           obtain ⟨Ac,mc,dc,yc,_,hnc⟩:=HATR.out.vals.get hxc
           have HSV:=Lh (show stepV k.vars o v1=if xc % 2=1 then (v1.set pd xe).set pe xd else v1 by
             unfold stepV swapV
             rw [if_neg h17,if_pos h14,hpd,hpe,hpc,getV_get hxc,getV_get hxd,getV_get hxe,Int.toNat_natCast,Int.toNat_natCast])
           have HXD:=Lh hxd
           have HXE:=Lh hxe
           have HNC:=Lh hnc
           have j1:(0:Int)≤(pd:Int):=by omega
           have j2:(pd:Int) < (n:Int):=by omega
           have j3:IntKind.i64.wrap (pd:Int)=pd:=by rw [IntKind.wrap_i64];omega
           have j4:(0:Int)≤(pe:Int):=by omega
           have j5:(pe:Int) < (n:Int):=by omega
           have j6:IntKind.i64.wrap (pe:Int)=pe:=by rw [IntKind.wrap_i64];omega
           have j7:(0:Int)≤(pc:Int):=by omega
           have j8:(pc:Int) < (n:Int):=by omega
           have j9:IntKind.i64.wrap (pc:Int)=pc:=by rw [IntKind.wrap_i64];omega
           rw [hpc] at p5
           rw [hpd] at p1
           rw [hpe] at p2
           have HPL:=Lh (And.intro (show pd < n by omega) (show pe < n by omega))
           have HP12:=Lh (And.intro p1 p2)
           have HOBL:=Lh (show ∀ q,wr.drew.cell? ⟨ob,q,none⟩=wr.cell? ⟨ob,q,none⟩ from fun q=>rfl)
           clear h17 h15 h14 hop hk hp hd he hc hnl hvl hpd hpe hpc hxd hxe hxc hnc
           by_cases hodd:xc % 2=1
           · have HBT:=Lh (show Calls Tryz.prog 71 #[.slice Ac mc dc,.int .i64 0] wr fun e w'=>e=.returned (.bool true)∧wr=w' from by
               have h:=tBit HNC.out.num 0 (by decide)
               rw [show xc.testBit 0=true by rw [Nat.testBit_zero];exact decide_eq_true hodd] at h
               exact h)
             have HSV2:=Lh (show stepV k.vars o v1=(v1.set pd xe).set pe xd by rw [HSV.out,if_pos hodd])
             clear hodd
             go_upto_region 23 with (first | ((with_reducible refine HBT.out.mono ?_);rintro e_ w5 ⟨rfl,hw5⟩;subst hw5) | go_in)
             clear p0 p1 p2 p3 p4 p5 p6 yc
             have HATD:=Lh (HATR.out.next (Below.refl wr.heap.size wr).drew)
             obtain ⟨Ad,md,dd,yd,fd,hnd⟩:=HATD.out.vals.get HXD.out
             obtain ⟨Ae',me,de,ye,fe,hne⟩:=HATD.out.vals.get HXE.out
             have hv1:=HATD.out.vals.set hne pd
             obtain ⟨x2,hx2⟩:∃ x,(v1.set pd xe)[pe]? = some x:=⟨_,List.getElem?_eq_getElem (by rw [List.length_set];have:=HATD.out.vals.len;have:=HPL.out;omega)⟩
             obtain ⟨A2,m2,d2',y2,f2,_⟩:=hv1.get hx2
             have hv2:=hv1.set (hnd.put (p:=pd) (u:=.slice Ae' me de)) pe
             have HV2:=Lh hv2
             have HYD:=Lh (And.intro yd (And.intro fd (And.intro y2 (And.intro f2 ye))))
             have hE0:wr.drew.cell? ⟨ob,1,none⟩=some (.int .i64 (pd:Int))∧wr.drew.cell? ⟨ob,2,none⟩=some (.int .i64 (pe:Int))∧wr.drew.cell? ⟨g,pd,none⟩=some (.slice Ad md dd)∧wr.drew.cell? ⟨g,pe,none⟩=some (.slice Ae' me de):=⟨HP12.out.1,HP12.out.2,yd,ye⟩
             have HE0:=Lh hE0
             have hog:ob≠g:=fun e=>by
               have h1:=HE0.out.1
               have h2:=HE0.out.2.2.1
               obtain ⟨cs,_,h4,h5⟩:=HATD.out.vals.blk
               rw [e] at h1
               simp only [World.cell?,h4] at h1
               have h6:cs[1]? = some (.int .i64 (pd:Int)):=by simpa using h1
               obtain ⟨y,hy⟩:∃ y,v1[1]? = some y:=⟨_,List.getElem?_eq_getElem (by have:=HATD.out.vals.len;have:=(List.getElem?_eq_some_iff.1 h6).1;obtain ⟨cs',h7,h8,_⟩:=HATD.out.vals.blk;rw [h4] at h8;simp at h8;subst h8;omega)⟩
               obtain ⟨_,_,_,h9,_⟩:=h5 1 _ y h6 hy
               cases h9
             have HOT1:=Lh (show (wr.drew.setCell ⟨g,pd,none⟩ (.slice Ae' me de)).cell? ⟨ob,1,none⟩=some (.int .i64 (pd:Int))∧(wr.drew.setCell ⟨g,pd,none⟩ (.slice Ae' me de)).cell? ⟨ob,2,none⟩=some (.int .i64 (pe:Int)) from ⟨(World.cell?_of_block (Below.heap_setCell _ _ _ ob (fun e=>hog e))).trans HE0.out.1,(World.cell?_of_block (Below.heap_setCell _ _ _ ob (fun e=>hog e))).trans HE0.out.2.1⟩)
             have HOT2:=Lh (show ((wr.drew.setCell ⟨g,pd,none⟩ (.slice Ae' me de)).setCell ⟨g,pe,none⟩ (.slice Ad md dd)).cell? ⟨ob,1,none⟩=some (.int .i64 (pd:Int))∧((wr.drew.setCell ⟨g,pd,none⟩ (.slice Ae' me de)).setCell ⟨g,pe,none⟩ (.slice Ad md dd)).cell? ⟨ob,2,none⟩=some (.int .i64 (pe:Int)) from ⟨(World.cell?_of_block (Below.heap_setCell _ _ _ ob (fun e=>hog e))).trans HOT1.out.1,(World.cell?_of_block (Below.heap_setCell _ _ _ ob (fun e=>hog e))).trans HOT1.out.2⟩)
             clear hv1 hv2 hx2 hnd hne yd fd ye fe y2 f2 hE0 hog
             (refine wp_region_stages (fun k_ w_=>((fun k=>k == 10 || k == 15) k_=true→(fun w_=>w_.cell? ⟨g,pd,none⟩=some (.slice Ad md dd)∧w_.cell? ⟨g,pe,none⟩=some (.slice Ae' me de)) w_)∧(fun w_=>w_.cell? ⟨ob,1,none⟩=some (.int .i64 (pd:Int))∧w_.cell? ⟨ob,2,none⟩=some (.int .i64 (pe:Int))) w_) (by kernel_rfl) (by kernel_rfl) (fun _=>⟨fun _=>((And.intro HE0.out.2.2 (And.intro HE0.out.1 HE0.out.2.1))).1,((And.intro HE0.out.2.2 (And.intro HE0.out.1 HE0.out.2.1))).2⟩) ?_)
             (try simp only [])
             repeat (first | (refine runK_no (by rfl) ?_;(try simp only [Act.put,List.setIfInBounds_toArray,List.set_cons_zero,List.set_cons_succ])) | (refine runK_val (v:=?_) (by rfl) ?_ ?_;rotate_left;(focus (intro w_ hw_;obtain ⟨hE_,f2_⟩:=hw_;obtain ⟨f5_,f6_⟩:=f2_;(try (replace hE_:=hE_ (by decide);obtain ⟨f3_,f4_⟩:=hE_));go_simp;(try with_reducible rfl);done));(try simp only [Act.put,List.setIfInBounds_toArray,List.set_cons_zero,List.set_cons_succ])) | (refine runK_skip (w1:=wr.drew.setCell ⟨g,pd,none⟩ (.slice Ae' me de)) (by rfl) (by rfl) (exec_store1 68 _ _ rfl g pd _ rfl rfl (by kernel_rfl) (by rw [HYD.out.1];rfl) HYD.out.2.1 rfl) (fun k_ hk_=>⟨fun hc_=>(free_crit (C:=(fun k=>k == 10 || k == 15)) (by kernel_rfl) k_ hk_ hc_).elim,HOT1.out⟩) ?_;(try simp only [Act.put])) | (refine runK_skip (w1:=(wr.drew.setCell ⟨g,pd,none⟩ (.slice Ae' me de)).setCell ⟨g,pe,none⟩ (.slice Ad md dd)) (by rfl) (by rfl) (exec_store1 68 _ _ rfl g pe _ rfl rfl (by kernel_rfl) (by rw [HYD.out.2.2.1];rfl) HYD.out.2.2.2.1 rfl) (fun k_ hk_=>⟨fun hc_=>(free_crit (C:=(fun k=>k == 10 || k == 15)) (by kernel_rfl) k_ hk_ hc_).elim,HOT2.out⟩) ?_;(try simp only [Act.put])))
             (refine runK_nil ?_)
             have HAT9:=Lh (show DoAt W ((wr.drew.setCell ⟨g,pd,none⟩ (.slice Ae' me de)).setCell ⟨g,pe,none⟩ (.slice Ad md dd)) g n k.vars (stepV k.vars o v1) from ⟨by rw [HSV2.out];exact HV2.out,HOK2.out,(HATD.out.chg.trans (Chg.setCell (Chg.refl (fun q=>q=g) wr.drew) (p:=⟨g,pd,none⟩) (.inl rfl) _)).trans (Chg.setCell (Chg.refl (fun q=>q=g) _) (p:=⟨g,pe,none⟩) (.inl rfl) _)⟩)
             generalize (wr.drew.setCell ⟨g,pd,none⟩ (.slice Ae' me de)).setCell ⟨g,pe,none⟩ (.slice Ad md dd)=W9 at *
             clear HV2 HYD HE0
             go_wp2
             go_roundw
             case rel=>exact ⟨i+1,stepV k.vars o v1,by have:=HI.out;omega,by omega,by go_num,HLX.out,HNX.out,HAT9.out⟩
             case measure=>simp [intOf];omega
           · have HBT:=Lh (show Calls Tryz.prog 71 #[.slice Ac mc dc,.int .i64 0] wr fun e w'=>e=.returned (.bool false)∧wr=w' from by
               have h:=tBit HNC.out.num 0 (by decide)
               rw [show xc.testBit 0=false by rw [Nat.testBit_zero];exact decide_eq_false hodd] at h
               exact h)
             have HSV2:=Lh (show stepV k.vars o v1=v1 by rw [HSV.out,if_neg hodd])
             clear hodd
             go_wp2_with (first | ((with_reducible refine HBT.out.mono ?_);rintro e_ w5 ⟨rfl,hw5⟩;subst hw5) | go_in)
             go_roundw
             case rel=>exact ⟨i+1,v1,by have:=HI.out;omega,by omega,by go_num,HLX.out,by rw [←HSV2.out];exact HNX.out,HATR.out⟩
             case measure=>simp [intOf];omega
         have e14:(o.kind == 14)=false:=beq_eq_false_iff_ne.2 h14
         have hp:=oneK_parts HONE.out
         have hd:=part_d hp (by have:=hop.1;omega)
         obtain ⟨l1,l2,_⟩:=limb_pos HK1.out.vars hd
         obtain ⟨pd,hpd⟩:∃ p:Nat,o.d=p:=⟨o.d.toNat,by omega⟩
         have hnl:n=k.vars.length:=by have:=HATR.out.ok.len;have:=HATR.out.vals.len;omega
         have j1:(0:Int)≤(pd:Int):=by omega
         have j2:(pd:Int) < (n:Int):=by omega
         have j3:IntKind.i64.wrap (pd:Int)=pd:=by rw [IntKind.wrap_i64];omega
         have HSV:=Lh (show stepV k.vars o v1=v1.set pd (valK k.vars o v1) by unfold stepV;rw [if_neg h17,if_neg h14,hpd,Int.toNat_natCast])
         have HVL:=Lh (show (limbsOf (valK k.vars o v1)).length≤600 from Nat.le_trans (limbs_len_le (Nat.mod_lt _ (Nat.pow_pos (by decide)))) (by omega))
         have HVA:=Lh (fun (w_:World) (h:Below wr.heap.size wr w_)=>Value_any Av (some ⟨gg,off,none⟩) Ar nv cv no co nr cr k.vars o g n v1 w_ (by
           have hx:=HIN.out.chg ((HATR.out.next h).chg)
           obtain ⟨vv,vo,vr,e3,hkv,_,_⟩:=hx.kern.row
           simp only [List.cons.injEq,and_true] at e3
           obtain ⟨rfl,rfl,rfl⟩:=e3
           exact Rows.mono hkv fun _ hq=>hq.1) (HATR.out.vals.next h) HK1.out.vars HONE.out HATR.out.ok (by have:=hop.1;omega) HNEED.out HKO.out)
         simp only [hpd] at HVA
         have HCL:=Lh (show ∀ w_,Below wr.heap.size wr w_→(w_.cell? ⟨B,0,none⟩=some (.slice Av nv cv)∧w_.cell? ⟨B,1,none⟩=some (.slice (some ⟨gg,off,none⟩) no co)∧w_.cell? ⟨B,2,none⟩=some (.slice Ar nr cr))∧w_.cell? ⟨ob,0,none⟩=some (.int .i64 o.kind)∧w_.cell? ⟨ob,1,none⟩=some (.int .i64 (pd:Int))∧w_.cell? ⟨ob,2,none⟩=some (.int .i64 o.e)∧w_.cell? ⟨ob,3,none⟩=some (.int .i64 o.a)∧w_.cell? ⟨ob,4,none⟩=some (.int .i64 o.b)∧w_.cell? ⟨ob,5,none⟩=some (.int .i64 o.c)∧w_.cell? ⟨ob,6,none⟩=some (.int .u64 o.imm) from fun w_ h=>by
           have h1:=HOC.out w_ (HCW.out.trans (Chg.of_below h))
           rw [hpd] at h1
           exact ⟨HKB.out w_ (HATR.out.next h).chg,h1⟩)
         have HPD:=Lh hpd
         have HGT:=Lh HATR.out.vals.lt
         have HPL:=Lh (show pd < n by omega)
         clear h17 h15 h14 hop hk hp hd l1 l2 hnl
         go_upto_region 12 with (first | go_in)
         clear p0 p1 p2 p3 p4 p5 p6
         clear hpd
         have hS:=(Below.refl wr.heap.size wr).drew
         have HGD:=Lh (show ∃ x,v1[pd]? = some x from ⟨_,List.getElem?_eq_getElem (by have:=HATR.out.vals.len;have:=HPL.out;omega)⟩)
         (refine wp_region_lines (Below wr.heap.size wr) (by kernel_rfl) (by kernel_rfl) ((Below.refl wr.heap.size wr).drew) ?_)
         (try simp only [])
         repeat (first | (refine runL_no (by rfl) ?_;(try simp only [Act.put,List.setIfInBounds_toArray,List.set_cons_zero,List.set_cons_succ])) | (refine runL_val (v:=?_) (by rfl) ?_ ?_;rotate_left;(focus (intro w_ hw_;obtain ⟨⟨f0_,f1_,f2_⟩,f3_,f4_,f5_,f6_,f7_,f8_,f9_⟩:=HCL.out w_ hw_;go_simp;(try with_reducible rfl);done));(try simp only [Act.put,List.setIfInBounds_toArray,List.set_cons_zero,List.set_cons_succ])) | (refine runL_call (f:=?_) (args:=?_) (w1:=?_) (by rfl) (by rfl) ?_ ?_;rotate_left 3;(focus (go_simp;refine ⟨⟨?_,?_⟩,?_⟩ <;> with_reducible rfl));(with_reducible refine (HVA.out _ hS).mono ?_);rintro e_ w9 ⟨A9,n9,c9,rfl,h9_,hn9_,ho9_,hb9_⟩;have HF9:=Lh (NumF.told ho9_ hn9_ (Nat.lt_of_lt_of_le HGT.out hS.size) HVL.out);replace hS:=hS.trans (hb9_.mono hS.size);clear h9_ hn9_ ho9_ hb9_;refine ⟨_,rfl,.inr hS,?_⟩;(try simp only [Act.put,List.setIfInBounds_toArray,List.set_cons_zero,List.set_cons_succ])) | (refine runL_skip (w1:=w9.setCell ⟨g,pd,none⟩ (.slice A9 n9 c9)) (by rfl) (by rfl) (exec_store1 68 _ _ rfl g pd (.slice A9 n9 c9) rfl rfl (by kernel_rfl) (by obtain ⟨x_,hx_⟩:=HGD.out;obtain ⟨A_,m_,d_,h1_,h2_,_⟩:=(HATR.out.next hS).vals.get hx_;rw [h1_];rfl) (by obtain ⟨x_,hx_⟩:=HGD.out;obtain ⟨A_,m_,d_,h1_,h2_,_⟩:=(HATR.out.next hS).vals.get hx_;exact h2_) rfl) (.inl ⟨rfl,by kernel_rfl⟩) ?_;(try simp only [Act.put])))
         (refine runL_nil ?_)
         have HAT9:=Lh (show DoAt W (w9.setCell ⟨g,pd,none⟩ (.slice A9 n9 c9)) g n k.vars (stepV k.vars o v1) from ⟨by rw [HSV.out];exact (HATR.out.next hS).vals.set HF9.out pd,HOK2.out,(HATR.out.next hS).chg.trans (Chg.setCell (Chg.refl (fun q=>q=g) w9) (p:=⟨g,pd,none⟩) (.inl rfl) _)⟩)
         clear hS
         generalize w9.setCell ⟨g,pd,none⟩ (.slice A9 n9 c9)=W9 at *
         go_wp2
         go_roundw
         case rel=>exact ⟨i+1,stepV k.vars o v1,by have:=HI.out;omega,by omega,by go_num,HLX.out,HNX.out,HAT9.out⟩
         case measure=>simp [intOf];omega
end Go.Proofs.YtjbabpnepjhllaaGreat
namespace Go.Proofs.YtjbabpnepjhllaaGreat
open Go.RowKit
set_option maxRecDepth 100000
set_option maxHeartbeats 4000000 in
theorem rshape_any (k:Int) (w:World):Calls Tryz.prog 55 #[.int .i64 k] w fun e w'=>e=.returned (.int .i64 (if 1≤k∧k≤16 then shapeK k else -1))∧w'=w:=by
 by_cases h:1≤k∧k≤16
 · rcases kinds16 h with rfl | rfl | rfl | rfl | rfl | rfl | rfl | rfl | rfl | rfl | rfl | rfl | rfl | rfl | rfl | rfl
   all_goals
     clear h
     go_enter Tryz.func55,Tryz.ntmps55
     go_wp2
     go_ret
     exact ⟨rfl,rfl⟩
 · have HV:=Lh (show (Value.int .i64 (if 1≤k∧k≤16 then shapeK k else -1))=.int .i64 (-1) by rw [if_neg h])
   have hne:∀ j:Int,1≤j∧j≤16→(k == j)=false:=fun j hj=>beq_eq_false_iff_ne.2 (by omega)
   have e1:=hne 1 (by omega)
   have e2:=hne 2 (by omega)
   have e3:=hne 3 (by omega)
   have e4:=hne 4 (by omega)
   have e5:=hne 5 (by omega)
   have e6:=hne 6 (by omega)
   have e7:=hne 7 (by omega)
   have e8:=hne 8 (by omega)
   have e9:=hne 9 (by omega)
   have e10:=hne 10 (by omega)
   have e11:=hne 11 (by omega)
   have e12:=hne 12 (by omega)
   have e13:=hne 13 (by omega)
   have e14:=hne 14 (by omega)
   have e15:=hne 15 (by omega)
   have e16:=hne 16 (by omega)
   clear hne h
   rw [HV.out]
   go_enter Tryz.func55,Tryz.ntmps55
   go_wp2
   go_ret
   exact ⟨rfl,rfl⟩
set_option maxHeartbeats 4000000 in
theorem rfields_any (o:KOp) (w:World):Calls Tryz.prog 56 #[.agg #[.int .i64 o.kind,.int .i64 o.d,.int .i64 o.e,.int .i64 o.a,.int .i64 o.b,.int .i64 o.c,.int .u64 o.imm]] w fun e w'=>e=.returned (.agg #[.int .i64 o.d,.int .i64 o.e,.int .i64 o.a,.int .i64 o.b,.int .i64 o.c])∧Below w.heap.size w w':=by
 go_enter Tryz.func56,Tryz.ntmps56
 go_wp2
 refine bodyPost_ret (results_cell_row (ty:=90) rfl _ _ (w.heap.size+1) 90 #[.int .i64 o.d,.int .i64 o.e,.int .i64 o.a,.int .i64 o.b,.int .i64 o.c] (0,0) _ rfl ?_ Tryz.underlying90 rfl (by kernel_rfl)) rfl ⟨rfl,?_⟩
 · have h:=heap_alloc_new (w.alloc (.cells #[.int .i64 o.kind,.int .i64 o.d,.int .i64 o.e,.int .i64 o.a,.int .i64 o.b,.int .i64 o.c,.int .u64 o.imm] 43)) (.cells #[.int .i64 o.d,.int .i64 o.e,.int .i64 o.a,.int .i64 o.b,.int .i64 o.c] 90)
   simpa using h
 · exact ((Below.refl _ _).alloc (Nat.le_refl _) _).alloc (by simp) _
set_option maxHeartbeats 4000000 in
theorem rnumber_any (o:KOp) (w:World):Calls Tryz.prog 57 #[.agg #[.int .i64 o.kind,.int .i64 o.d,.int .i64 o.e,.int .i64 o.a,.int .i64 o.b,.int .i64 o.c,.int .u64 o.imm]] w fun e w'=>e=.returned (.bool (numK o))∧Below w.heap.size w w':=by
 have hx:numK o=if o.kind=1 then true else if o.kind=13 then decide (1≤o.imm) && decide (o.imm≤6) else if o.kind=15 then decide (1≤o.imm) && decide (o.imm≤4096) else decide (o.imm=0):=rfl
 cases d1:(o.kind == 1)
 rotate_left
 · have HX:=Lh (show numK o=true by rw [hx,if_pos (by simpa using d1)])
   clear hx
   go_enter Tryz.func57,Tryz.ntmps57
   go_wp2
   go_ret
   exact ⟨ret_bool HX.out.symm,(Below.refl _ _).alloc (Nat.le_refl _) _⟩
 rw [if_neg (by simpa using d1)] at hx
 cases d13:(o.kind == 13)
 rotate_left
 · rw [if_pos (by simpa using d13)] at hx
   cases d2:decide ((1:Int)≤(o.imm:Int))
   · have HX:=Lh (show numK o=false by rw [hx,show decide (1≤o.imm)=false from decide_eq_false (by have:=of_decide_eq_false d2;omega)];rfl)
     clear hx
     go_enter Tryz.func57,Tryz.ntmps57
     go_wp2
     go_ret
     exact ⟨ret_bool HX.out.symm,(Below.refl _ _).alloc (Nat.le_refl _) _⟩
   · cases d3:decide ((o.imm:Int)≤6)
     · have HX:=Lh (show numK o=false by rw [hx,show decide (o.imm≤6)=false from decide_eq_false (by have:=of_decide_eq_false d3;omega),Bool.and_false])
       clear hx
       go_enter Tryz.func57,Tryz.ntmps57
       go_wp2
       go_ret
       exact ⟨ret_bool HX.out.symm,(Below.refl _ _).alloc (Nat.le_refl _) _⟩
     · have HX:=Lh (show numK o=true by rw [hx,show decide (1≤o.imm)=true from decide_eq_true (by have:=of_decide_eq_true d2;omega),show decide (o.imm≤6)=true from decide_eq_true (by have:=of_decide_eq_true d3;omega)];rfl)
       clear hx
       go_enter Tryz.func57,Tryz.ntmps57
       go_wp2
       go_ret
       exact ⟨ret_bool HX.out.symm,(Below.refl _ _).alloc (Nat.le_refl _) _⟩
 rw [if_neg (by simpa using d13)] at hx
 cases d15:(o.kind == 15)
 rotate_left
 · rw [if_pos (by simpa using d15)] at hx
   cases d2:decide ((1:Int)≤(o.imm:Int))
   · have HX:=Lh (show numK o=false by rw [hx,show decide (1≤o.imm)=false from decide_eq_false (by have:=of_decide_eq_false d2;omega)];rfl)
     clear hx
     go_enter Tryz.func57,Tryz.ntmps57
     go_wp2
     go_ret
     exact ⟨ret_bool HX.out.symm,(Below.refl _ _).alloc (Nat.le_refl _) _⟩
   · cases d3:decide ((o.imm:Int)≤4096)
     · have HX:=Lh (show numK o=false by rw [hx,show decide (o.imm≤4096)=false from decide_eq_false (by have:=of_decide_eq_false d3;omega),Bool.and_false])
       clear hx
       go_enter Tryz.func57,Tryz.ntmps57
       go_wp2
       go_ret
       exact ⟨ret_bool HX.out.symm,(Below.refl _ _).alloc (Nat.le_refl _) _⟩
     · have HX:=Lh (show numK o=true by rw [hx,show decide (1≤o.imm)=true from decide_eq_true (by have:=of_decide_eq_true d2;omega),show decide (o.imm≤4096)=true from decide_eq_true (by have:=of_decide_eq_true d3;omega)];rfl)
       clear hx
       go_enter Tryz.func57,Tryz.ntmps57
       go_wp2
       go_ret
       exact ⟨ret_bool HX.out.symm,(Below.refl _ _).alloc (Nat.le_refl _) _⟩
 rw [if_neg (by simpa using d15)] at hx
 cases d0:((o.imm:Int) == 0)
 · have HX:=Lh (show numK o=false by rw [hx];exact decide_eq_false (by have:=beq_eq_false_iff_ne.1 d0;omega))
   clear hx
   go_enter Tryz.func57,Tryz.ntmps57
   go_wp2
   go_ret
   exact ⟨ret_bool HX.out.symm,(Below.refl _ _).alloc (Nat.le_refl _) _⟩
 · have HX:=Lh (show numK o=true by rw [hx];exact decide_eq_true (by have:=beq_iff_eq.1 d0;omega))
   clear hx
   go_enter Tryz.func57,Tryz.ntmps57
   go_wp2
   go_ret
   exact ⟨ret_bool HX.out.symm,(Below.refl _ _).alloc (Nat.le_refl _) _⟩
set_option maxHeartbeats 4000000 in
theorem rneed_any (A:Option Addr) (n c:Nat) (o:KOp) (w:World):Calls Tryz.prog 33 #[.slice A n c,.agg #[.int .i64 o.kind,.int .i64 o.d,.int .i64 o.e,.int .i64 o.a,.int .i64 o.b,.int .i64 o.c,.int .u64 o.imm]] w fun e w'=>e=.returned (.bool (needK n o))∧Below w.heap.size w w':=by
 have hx:needK n o=(o.d == -1 && (o.e == -1 && (o.c == -1 && (thereK n o.a && (if o.imm=2 then thereK n o.b else if o.imm=1∨o.imm=3 then o.b == -1 else false))))):=rfl
 cases d1:(o.d == -1)
 · have d1':=ne_of d1
   have HX:=Lh (show needK n o=false by rw [hx,d1];rfl)
   clear hx
   go_enter Tryz.func33,Tryz.ntmps33
   go_wp2
   go_ret
   exact ⟨ret_bool HX.out.symm,(Below.refl _ _).alloc (Nat.le_refl _) _⟩
 have d1':=ne_of d1
 cases d2:(o.e == -1)
 · have d2':=ne_of d2
   have HX:=Lh (show needK n o=false by rw [hx,d1,d2];rfl)
   clear hx
   go_enter Tryz.func33,Tryz.ntmps33
   go_wp2
   go_ret
   exact ⟨ret_bool HX.out.symm,(Below.refl _ _).alloc (Nat.le_refl _) _⟩
 have d2':=ne_of d2
 cases d3:(o.c == -1)
 · have d3':=ne_of d3
   have HX:=Lh (show needK n o=false by rw [hx,d1,d2,d3];rfl)
   clear hx
   go_enter Tryz.func33,Tryz.ntmps33
   go_wp2
   go_ret
   exact ⟨ret_bool HX.out.symm,(Below.refl _ _).alloc (Nat.le_refl _) _⟩
 have d3':=ne_of d3
 rw [d1,d2,d3,Bool.true_and,Bool.true_and,Bool.true_and] at hx
 cases d4:decide (o.a < 0)
 rotate_left
 · have HX:=Lh (show needK n o=false by rw [hx,show thereK n o.a=false by unfold thereK;rw [show decide (0≤o.a)=false from decide_eq_false (by have:=of_decide_eq_true d4;omega)];rfl];rfl)
   clear hx
   go_enter Tryz.func33,Tryz.ntmps33
   go_wp2
   go_ret
   exact ⟨ret_bool HX.out.symm,(Below.refl _ _).alloc (Nat.le_refl _) _⟩
 cases d5:decide ((n:Int)≤o.a)
 rotate_left
 · have HX:=Lh (show needK n o=false by rw [hx,show thereK n o.a=false by unfold thereK;rw [show decide (o.a < (n:Int))=false from decide_eq_false (by have:=of_decide_eq_true d5;omega),Bool.and_false]];rfl)
   clear hx
   go_enter Tryz.func33,Tryz.ntmps33
   go_wp2
   go_ret
   exact ⟨ret_bool HX.out.symm,(Below.refl _ _).alloc (Nat.le_refl _) _⟩
 rw [show thereK n o.a=true by unfold thereK;rw [decide_eq_true (by have:=of_decide_eq_false d4;omega),decide_eq_true (by have:=of_decide_eq_false d5;omega)];rfl,Bool.true_and] at hx
 cases d6:decide ((o.imm:Int) < 1)
 rotate_left
 · have HX:=Lh (show needK n o=false by rw [hx,if_neg (by have:=of_decide_eq_true d6;omega),if_neg (by have:=of_decide_eq_true d6;omega)])
   clear hx
   go_enter Tryz.func33,Tryz.ntmps33
   go_wp2
   go_ret
   exact ⟨ret_bool HX.out.symm,(Below.refl _ _).alloc (Nat.le_refl _) _⟩
 cases d7:decide ((3:Int) < (o.imm:Int))
 rotate_left
 · have HX:=Lh (show needK n o=false by rw [hx,if_neg (by have:=of_decide_eq_true d7;omega),if_neg (by have:=of_decide_eq_true d7;omega)])
   clear hx
   go_enter Tryz.func33,Tryz.ntmps33
   go_wp2
   go_ret
   exact ⟨ret_bool HX.out.symm,(Below.refl _ _).alloc (Nat.le_refl _) _⟩
 cases d8:((o.imm:Int) == 2)
 rotate_left
 · rw [if_pos (by have:=beq_iff_eq.1 d8;omega)] at hx
   cases d9:decide (0≤o.b)
   · have HX:=Lh (show needK n o=false by rw [hx];unfold thereK;rw [d9];rfl)
     clear hx
     go_enter Tryz.func33,Tryz.ntmps33
     go_wp2
     go_ret
     exact ⟨ret_bool HX.out.symm,(Below.refl _ _).alloc (Nat.le_refl _) _⟩
   cases d10:decide (o.b < (n:Int))
   · have HX:=Lh (show needK n o=false by rw [hx];unfold thereK;rw [d10,Bool.and_false])
     clear hx
     go_enter Tryz.func33,Tryz.ntmps33
     go_wp2
     go_ret
     exact ⟨ret_bool HX.out.symm,(Below.refl _ _).alloc (Nat.le_refl _) _⟩
   have HX:=Lh (show needK n o=true by rw [hx];unfold thereK;rw [d9,d10];rfl)
   clear hx
   go_enter Tryz.func33,Tryz.ntmps33
   go_wp2
   go_ret
   exact ⟨ret_bool HX.out.symm,(Below.refl _ _).alloc (Nat.le_refl _) _⟩
 rw [if_neg (by have:=beq_eq_false_iff_ne.1 d8;omega),if_pos (by have:=beq_eq_false_iff_ne.1 d8;have:=of_decide_eq_false d7;have:=of_decide_eq_false d6;omega)] at hx
 cases d9:(o.b == -1)
 · have HX:=Lh (show needK n o=false by rw [hx,d9])
   clear hx
   go_enter Tryz.func33,Tryz.ntmps33
   go_wp2
   go_ret
   exact ⟨ret_bool HX.out.symm,(Below.refl _ _).alloc (Nat.le_refl _) _⟩
 have HX:=Lh (show needK n o=true by rw [hx,d9])
 clear hx
 go_enter Tryz.func33,Tryz.ntmps33
 go_wp2
 go_ret
 exact ⟨ret_bool HX.out.symm,(Below.refl _ _).alloc (Nat.le_refl _) _⟩
end Go.Proofs.YtjbabpnepjhllaaGreat
namespace Go.Proofs.YtjbabpnepjhllaaGreat
open Go.RowKit
set_option maxRecDepth 100000
theorem nums_new2 (w:World) (X:Obj) (l:List Int):NumsSay l w (.returned (.slice (some ⟨w.heap.size+1,0,none⟩) l.length l.length)) ((w.alloc X).alloc (.cells (intV l).toArray 3)):=by
 have h:=heap_alloc_new (w.alloc X) (.cells (intV l).toArray 3)
 have hz:(w.alloc X).heap.size=w.heap.size+1:=by simp
 rw [hz] at h
 exact ⟨_,_,_,rfl,Rows.mono (nums_blk h) (fun q hq=>by subst hq;exact lt_of_block h),((Below.refl _ _).alloc (Nat.le_refl _) _).alloc (by simp) _⟩
theorem nums_nil2 (w:World) (X:Obj):NumsSay [] w (.returned (.slice none 0 0)) (w.alloc X) :=
 ⟨none,0,0,rfl,⟨none,0,rfl,by simp,by simp,fun h=>absurd rfl h⟩,(Below.refl _ _).alloc (Nat.le_refl _) _⟩
set_option maxHeartbeats 8000000 in
theorem ralike_at (k d e a b c:Int) (imm:Nat) (w:World):Calls Tryz.prog 84 #[.agg #[.int .i64 k,.int .i64 d,.int .i64 e,.int .i64 a,.int .i64 b,.int .i64 c,.int .u64 imm]] w (NumsSay (alikeK ⟨k,d,e,a,b,c,imm⟩) w):=by
 by_cases hk:k=6
 · subst hk
   go_enter Tryz.func84,Tryz.ntmps84
   go_wp2
   go_ret
   exact nums_new2 w _ [a,b]
 have e6:(k == 6)=false:=beq_eq_false_iff_ne.2 hk
 have n6:=Lh hk
 clear hk
 by_cases hk:k=14
 · subst hk
   go_enter Tryz.func84,Tryz.ntmps84
   go_wp2
   go_ret
   exact nums_new2 w _ [d,e]
 have e14:(k == 14)=false:=beq_eq_false_iff_ne.2 hk
 have n14:=Lh hk
 clear hk
 by_cases hk:k=8
 · subst hk
   go_enter Tryz.func84,Tryz.ntmps84
   go_wp2
   go_ret
   exact nums_new2 w _ [d,a,b]
 have e8:(k == 8)=false:=beq_eq_false_iff_ne.2 hk
 have n8:=Lh hk
 clear hk
 by_cases hk:k=9
 · subst hk
   go_enter Tryz.func84,Tryz.ntmps84
   go_wp2
   go_ret
   exact nums_new2 w _ [d,c]
 have e9:(k == 9)=false:=beq_eq_false_iff_ne.2 hk
 have n9:=Lh hk
 clear hk
 by_cases hk:k=10
 · subst hk
   go_enter Tryz.func84,Tryz.ntmps84
   go_wp2
   go_ret
   exact nums_new2 w _ [d,a,b,c]
 have e10:(k == 10)=false:=beq_eq_false_iff_ne.2 hk
 have n10:=Lh hk
 clear hk
 by_cases hk:k=11
 · subst hk
   go_enter Tryz.func84,Tryz.ntmps84
   go_wp2
   go_ret
   exact nums_new2 w _ [d,a,b,c]
 have e11:(k == 11)=false:=beq_eq_false_iff_ne.2 hk
 have n11:=Lh hk
 clear hk
 by_cases hk:k=12
 · subst hk
   go_enter Tryz.func84,Tryz.ntmps84
   go_wp2
   go_ret
   exact nums_new2 w _ [d,a,b,c]
 have e12:(k == 12)=false:=beq_eq_false_iff_ne.2 hk
 have n12:=Lh hk
 clear hk
 by_cases hk:k=13
 · subst hk
   go_enter Tryz.func84,Tryz.ntmps84
   go_wp2
   go_ret
   exact nums_new2 w _ [d,a,c]
 have e13:(k == 13)=false:=beq_eq_false_iff_ne.2 hk
 have HX:=Lh (show alikeK ⟨k,d,e,a,b,c,imm⟩=[] by
   have:=n6.out;have:=n14.out;have:=n8.out;have:=n9.out;have:=n10.out;have:=n11.out;have:=n12.out
   unfold alikeK
   simp_all)
 rw [HX.out]
 clear hk
 go_enter Tryz.func84,Tryz.ntmps84
 go_wp2
 go_ret
 exact nums_nil2 w _
theorem ralike_any (o:KOp) (w:World):Calls Tryz.prog 84 #[.agg #[.int .i64 o.kind,.int .i64 o.d,.int .i64 o.e,.int .i64 o.a,.int .i64 o.b,.int .i64 o.c,.int .u64 o.imm]] w (NumsSay (alikeK o) w):=ralike_at o.kind o.d o.e o.a o.b o.c o.imm w
theorem agree_no {vs:List KVar} {o:KOp} {j:Nat} {v h:Int} (hv:(alikeK o)[j]? = some v) (hh:(alikeK o)[0]? = some h) (hne:(varK vs v).limbs≠(varK vs h).limbs):agreeK vs o=false:=by
 unfold agreeK
 rw [List.all_eq_false]
 refine ⟨v,List.mem_of_getElem? hv,?_⟩
 have:(alikeK o).headD 0=h:=by cases hl:alikeK o with
   | nil=>rw [hl] at hh;cases hh
   | cons x l=>rw [hl] at hh;simpa using hh
 rw [this]
 simpa using hne
theorem agree_yes {vs:List KVar} {o:KOp} (h:∀ (j:Nat) (v h:Int),(alikeK o)[j]? = some v→(alikeK o)[0]? = some h→(varK vs v).limbs=(varK vs h).limbs):agreeK vs o=true:=by
 unfold agreeK
 rw [List.all_eq_true]
 intro v hv
 obtain ⟨j,hj⟩:=List.mem_iff_getElem?.1 hv
 cases hl:alikeK o with
 | nil=>rw [hl] at hv;cases hv
 | cons x l=>simpa using h j v x hj (by rw [hl];rfl)
set_option maxHeartbeats 8000000 in
theorem ragree_any (Av:Option Addr) (nv cv:Nat) (vs:List KVar) (o:KOp) (w:World) (F:Nat→Prop) (hv:KVarsAt w F (.slice Av nv cv) vs) (hF:∀ k,F k→k < w.heap.size) (hn:vs.length≤100000)
   (hin:∀ v∈alikeK o,0≤v∧v < (vs.length:Int)) :
   Calls Tryz.prog 58 #[.slice Av nv cv,.agg #[.int .i64 o.kind,.int .i64 o.d,.int .i64 o.e,.int .i64 o.a,.int .i64 o.b,.int .i64 o.c,.int .u64 o.imm]] w fun e w'=>e=.returned (.bool (agreeK vs o))∧Below w.heap.size w w':=by
 obtain ⟨W,hW⟩:∃ W,W=w.alloc (.cells #[.int .i64 o.kind,.int .i64 o.d,.int .i64 o.e,.int .i64 o.a,.int .i64 o.b,.int .i64 o.c,.int .u64 o.imm] 43):=⟨_,rfl⟩
 have hb:Below w.heap.size w W:=by rw [hW];exact (Below.refl _ _).alloc (Nat.le_refl _) _
 have hbx:OpBox W w.heap.size o:=OpBox.of (t:=43) (fr:=(0,0)) (by rw [hW];exact heap_alloc_new w _)
 have HW:=Lh hW
 have HB:=Lh hb
 have HAL:=Lh (ralike_any o W)
 have HVS:=Lh (show KVarsAt W (fun q=>q < W.heap.size) (.slice Av nv cv) vs from Rows.mono (Rows.keep hv (SameOn.of_below hb hF)) fun q hq=>Nat.lt_of_lt_of_le (hF q hq) hb.size)
 have HIN:=Lh hin
 have HNV:=Lh (rows_len hv).1
 have n4:nv≤100000:=by have:=(rows_len hv).1;omega
 have c0:=hbx.kind
 have c1:=hbx.d
 have c2:=hbx.e
 have c3:=hbx.a
 have c4:=hbx.b
 have c5:=hbx.c
 have c6:=hbx.imm
 clear hW hb hbx hv hF hn hin
 go_enter Tryz.func58,Tryz.ntmps58
 go_upto_region 1 with (first | go_in)
 rw [←HW.out]
 clear HW
 go_upto_region 2 with (first | ((with_reducible refine HAL.out.mono ?_);rintro e w1 ⟨Al,nl,cl,rfl,hl1,hb1⟩;have HL1:=Lh hl1;have HB1:=Lh hb1;clear hl1 hb1) | go_in)
 clear c0 c1 c2 c3 c4 c5 c6
 have hnl:=(rows_len HL1.out).1
 have HNL:=Lh hnl
 have hln:nl≤4:=by
   rw [hnl]
   unfold alikeK
   repeat' split
   all_goals simp
 clear hnl
 go_wp2
 go_loopw [4,6] (fun _ s6 wr=>∃ i:Nat,1≤i∧(i≤nl∨i=1)∧s6=.int .i64 (i:Nat)∧(∀ (j:Nat) (v h:Int),j < i→(alikeK o)[j]? = some v→(alikeK o)[0]? = some h→(varK vs v).limbs=(varK vs h).limbs)∧Below w1.heap.size w1 wr) (fun _ s6 _=>nl+1 - (intOf s6).toNat)
 case atStart =>
   refine ⟨1,Nat.le_refl _,.inr rfl,rfl,fun j v h hj h1 h2=>?_,Below.refl _ _⟩
   have e:j=0:=by omega
   subst e
   rw [h1] at h2
   cases h2
   rfl
 case round =>
   obtain ⟨i,hi1,hi2,rfl,hms,hbr⟩:=hrel
   have HMS:=Lh hms
   have HBR:=Lh hbr
   by_cases hlt:i < nl
   · have d1:decide (i < nl)=true:=decide_eq_true hlt
     obtain ⟨v,hx⟩:∃ v,(alikeK o)[i]? = some v:=⟨_,List.getElem?_eq_getElem (by have:=HNL.out;omega)⟩
     obtain ⟨h,hh⟩:∃ v,(alikeK o)[0]? = some v:=⟨_,List.getElem?_eq_getElem (by have:=HNL.out;omega)⟩
     have hvr:=HIN.out v (List.mem_of_getElem? hx)
     have hhr:=HIN.out h (List.mem_of_getElem? hh)
     obtain ⟨v',hv'⟩:∃ n:Nat,v=n:=⟨v.toNat,by omega⟩
     obtain ⟨h',hh'⟩:∃ n:Nat,h=n:=⟨h.toNat,by omega⟩
     subst hv';subst hh'
     obtain ⟨x,hxv⟩:∃ x,vs[v']? = some x:=⟨_,List.getElem?_eq_getElem (by omega)⟩
     obtain ⟨y,hyv⟩:∃ x,vs[h']? = some x:=⟨_,List.getElem?_eq_getElem (by omega)⟩
     have hlr:NumsAt wr (fun q=>q < wr.heap.size) (.slice Al nl cl) (alikeK o):=rows_next HL1.out hbr
     have hvw:KVarsAt wr (fun q=>q < wr.heap.size) (.slice Av nv cv) vs:=rows_next HVS.out (HB1.out.trans (hbr.mono HB1.out.size))
     obtain ⟨gl,ol,hA,hg,z0⟩:=hlr.at_ hx
     obtain ⟨gl',ol',hA',hg',z1⟩:=hlr.at_ hh
     have hAe:=hA.symm.trans hA'
     simp only [Option.some.injEq,Addr.mk.injEq,and_true] at hAe
     obtain ⟨e1,e2⟩:=hAe
     subst e1;subst e2
     obtain ⟨gv,ov,hB,hgv,y0,_,_⟩:=hvw.at_ hxv
     obtain ⟨gv',ov',hB',hgv',y1,_,_⟩:=hvw.at_ hyv
     have hBe:=hB.symm.trans hB'
     simp only [Option.some.injEq,Addr.mk.injEq,and_true] at hBe
     obtain ⟨e1,e2⟩:=hBe
     subst e1;subst e2
     rw [Nat.add_zero] at z1
     have HFC:=Lh (show ∀ w_,Below wr.heap.size wr w_→w_.cell? ⟨gl,ol+i,none⟩=some (.int .i64 (v':Int))∧w_.cell? ⟨gl,ol,none⟩=some (.int .i64 (h':Int))∧w_.cell? ⟨gv,ov+v'*3,none⟩=some (.int .i64 x.limbs)∧w_.cell? ⟨gv,ov+h'*3,none⟩=some (.int .i64 y.limbs) from fun w_ h=>⟨(h.cell (p:=⟨gl,ol+i,none⟩) hg).trans z0,(h.cell (p:=⟨gl,ol,none⟩) hg).trans z1,(h.cell (p:=⟨gv,ov+v'*3,none⟩) hgv).trans y0,(h.cell (p:=⟨gv,ov+h'*3,none⟩) hgv).trans y1⟩)
     have hvx:(varK vs (v':Int)).limbs=x.limbs:=by unfold varK;rw [Int.toNat_natCast,List.getD_eq_getElem?_getD,hxv];rfl
     have hhy:(varK vs (h':Int)).limbs=y.limbs:=by unfold varK;rw [Int.toNat_natCast,List.getD_eq_getElem?_getD,hyv];rfl
     have i0:(0:Int)≤(i:Int):=by omega
     have i1:(i:Int) < (nl:Int):=by omega
     have i2:IntKind.i64.wrap (i:Int)=i:=by rw [IntKind.wrap_i64];omega
     have i3:0 < nl:=by omega
     have j0:(0:Int)≤(v':Int):=by omega
     have j1:(v':Int) < (nv:Int):=by have:=HNV.out;omega
     have j2:IntKind.i64.wrap (v':Int)=v':=by rw [IntKind.wrap_i64];omega
     have k0:(0:Int)≤(h':Int):=by omega
     have k1:(h':Int) < (nv:Int):=by have:=HNV.out;omega
     have k2:IntKind.i64.wrap (h':Int)=h':=by rw [IntKind.wrap_i64];omega
     have HX:=Lh (And.intro hx (And.intro hh (And.intro hvx hhy)))
     have HI:=Lh hi1
     subst hA;subst hB
     clear hx hh hvr hhr hxv hyv hlr hvw hg hg' hA' hB' hgv hgv' y0 y1 z0 z1 hvx hhy hms hbr hi1 hi2
     cases hne:(x.limbs != y.limbs)
     · have HE:=Lh (show x.limbs=y.limbs by simpa using hne)
       go_upto_region 5 with (first | go_in)
       (refine wp_region_lines (Below wr.heap.size wr) (by kernel_rfl) (by kernel_rfl) ((Below.refl wr.heap.size wr).drew) ?_)
       (try simp only [])
       repeat (first | (refine runL_no (by rfl) ?_;(try simp only [Act.put,List.setIfInBounds_toArray,List.set_cons_zero,List.set_cons_succ])) | (refine runL_val (v:=?_) (by rfl) ?_ ?_;rotate_left;(focus (intro w_ hw_;obtain ⟨f0_,f1_,f2_,f3_⟩:=HFC.out w_ hw_;go_simp;(try with_reducible rfl);done));(try simp only [Act.put,List.setIfInBounds_toArray,List.set_cons_zero,List.set_cons_succ])))
       (refine runL_nil ?_)
       go_wp2
       go_roundw
       case rel =>
         refine ⟨i+1,by omega,by omega,by go_num,fun j v h hj h1 h2=>?_,HBR.out.drew⟩
         by_cases e:j=i
         · subst e
           rw [HX.out.1] at h1;cases h1
           rw [HX.out.2.1] at h2;cases h2
           rw [HX.out.2.2.1,HX.out.2.2.2];exact HE.out
         · exact HMS.out j v h (by omega) h1 h2
       case measure=>simp [intOf];omega
     · have HN:=Lh (show agreeK vs o=false from agree_no HX.out.1 HX.out.2.1 (by rw [HX.out.2.2.1,HX.out.2.2.2];simpa using hne))
       go_upto_region 5 with (first | go_in)
       (refine wp_region_lines (Below wr.heap.size wr) (by kernel_rfl) (by kernel_rfl) ((Below.refl wr.heap.size wr).drew) ?_)
       (try simp only [])
       repeat (first | (refine runL_no (by rfl) ?_;(try simp only [Act.put,List.setIfInBounds_toArray,List.set_cons_zero,List.set_cons_succ])) | (refine runL_val (v:=?_) (by rfl) ?_ ?_;rotate_left;(focus (intro w_ hw_;obtain ⟨f0_,f1_,f2_,f3_⟩:=HFC.out w_ hw_;go_simp;(try with_reducible rfl);done));(try simp only [Act.put,List.setIfInBounds_toArray,List.set_cons_zero,List.set_cons_succ])))
       (refine runL_nil ?_)
       go_wp2
       go_ret
       exact ⟨ret_bool HN.out.symm,HB.out.trans ((HB1.out.trans (HBR.out.drew.mono HB1.out.size)).mono HB.out.size)⟩
   · have d1:decide (i < nl)=false:=decide_eq_false hlt
     have HN:=Lh (show agreeK vs o=true from agree_yes fun j v h h1 h2=>hms j v h (by have:=(List.getElem?_eq_some_iff.1 h1).1;have:=HNL.out;omega) h1 h2)
     clear hms hbr hi2
     go_wp2
     go_ret
     exact ⟨ret_bool HN.out.symm,HB.out.trans ((HB1.out.trans (HBR.out.mono HB1.out.size)).mono HB.out.size)⟩
end Go.Proofs.YtjbabpnepjhllaaGreat
