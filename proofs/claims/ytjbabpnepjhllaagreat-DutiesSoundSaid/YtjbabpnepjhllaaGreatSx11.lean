/- Part 11 of a claim; what it proves stands in its last text. -/
import Derived.Test.YtjbabpnepjhllaaGreatSx5
import Derived.Test.YtjbabpnepjhllaaGreatSx6
import Derived.Test.YtjbabpnepjhllaaGreatSx10
import Derived.Test.YtjbabpnepjhllaaGreatSx2
import Derived.Deep.MidRow
import Derived.Laws.IdiomCopy
import Derived.Maps.AppendAt
import Derived.Test.YtjbabpnepjhllaaGreatSx7
namespace Go.Proofs.YtjbabpnepjhllaaGreat
open Go.RowKit
set_option maxRecDepth 100000
structure NumF (w:World) (g:Nat) (A:Option Addr) (n c x:Nat):Prop where
 at_:∃ l,UsAt w (fun k=>k < w.heap.size∧k≠g) (.slice A n c) l∧LimbOk l∧natV l=x
 le:n≤600
theorem NumF.num {w:World} {g n c x:Nat} {A:Option Addr} (h:NumF w g A n c x):NumAt w A n c x:=by
 obtain ⟨l,h1,h2,h3⟩:=h.at_
 exact ⟨⟨l,us_all h1,h2,h3⟩,Nat.le_trans h.le (by decide)⟩
theorem NumF.next {w w':World} {g n c x:Nat} {A:Option Addr} (h:NumF w g A n c x) (hb:Below w.heap.size w w'):NumF w' g A n c x:=by
 obtain ⟨l,h1,h2,h3⟩:=h.at_
 exact ⟨⟨l,free_next h1 hb,h2,h3⟩,h.le⟩
theorem NumF.put {w:World} {g n c x p:Nat} {A:Option Addr} {u:Value} (h:NumF w g A n c x):NumF (w.setCell ⟨g,p,none⟩ u) g A n c x:=by
 obtain ⟨l,h1,h2,h3⟩:=h.at_
 exact ⟨⟨l,free_put h1,h2,h3⟩,h.le⟩
theorem NumF.told {w:World} {base g n c x:Nat} {A:Option Addr} (h:w.ownsRow base 41 1 (.slice A n c) n (cellsU (limbsOf x))) (hn:n=(limbsOf x).length) (hg:g < base) (h6:(limbsOf x).length≤600):NumF w g A n c x :=
 ⟨⟨limbsOf x,us_free h hn hg,limbsOf_ok x,natV_limbs x⟩,by omega⟩
theorem NumF.nil (w:World) (g:Nat):NumF w g none 0 0 0:=⟨⟨[],⟨none,0,rfl,by simp,by simp,fun h=>absurd rfl h⟩,fun x hx=>(nomatch hx),rfl⟩,by decide⟩
structure ValsAt (w:World) (g n:Nat) (vals:List Nat):Prop where
 blk:∃ cs:List Value,cs.length=n∧w.heap[g]? = some (.cells cs.toArray 68 (0,0))∧∀ (i:Nat) (c:Value) (x:Nat),cs[i]? = some c→vals[i]? = some x→∃ A m d,c=.slice A m d∧NumF w g A m d x
 len:vals.length=n
theorem ValsAt.lt {w:World} {g n:Nat} {vals:List Nat} (h:ValsAt w g n vals):g < w.heap.size:=by
 obtain ⟨cs,_,h2,_⟩:=h.blk
 exact lt_of_block h2
theorem ValsAt.get {w:World} {g n i x:Nat} {vals:List Nat} (h:ValsAt w g n vals) (hx:vals[i]? = some x):∃ A m d,w.cell? ⟨g,i,none⟩=some (.slice A m d)∧w.frozen? ⟨g,i,none⟩=false∧NumF w g A m d x:=by
 obtain ⟨cs,h1,h2,h3⟩:=h.blk
 have hi:=(List.getElem?_eq_some_iff.1 hx).1
 have hl:=h.len
 obtain ⟨c,hc⟩:∃ c,cs[i]? = some c:=⟨_,List.getElem?_eq_getElem (by omega)⟩
 obtain ⟨A,m,d,rfl,h4⟩:=h3 i c x hc hx
 exact ⟨A,m,d,by simp [World.cell?,h2,hc],by simp [World.frozen?,h2],h4⟩
theorem ValsAt.next {w w':World} {g n:Nat} {vals:List Nat} (h:ValsAt w g n vals) (hb:Below w.heap.size w w'):ValsAt w' g n vals:=by
 obtain ⟨cs,h1,h2,h3⟩:=h.blk
 refine ⟨⟨cs,h1,(hb.block g (lt_of_block h2)).trans h2,fun i c x hc hx=>?_⟩,h.len⟩
 obtain ⟨A,m,d,e,h4⟩:=h3 i c x hc hx
 exact ⟨A,m,d,e,h4.next hb⟩
theorem ValsAt.set {w:World} {g n:Nat} {vals:List Nat} (h:ValsAt w g n vals) {A:Option Addr} {m d x:Nat} (hx:NumF w g A m d x) (i:Nat):ValsAt (w.setCell ⟨g,i,none⟩ (.slice A m d)) g n (vals.set i x):=by
 obtain ⟨cs,h1,h2,h3⟩:=h.blk
 refine ⟨⟨cs.set i (.slice A m d),by rw [List.length_set];exact h1,?_,fun j c y hc hy=>?_⟩,by rw [List.length_set];exact h.len⟩
 · rw [World.setCell]
   simp only [Array.getElem?_modify,if_pos,h2,Option.map_some]
   simp
 · by_cases hij:i=j
   · subst hij
     have hi:=(List.getElem?_eq_some_iff.1 hc).1
     rw [List.length_set] at hi
     have hl:=h.len
     rw [List.getElem?_set_self (by omega)] at hc
     rw [List.getElem?_set_self (by omega)] at hy
     cases hc;cases hy
     exact ⟨A,m,d,rfl,hx.put⟩
   · rw [List.getElem?_set_ne hij] at hc hy
     obtain ⟨A',m',d',e,h4⟩:=h3 j c y hc hy
     exact ⟨A',m',d',e,h4.put⟩
theorem getV_get {vals:List Nat} {a:Nat} {x:Nat} (h:vals[a]? = some x):getV vals (a:Int)=x:=by
 unfold getV
 rw [Int.toNat_natCast,List.getD_eq_getElem?_getD,h];rfl
set_option maxHeartbeats 4000000 in
theorem Holds_alone (kd:Int) (a:Nat) (bb:Int) (g n:Nat) (vals:List Nat) (w:World) (hk:kd=1∨kd=3) (hv:ValsAt w g n vals) (ha:a < n) (hn:n≤1000000) :
   Calls Tryz.prog 46 #[.agg #[.int .i64 kd,.int .i64 a,.int .i64 bb],.slice (some ⟨g,0,none⟩) n n] w fun e w'=>e=.returned (.bool (holdsF vals ⟨kd,a,bb⟩))∧Below w.heap.size w w':=by
 obtain ⟨W,hW⟩:∃ W,W=w.alloc (.cells #[.int .i64 kd,.int .i64 a,.int .i64 bb] 45):=⟨_,rfl⟩
 have hb:Below w.heap.size w W:=by rw [hW];exact (Below.refl _ _).alloc (Nat.le_refl _) _
 have hbox:W.heap[w.heap.size]? = some (.cells #[.int .i64 kd,.int .i64 a,.int .i64 bb] 45 (0,0)):=by rw [hW];exact heap_alloc_new w _
 have q0:W.cell? ⟨w.heap.size,0,none⟩=some (.int .i64 kd):=by simp [World.cell?,hbox]
 have q1:W.cell? ⟨w.heap.size,1,none⟩=some (.int .i64 a):=by simp [World.cell?,hbox]
 have q2:W.cell? ⟨w.heap.size,2,none⟩=some (.int .i64 bb):=by simp [World.cell?,hbox]
 have HW:=Lh hW
 have HB:=Lh hb
 have HV:=Lh (hv.next hb)
 have hlen:=hv.len
 obtain ⟨x,hx⟩:∃ x,vals[a]? = some x:=⟨_,List.getElem?_eq_getElem (by omega)⟩
 obtain ⟨A1,m1,d1,y0,_,hnum⟩:=HV.out.get hx
 have e1:=getV_get hx
 have d2:decide ((a:Int) < 0)=false:=decide_eq_false (by omega)
 have d3:decide ((a:Int) ≥ (n:Int))=false:=decide_eq_false (by omega)
 have d4:decide ((n:Int)≤(a:Int))=false:=decide_eq_false (by omega)
 have d5:decide (n≤a)=false:=decide_eq_false (by omega)
 have i0:(0:Int)≤(a:Int):=by omega
 have i1:(a:Int) < (n:Int):=by omega
 have i2:IntKind.i64.wrap (a:Int)=a:=by rw [IntKind.wrap_i64];omega
 rcases hk with rfl | rfl
 · have HX:=Lh (show holdsF vals ⟨1,a,bb⟩=(x % 2 == 1) by unfold holdsF;rw [if_pos rfl];simp only [e1])
   have HBT:=Lh (show Calls Tryz.prog 71 #[.slice A1 m1 d1,.int .i64 0] W fun e w'=>e=.returned (.bool (x % 2 == 1))∧W=w' from by
     have h:=tBit hnum.num 0 (by decide)
     rw [show x.testBit 0=(x % 2 == 1) by rw [Nat.testBit_zero];exact (Bool.beq_eq_decide_eq _ _).symm] at h
     exact h)
   obtain ⟨t,ht⟩:∃ t,t=(x % 2 == 1):=⟨_,rfl⟩
   rw [←ht] at HX HBT
   clear hx hnum e1 hW hb hbox hv hlen ht
   go_enter Tryz.func46,Tryz.ntmps46
   go_upto_region 1 with go_in
   rw [←HW.out]
   clear HW
   go_wp2_with ((with_reducible refine HBT.out.mono ?_);rintro e w1 ⟨rfl,hw⟩;subst hw)
   go_ret
   exact ⟨by rw [HX.out];rfl,HB.out⟩
 · have HX:=Lh (show holdsF vals ⟨3,a,bb⟩=decide (0 < (limbsOf x).length) by
     rw [show holdsF vals ⟨3,a,bb⟩=decide (0 < getV vals a) from rfl,e1,decide_eq_decide]
     have:=limbs_len_zero (n:=x)
     omega)
   have HT:=Lh (tTrim hnum.num)
   clear hx hnum e1 hW hb hbox hv hlen
   go_enter Tryz.func46,Tryz.ntmps46
   go_upto_region 1 with go_in
   rw [←HW.out]
   clear HW
   go_wp2_with ((with_reducible refine HT.out.mono ?_);rintro e w1 ⟨A2,n2,c2,rfl,h1,hn2,h3,hb1⟩;have HN2:=Lh hn2;have HB1:=Lh hb1;clear h1 hn2 h3 hb1)
   go_ret
   refine ⟨?_,HB.out.trans (HB1.out.mono HB.out.size)⟩
   rw [HX.out,←HN2.out]
   exact ret_bool (by simp)
set_option maxHeartbeats 4000000 in
theorem Holds_less (a bn:Nat) (g n:Nat) (vals:List Nat) (w:World) (hv:ValsAt w g n vals) (ha:a < n) (hbn:bn < n) (hn:n≤1000000) :
   Calls Tryz.prog 46 #[.agg #[.int .i64 2,.int .i64 a,.int .i64 bn],.slice (some ⟨g,0,none⟩) n n] w fun e w'=>e=.returned (.bool (holdsF vals ⟨2,a,bn⟩))∧Below w.heap.size w w':=by
 obtain ⟨kd,hkd⟩:∃ kd:Int,kd=2:=⟨_,rfl⟩
 obtain ⟨bb,hbb⟩:∃ bb:Int,bb=bn:=⟨_,rfl⟩
 rw [←hkd,←hbb]
 obtain ⟨W,hW⟩:∃ W,W=w.alloc (.cells #[.int .i64 kd,.int .i64 a,.int .i64 bb] 45):=⟨_,rfl⟩
 have hb:Below w.heap.size w W:=by rw [hW];exact (Below.refl _ _).alloc (Nat.le_refl _) _
 have hbox:W.heap[w.heap.size]? = some (.cells #[.int .i64 kd,.int .i64 a,.int .i64 bb] 45 (0,0)):=by rw [hW];exact heap_alloc_new w _
 have q0:W.cell? ⟨w.heap.size,0,none⟩=some (.int .i64 kd):=by simp [World.cell?,hbox]
 have q1:W.cell? ⟨w.heap.size,1,none⟩=some (.int .i64 a):=by simp [World.cell?,hbox]
 have q2:W.cell? ⟨w.heap.size,2,none⟩=some (.int .i64 bb):=by simp [World.cell?,hbox]
 have HW:=Lh hW
 have HB:=Lh hb
 have HV:=Lh (hv.next hb)
 have hlen:=hv.len
 subst hkd;subst hbb
 obtain ⟨x,hx⟩:∃ x,vals[a]? = some x:=⟨_,List.getElem?_eq_getElem (by omega)⟩
 obtain ⟨y,hy⟩:∃ y,vals[bn]? = some y:=⟨_,List.getElem?_eq_getElem (by omega)⟩
 obtain ⟨A1,m1,d1,y0,_,hnx⟩:=HV.out.get hx
 obtain ⟨A2,m2,e2,y1,_,hny⟩:=HV.out.get hy
 have e1:=getV_get hx
 have e3:=getV_get hy
 have HX:=Lh (show holdsF vals ⟨2,a,bn⟩=decide (cmpN x y < 0) by
   rw [show holdsF vals ⟨2,a,bn⟩=decide (getV vals a < getV vals bn) from rfl,e1,e3,decide_eq_decide]
   unfold cmpN
   split
   · simp;omega
   · split
     · simp;omega
     · simp;omega)
 have HCM:=Lh (fun (w_:World) (h:Below W.heap.size W w_)=>tCompare (hnx.num.next h) (hny.num.next h))
 have HCL:=Lh (show ∀ w_,Below W.heap.size W w_→(w_.cell? ⟨g,a,none⟩=some (.slice A1 m1 d1)∧w_.cell? ⟨g,bn,none⟩=some (.slice A2 m2 e2))∧w_.cell? ⟨w.heap.size,1,none⟩=some (.int .i64 a)∧w_.cell? ⟨w.heap.size,2,none⟩=some (.int .i64 bn) from fun w_ h=>⟨⟨(h.cell (p:=⟨g,a,none⟩) HV.out.lt).trans y0,(h.cell (p:=⟨g,bn,none⟩) HV.out.lt).trans y1⟩,(h.cell (p:=⟨w.heap.size,1,none⟩) (lt_of_block hbox)).trans q1,(h.cell (p:=⟨w.heap.size,2,none⟩) (lt_of_block hbox)).trans q2⟩)
 obtain ⟨q,hq⟩:∃ q,q=cmpN x y:=⟨_,rfl⟩
 rw [←hq] at HX HCM
 have d2:decide ((a:Int) < 0)=false:=decide_eq_false (by omega)
 have d3:decide ((a:Int) ≥ (n:Int))=false:=decide_eq_false (by omega)
 have d4:decide ((n:Int)≤(a:Int))=false:=decide_eq_false (by omega)
 have d5:decide (n≤a)=false:=decide_eq_false (by omega)
 have b2:decide ((bn:Int) < 0)=false:=decide_eq_false (by omega)
 have b3:decide ((bn:Int) ≥ (n:Int))=false:=decide_eq_false (by omega)
 have b4:decide ((n:Int)≤(bn:Int))=false:=decide_eq_false (by omega)
 have b5:decide (n≤bn)=false:=decide_eq_false (by omega)
 have i0:(0:Int)≤(a:Int):=by omega
 have i1:(a:Int) < (n:Int):=by omega
 have i2:IntKind.i64.wrap (a:Int)=a:=by rw [IntKind.wrap_i64];omega
 have i3:(0:Int)≤(bn:Int):=by omega
 have i4:(bn:Int) < (n:Int):=by omega
 have i5:IntKind.i64.wrap (bn:Int)=bn:=by rw [IntKind.wrap_i64];omega
 clear hx hy hnx hny e1 e3 y0 y1 hW hb hbox hv hlen hq
 go_enter Tryz.func46,Tryz.ntmps46
 go_upto_region 1 with go_in
 rw [←HW.out]
 clear HW
 go_upto_region 9 with (first | go_in)
 have hS:=(Below.refl W.heap.size W).drew
 (refine wp_region_lines (Below W.heap.size W) (by kernel_rfl) (by kernel_rfl) ((Below.refl W.heap.size W).drew) ?_)
 (try simp only [])
 repeat (first | (refine runL_no (by rfl) ?_;(try simp only [Act.put,List.setIfInBounds_toArray,List.set_cons_zero,List.set_cons_succ])) | (refine runL_val (v:=?_) (by rfl) ?_ ?_;rotate_left;(focus (intro w_ hw_;obtain ⟨⟨f0_,f1_⟩,f2_,f3_⟩:=HCL.out w_ hw_;go_simp;(try with_reducible rfl);done));(try simp only [Act.put,List.setIfInBounds_toArray,List.set_cons_zero,List.set_cons_succ])) | (refine runL_call (f:=?_) (args:=?_) (w1:=?_) (by rfl) (by rfl) ?_ ?_;rotate_left 3;(focus (go_simp;refine ⟨⟨?_,?_⟩,?_⟩ <;> with_reducible rfl));(with_reducible refine (HCM.out _ hS).mono ?_);rintro e_ w1 ⟨rfl,hw⟩;subst hw;refine ⟨_,rfl,.inr hS,?_⟩;(try simp only [Act.put,List.setIfInBounds_toArray,List.set_cons_zero,List.set_cons_succ])))
 (refine runL_nil ?_)
 have HS:=Lh hS
 clear hS
 go_wp2
 go_ret
 exact ⟨by rw [HX.out];rfl,HB.out.trans (HS.out.mono HB.out.size)⟩
theorem Holds_any (f:Fct) (g n:Nat) (vals:List Nat) (w:World) (hv:ValsAt w g n vals) (hf:wellF n f) (hn:n≤1000000) :
   Calls Tryz.prog 46 #[.agg #[.int .i64 f.kind,.int .i64 f.a,.int .i64 f.b],.slice (some ⟨g,0,none⟩) n n] w fun e w'=>e=.returned (.bool (holdsF vals f))∧Below w.heap.size w w':=by
 obtain ⟨kd,a,b⟩:=f
 rcases hf with ⟨h1,h2,h3,h4⟩ | ⟨h1,h2,h3,h4,h5⟩
 · simp only at h1 h2 h3 h4
   obtain ⟨p,rfl⟩:∃ p:Nat,a=p:=⟨a.toNat,by omega⟩
   exact Holds_alone kd p b g n vals w h1 hv (by omega) hn
 · simp only at h1 h2 h3 h4 h5
   obtain ⟨p,rfl⟩:∃ p:Nat,a=p:=⟨a.toNat,by omega⟩
   obtain ⟨q,rfl⟩:∃ q:Nat,b=q:=⟨b.toNat,by omega⟩
   subst h1
   exact Holds_less p q g n vals w hv (by omega) (by omega) hn
end Go.Proofs.YtjbabpnepjhllaaGreat
namespace Go.Proofs.YtjbabpnepjhllaaGreat
open Go.RowKit
theorem own_blk {w:World} {base e sz n:Nat} {g o c:Nat} {xs:List Value} (h:w.ownsRow base e sz (.slice (some ⟨g,o,none⟩) n c) n xs) :
   ∃ cur,o=0∧base≤g∧w.heap[g]? = some (.cells cur e (0,0))∧n≤c∧c≤maxLen∧cur.size=c*sz∧cur.toList.take (n*sz)=xs:=by
 rcases h.2 with ⟨h1,_⟩ | ⟨g',c',cur,hv,hg,hh,hnc,hcm,hcs,htk⟩
 · cases h1
 · cases hv;exact ⟨cur,rfl,hg,hh,hnc,hcm,hcs,htk⟩
theorem own_cell {w:World} {base e sz n:Nat} {g c:Nat} {xs:List Value} (h:w.ownsRow base e sz (.slice (some ⟨g,0,none⟩) n c) n xs) {k:Nat} {u:Value} (hk:xs[k]? = some u):w.cell? ⟨g,k,none⟩=some u:=by
 obtain ⟨cur,_,_,hh,_,_,_,ht⟩:=own_blk h
 simp only [World.cell?,hh]
 rw [←ht,List.getElem?_take] at hk
 split at hk
 · simpa using hk
 · cases hk
theorem own_frozen {w:World} {base e sz n:Nat} {g c:Nat} {xs:List Value} (h:w.ownsRow base e sz (.slice (some ⟨g,0,none⟩) n c) n xs) (k:Nat):w.frozen? ⟨g,k,none⟩=false:=by
 obtain ⟨cur,_,_,hh,_⟩:=own_blk h
 simp [World.frozen?,hh]
theorem own_set {w:World} {base e sz n:Nat} {g c:Nat} {xs:List Value} (h:w.ownsRow base e sz (.slice (some ⟨g,0,none⟩) n c) n xs) (k:Nat) (u:Value):(w.setCell ⟨g,k,none⟩ u).ownsRow base e sz (.slice (some ⟨g,0,none⟩) n c) n (xs.set k u):=by
 obtain ⟨cur,_,hg,hh,hnc,hcm,hcs,ht⟩:=own_blk h
 refine ⟨by rw [List.length_set];exact h.1,.inr ⟨g,c,cur.setIfInBounds k u,rfl,hg,by simp [World.setCell,Array.getElem?_modify,hh],hnc,hcm,by simpa using hcs,?_⟩⟩
 rw [Array.toList_setIfInBounds,List.take_set,ht]
def setAll (xs:List Value):Nat→List Value→List Value
 | _,[]=>xs
 | k,v :: r=>setAll (xs.set k v) (k+1) r
theorem own_setCells {base e sz n:Nat} {g c:Nat}:∀ (vs:List Value) (k:Nat) (w:World) (xs:List Value),w.ownsRow base e sz (.slice (some ⟨g,0,none⟩) n c) n xs→(w.setCells g k vs).ownsRow base e sz (.slice (some ⟨g,0,none⟩) n c) n (setAll xs k vs)
 | [],_,_,_,h=>h
 | v :: r,k,_,_,h=>own_setCells r (k+1) _ _ (own_set h k v)
theorem chg_setCells {F:Nat→Prop} {g:Nat} {w0:World} (hg:F g):∀ (vs:List Value) (k:Nat) (w:World),Chg F w0 w→Chg F w0 (w.setCells g k vs)
 | [],_,_,h=>h
 | v :: r,k,_,h=>chg_setCells hg r (k+1) _ (h.setCell (.inl hg) v)
theorem setAll_take {m:Nat}:∀ (vs:List Value) (k:Nat) (xs:List Value),m≤k→(setAll xs k vs).take m=xs.take m
 | [],_,_,_=>rfl
 | v :: r,k,xs,h=>by rw [setAll,setAll_take r (k+1) _ (by omega),List.take_set_of_le h]
theorem setAll_append:∀ (vs:List Value) (k:Nat) (a b:List Value),setAll (a++b) (a.length+k) vs=a++setAll b k vs
 | [],_,_,_=>rfl
 | v :: r,k,a,b=>by
   have e:(a++b).set (a.length+k) v=a++b.set k v:=by rw [List.set_append,if_neg (by omega),Nat.add_sub_cancel_left]
   rw [setAll,setAll,e,Nat.add_assoc,setAll_append r (k+1) a]
theorem setAll_over:∀ (vs us b:List Value),us.length=vs.length→setAll (us++b) 0 vs=vs++b
 | [],us,b,h=>by simp at h;subst h;rfl
 | v :: r,u :: us,b,h=>by
   rw [setAll,List.cons_append,List.set_cons_zero]
   have:=setAll_append r 0 [v] (us++b)
   simp only [List.length_singleton,Nat.add_zero,List.singleton_append] at this
   rw [Nat.zero_add,this,setAll_over r us b (by simpa using h)]
   rfl
 | v :: r,[],b,h=>by simp at h
theorem flat_set {sz:Nat}:∀ (rows:List (List Value)) (i:Nat) (r:List Value),(∀ q∈rows,q.length=sz)→r.length=sz→i < rows.length→setAll rows.flatten (i*sz) r=(rows.set i r).flatten
 | [],_,_,_,_,h=>by simp at h
 | q :: qs,0,r,hq,hr,_=>by
   rw [Nat.zero_mul,List.flatten_cons,setAll_over r q _ (by rw [hq q (List.mem_cons_self ..),hr]),List.set_cons_zero,List.flatten_cons]
 | q :: qs,i+1,r,hq,hr,h=>by
   have hql:=hq q (List.mem_cons_self ..)
   rw [List.flatten_cons,show (i+1)*sz=q.length+i*sz by rw [hql,Nat.succ_mul];omega,setAll_append,flat_set qs i r (fun x hx=>hq x (List.mem_cons_of_mem _ hx)) hr (by simpa using h),List.set_cons_succ,List.flatten_cons]
theorem own_cut {w:World} {base e sz n:Nat} {g c:Nat} {xs:List Value} (h:w.ownsRow base e sz (.slice (some ⟨g,0,none⟩) n c) n xs) {m:Nat} (hm:m≤n):w.ownsRow base e sz (.slice (some ⟨g,0,none⟩) m c) m (xs.take (m*sz)):=by
 obtain ⟨cur,_,hg,hh,hnc,hcm,hcs,ht⟩:=own_blk h
 have hle:m*sz≤n*sz:=Nat.mul_le_mul_right _ hm
 refine ⟨by rw [List.length_take,h.1];omega,.inr ⟨g,c,cur,rfl,hg,hh,by omega,hcm,hcs,?_⟩⟩
 rw [←ht,List.take_take,Nat.min_eq_left hle]
theorem own_there {w:World} {base e sz n:Nat} {g c:Nat} {xs:List Value} (h:w.ownsRow base e sz (.slice (some ⟨g,0,none⟩) n c) n xs) {k m:Nat} (hk:k+m≤xs.length):w.there g k m:=fun j hj=>by
 refine ⟨?_,own_frozen h _⟩
 rw [own_cell h (List.getElem?_eq_getElem (show k+j < xs.length by omega))]
 rfl
theorem run_clear_row {P:Program} (w:World) (t e:TypeId) (z:Value) (ht:P.underlying t=some (.slice e)) (hv:∀ w,(zeroValue e).run P w=.ok z w) (hz1:∀ u∈z.cells.toList,u.oneCell'=true) (g o n c:Nat) (hn:0 < n)
   (hth:w.there g o (n*z.cells.size)):∃ vs,∀ ty,(Builtin.clear_ #[t] ty #[.slice (some ⟨g,o,none⟩) n c]).run P w=.ok (.tuple #[]) (w.setCells g o vs):=by
 refine ⟨(Builtin.zeroCells z.cells n).toList,fun ty=>?_⟩
 have hsz:(Builtin.zeroCells z.cells n).toList.length=n*z.cells.size:=by simp [Builtin.zeroCells]
 have hst:=run_storeCells_cells (P:=P) g o (Builtin.zeroCells z.cells n).toList 0 w (fun j hj=>by simpa using (hth j (by rw [←hsz];exact hj)).1) (fun j hj=>by simpa using (hth j (by rw [←hsz];exact hj)).2) (fun v hv'=>by
   simp only [Builtin.zeroCells,Array.toList_map,List.mem_map,Array.toList_range,List.mem_range] at hv'
   obtain ⟨i,hi,rfl⟩:=hv'
   have hpos:0 < z.cells.size:=by
     rcases Nat.eq_zero_or_pos z.cells.size with h | h
     · rw [h] at hi;simp at hi
     · exact h
   have hlt:i % z.cells.size < z.cells.size:=Nat.mod_lt _ hpos
   rw [getElem!_pos z.cells _ hlt]
   exact hz1 _ (by simp))
 simp only [Nat.add_zero] at hst
 obtain ⟨m,rfl⟩:∃ m,n=m+1:=⟨n - 1,by omega⟩
 simp [Builtin.clear_,run_underlying ht,hv,hst]
end Go.Proofs.YtjbabpnepjhllaaGreat
namespace Go.Proofs.YtjbabpnepjhllaaGreat
open Go.RowKit
theorem own_zero (w:World) (e sz:Nat):(w.alloc (.cells #[] e)).ownsRow w.heap.size e sz (.slice (some ⟨w.heap.size,0,none⟩) 0 0) 0 [] :=
 ⟨by simp,.inr ⟨w.heap.size,0,#[],rfl,Nat.le_refl _,heap_alloc_new w _,Nat.le_refl _,by decide,by simp,by simp⟩⟩
set_option maxHeartbeats 400000 in
theorem CloneI_some (ad:Addr) (n c:Nat) (w:World) (news:List Value) (hl:news.length=n*1) (hc:∀ (j:Nat) (u:Value),news[j]? = some u→w.cell? (ad.add j)=some u) (h1:∀ u∈news,u.oneCell'=true) (hn:n≤3518437208000) :
   Calls Tryz.prog 93 #[.slice (some ad) n c] w fun e w'=>∃ v,e=.returned v∧w'.ownsRow w.heap.size 3 1 v n news∧Below w.heap.size w w':=by
 obtain ⟨i0,hi,hz0,hz1,hz2⟩:=info_parts infoI
 have h0:=fun (w:World)=>Lib.run_eql_slice_nil (P:=Tryz.prog) w 50 3 (some ad) n c 0 0 Tryz.underlying50
 have hc2:∀ (j:Nat) (u:Value),news[j]? = some u→(w.alloc (.cells #[] 3)).cell? (ad.add j)=some u:=fun j u hu=>by
   have:=hc j u hu
   rw [World.cell?_alloc_lt _ _ _ (World.block_lt_of_cell? w _ this)];exact this
 have HC:=Lh hc2
 have HL:=Lh hl
 have H1:=Lh h1
 clear hc hc2 hl h1
 go_enter Tryz.func93,Tryz.ntmps93
 go_wp2_with ((at_builtin;refine wpList_append_own_at _ rfl _ _ 50 rfl w.heap.size 3 i0 (.int .i64 0) 1 8 Tryz.underlying50 hi hz0 hz1 hz2 rfl (by decide) _ 0 [] rfl (own_zero w _ _) ad n c news rfl HL.out HC.out H1.out (by unfold maxLen;omega) (by omega) (by simp) ?_);intro v w1 hown hg _ _)
 go_ret
 exact ⟨v,rfl,by simpa using hown,((Below.refl _ _).alloc (Nat.le_refl _) _).grown hg (by simp) (fun k hk=>Nat.le_of_eq (Option.some.inj hk))⟩
set_option maxHeartbeats 400000 in
theorem CloneF_nil (c:Nat) (w:World) :
   Calls Tryz.prog 108 #[.slice none 0 c] w fun e w'=>e=.returned (.slice none 0 0)∧Below w.heap.size w w':=by
 go_enter Tryz.func108,Tryz.ntmps108
 have h0:=fun (w:World)=>Lib.run_eql_slice_nil (P:=Tryz.prog) w 39 45 none 0 c 0 0 Tryz.underlying39
 go_wp2
 go_ret
 exact ⟨rfl,Below.refl _ _⟩
set_option maxHeartbeats 400000 in
theorem CloneF_some (ad:Addr) (n c:Nat) (w:World) (news:List Value) (hl:news.length=n*3) (hc:∀ (j:Nat) (u:Value),news[j]? = some u→w.cell? (ad.add j)=some u) (h1:∀ u∈news,u.oneCell'=true) (hn:n≤3518437208000) :
   Calls Tryz.prog 108 #[.slice (some ad) n c] w fun e w'=>∃ v,e=.returned v∧w'.ownsRow w.heap.size 45 3 v n news∧Below w.heap.size w w':=by
 obtain ⟨i0,hi,hz0,hz1,hz2⟩:=info_parts infoFact
 have h0:=fun (w:World)=>Lib.run_eql_slice_nil (P:=Tryz.prog) w 39 45 (some ad) n c 0 0 Tryz.underlying39
 have hc2:∀ (j:Nat) (u:Value),news[j]? = some u→(w.alloc (.cells #[] 45)).cell? (ad.add j)=some u:=fun j u hu=>by
   have:=hc j u hu
   rw [World.cell?_alloc_lt _ _ _ (World.block_lt_of_cell? w _ this)];exact this
 have HC:=Lh hc2
 have HL:=Lh hl
 have H1:=Lh h1
 clear hc hc2 hl h1
 go_enter Tryz.func108,Tryz.ntmps108
 go_wp2_with ((at_builtin;refine wpList_append_own_at _ rfl _ _ 39 rfl w.heap.size 45 i0 (.agg #[.int .i64 0,.int .i64 0,.int .i64 0]) 3 24 Tryz.underlying39 hi hz0 hz1 hz2 rfl (by decide) _ 0 [] rfl (own_zero w _ _) ad n c news rfl HL.out HC.out H1.out (by unfold maxLen;omega) (by omega) (by simp) ?_);intro v w1 hown hg _ _)
 go_ret
 exact ⟨v,rfl,by simpa using hown,((Below.refl _ _).alloc (Nat.le_refl _) _).grown hg (by simp) (fun k hk=>Nat.le_of_eq (Option.some.inj hk))⟩
theorem CloneF_rows (v:Value) (w:World) (F:Nat→Prop) (rows:List (List Value)) (hr:Rows w F 3 v rows) (h1:∀ u∈rows.flatten,u.oneCell'=true) (hn:rows.length≤3518437208000) :
   Calls Tryz.prog 108 #[v] w fun e w'=>∃ v,e=.returned v∧w'.ownsRow w.heap.size 45 3 v rows.length rows.flatten∧Below w.heap.size w w':=by
 have hr':=hr
 obtain ⟨A,c,rfl,hc,hl,hne⟩:=hr'
 cases A with
 | none =>
   have h0:rows=[]:=by
     rcases rows with _ | ⟨r,rs⟩
     · rfl
     · obtain ⟨b,off,hA,_⟩:=hne (by simp);cases hA
   subst h0
   refine (CloneF_nil c w).mono ?_
   rintro e w' ⟨rfl,hb⟩
   exact ⟨_,rfl,⟨by simp,.inl ⟨rfl,rfl⟩⟩,hb⟩
 | some ad =>
   obtain ⟨hfl,hfc⟩:=hr.flat (by decide)
   exact CloneF_some ad rows.length c w rows.flatten hfl hfc h1 (by omega)
end Go.Proofs.YtjbabpnepjhllaaGreat
namespace Go.Proofs.YtjbabpnepjhllaaGreat
open Go.RowKit
set_option maxRecDepth 100000
theorem first_cases (q:Nat→Bool) (n:Nat):(firstIn q n 0 = -1∧∀ k,k < n→q k=false)∨∃ k,k < n∧firstIn q n 0=(k:Int)∧q k=true∧∀ j,j < k→q j=false:=by
 have key:∀ m k,m+k=n→(firstIn q n k = -1∧∀ j,k≤j→j < n→q j=false)∨∃ i,k≤i∧i < n∧firstIn q n k=(i:Int)∧q i=true∧∀ j,k≤j→j < i→q j=false:=by
   intro m
   induction m with
   | zero => intro k h; have : k = n := by omega
             subst this;exact .inl ⟨firstIn_end,fun j h1 h2=>by omega⟩
   | succ m ih =>
     intro k h
     cases hq:q k
     · rw [firstIn_no (by omega) hq]
       rcases ih (k+1) (by omega) with ⟨h1,h2⟩ | ⟨i,h1,h2,h3,h4,h5⟩
       · exact .inl ⟨h1,fun j h3 h4=>by
           by_cases e:j=k
           · subst e;exact hq
           · exact h2 j (by omega) h4⟩
       · exact .inr ⟨i,by omega,h2,h3,h4,fun j h6 h7=>by
           by_cases e:j=k
           · subst e;exact hq
           · exact h5 j (by omega) h7⟩
     · exact .inr ⟨k,Nat.le_refl _,by omega,firstIn_yes (by omega) hq,hq,fun j h1 h2=>by omega⟩
 rcases key n 0 rfl with ⟨h1,h2⟩ | ⟨i,_,h2,h3,h4,h5⟩
 · exact .inl ⟨h1,fun k hk=>h2 k (Nat.zero_le _) hk⟩
 · exact .inr ⟨i,h2,h3,h4,fun j hj=>h5 j (Nat.zero_le _) hj⟩
theorem own_next {w w':World} {base e sz n:Nat} {v:Value} {xs:List Value} (h:w.ownsRow base e sz v n xs) (hb:Below w.heap.size w w'):w'.ownsRow base e sz v n xs:=h.kept (grownBy_of_below hb) (by cases hh:v.ownBlock <;> simp)
theorem chg_next {F:Nat→Prop} {w0 w w':World} (h:Chg F w0 w) (hb:Below w.heap.size w w'):Chg F w0 w' :=
 ⟨hb.os.trans h.os,hb.tape.trans h.tape,hb.output.trans h.output,Nat.le_trans h.size hb.size,fun k hk hn=>(hb.block k (Nat.lt_of_lt_of_le hk h.size)).trans (h.block k hk hn)⟩
theorem mid_own {w:World} {base e sz n:Nat} {g c:Nat} {xs:List Value} (h:w.ownsRow base e sz (.slice (some ⟨g,0,none⟩) n c) n xs) {k:Nat} (hk:k+3≤xs.length) (a b:Value) :
   (∃ u,w.cell? ⟨g,k,none⟩=some u)∧(∃ u,(w.setCell ⟨g,k,none⟩ a).cell? ⟨g,k+1,none⟩=some u)∧(∃ u,((w.setCell ⟨g,k,none⟩ a).setCell ⟨g,k+1,none⟩ b).cell? ⟨g,k+2,none⟩=some u):=by
 have s0:=own_set h k a
 have s1:=own_set s0 (k+1) b
 exact ⟨⟨_,own_cell h (List.getElem?_eq_getElem (by omega))⟩,⟨_,own_cell s0 (List.getElem?_eq_getElem (by rw [List.length_set];omega))⟩,⟨_,own_cell s1 (List.getElem?_eq_getElem (by rw [List.length_set,List.length_set];omega))⟩⟩
def DelSays (base ty sz:Nat) (m:Nat) (cells:List Value) (gb c:Nat) (w:World) (e:Ending) (w':World):Prop:=e=.returned (.slice (some ⟨gb,0,none⟩) m c)∧w'.ownsRow base ty sz (.slice (some ⟨gb,0,none⟩) m c) m cells∧Chg (fun k=>k=gb) w w'
structure DelR {T:Type} (l:List T) (p:T→Bool) (i j:Nat) (ys:List T):Prop where
 len:ys.length=l.length
 lo:ys.take i=(l.take j).filter fun x=>!p x
 hi:ys.drop j=l.drop j
 lt:i < j
 le:j≤l.length
theorem filter_all {T:Type} {l:List T} {p:T→Bool} (h:∀ x∈l,p x=false):l.filter (fun x=>!p x)=l:=List.filter_eq_self.2 fun x hx=>by rw [h x hx];rfl
theorem DelR.start {T:Type} {l:List T} {p:T→Bool} {k:Nat} (hk:k < l.length) (h1:p l[k]=true) (h2:∀ j (hj:j < l.length),j < k→p l[j]=false):DelR l p k (k+1) l:=by
 refine ⟨rfl,?_,rfl,by omega,by omega⟩
 rw [List.take_add_one,List.getElem?_eq_getElem hk,List.filter_append,show (Option.toList (some l[k])).filter (fun x=>!p x)=[] by simp [h1],List.append_nil]
 refine (filter_all fun x hx=>?_).symm
 obtain ⟨j,hj,rfl⟩:=List.getElem_of_mem hx
 rw [List.getElem_take]
 rw [List.length_take] at hj
 exact h2 j (by omega) (by omega)
theorem take_snoc {T:Type} {l:List T} {j:Nat} {x:T} (h:l[j]? = some x) (p:T→Bool):(l.take (j+1)).filter (fun x=>!p x)=(l.take j).filter (fun x=>!p x)++if p x then [] else [x]:=by
 rw [List.take_add_one,h,List.filter_append]
 cases hp:p x <;> simp [hp]
theorem DelR.keep {T:Type} {l:List T} {p:T→Bool} {i j:Nat} {ys:List T} (h:DelR l p i j ys) {x:T} (hx:l[j]? = some x) (hp:p x=false):DelR l p (i+1) (j+1) (ys.set i x):=by
 have hj:j < l.length:=(List.getElem?_eq_some_iff.1 hx).1
 have h1:=h.lt
 have h2:=h.len
 refine ⟨by rw [List.length_set];exact h.len,?_,?_,by omega,by omega⟩
 · rw [take_snoc hx,hp,←h.lo,List.take_add_one,List.getElem?_set_self (by omega),List.take_set_of_le (Nat.le_refl _)]
   rfl
 · rw [List.drop_set_of_lt (by omega),←List.drop_drop,h.hi,List.drop_drop]
theorem DelR.skip {T:Type} {l:List T} {p:T→Bool} {i j:Nat} {ys:List T} (h:DelR l p i j ys) {x:T} (hx:l[j]? = some x) (hp:p x=true):DelR l p i (j+1) ys:=by
 have hj:j < l.length:=(List.getElem?_eq_some_iff.1 hx).1
 have h1:=h.lt
 refine ⟨h.len,?_,?_,by omega,by omega⟩
 · rw [take_snoc hx,hp,h.lo];simp
 · rw [←List.drop_drop,h.hi,List.drop_drop]
theorem DelR.at_ {T:Type} {l:List T} {p:T→Bool} {i j:Nat} {ys:List T} (h:DelR l p i j ys) {x:T} (hx:l[j]? = some x):ys[j]? = some x:=by
 have h1:=congrArg (fun l=>l[0]?) h.hi
 simpa [List.getElem?_drop,hx] using h1
theorem DelR.done {T:Type} {l:List T} {p:T→Bool} {i j:Nat} {ys:List T} (h:DelR l p i j ys) (hj:j=l.length):ys.take i=l.filter (fun x=>!p x)∧i=(l.filter fun x=>!p x).length:=by
 have h1:=h.lo
 rw [hj,List.take_length] at h1
 refine ⟨h1,?_⟩
 have:=congrArg List.length h1
 rw [List.length_take,h.len] at this
 have:=h.lt
 omega
theorem intV_take (l:List Int) (i:Nat):(intV l).take (i*1)=intV (l.take i):=by rw [Nat.mul_one];simp [intV,List.map_take]
theorem cellsF_take:∀ (l:List Fct) (i:Nat),(cellsOfF l).take (i*3)=cellsOfF (l.take i)
 | [],i=>by simp [cellsOfF]
 | x :: l,0=>by simp [cellsOfF]
 | x :: l,i+1=>by
   rw [List.take_succ_cons,←flat_facts,←flat_facts,List.map_cons,List.map_cons,List.flatten_cons,List.flatten_cons,flat_facts,flat_facts,show (i+1)*3=(factRow x).length+i*3 by rw [Nat.succ_mul];show _=3+i*3;omega,List.take_length_add_append,cellsF_take l i]
theorem intV_set (l:List Int) (i:Nat) (x:Int):setAll (intV l) i [.int .i64 x]=intV (l.set i x):=by simp [setAll,intV,List.map_set]
theorem cellsF_set (l:List Fct) (i:Nat) (x:Fct) (h:i < l.length):setAll (cellsOfF l) (i*3) (factRow x)=cellsOfF (l.set i x):=by
 rw [←flat_facts,←flat_facts,List.map_set]
 exact flat_set (l.map factRow) i (factRow x) (fun q hq=>by obtain ⟨y,_,rfl⟩:=List.mem_map.1 hq;rfl) rfl (by simpa using h)
theorem zeroI:∀ w,(zeroValue 3).run Tryz.prog w=.ok (.int .i64 0) w:=by
 obtain ⟨i0,hi,hz0,_,_⟩:=info_parts infoI
 intro w
 simp [zeroValue,typeInfo,hi,hz0]
theorem zeroF:∀ w,(zeroValue 45).run Tryz.prog w=.ok (.agg #[.int .i64 0,.int .i64 0,.int .i64 0]) w:=by
 obtain ⟨i0,hi,hz0,_,_⟩:=info_parts infoFact
 intro w
 simp [zeroValue,typeInfo,hi,hz0]
set_option maxHeartbeats 4000000 in
theorem DelS_Int (g:Nat) (cb:Array Value) (gb c n base:Nat) (l:List Int) (p:Int→Bool) (w:World) (eg:∀ args w,(callFunc g args).run Tryz.prog w=.ok (.enter g args) w) (hn:l.length=n) (hn2:n≤100000)
   (hown:w.ownsRow base 3 1 (.slice (some ⟨gb,0,none⟩) n c) n (intV l))
   (hp:∀ x∈l,∀ wr,Chg (fun k=>k=gb) w wr→Calls Tryz.prog g (#[.int .i64 x]++cb) wr fun e w'=>e=.returned (.bool (p x))∧Below wr.heap.size wr w') :
   Calls Tryz.prog 92 #[.slice (some ⟨gb,0,none⟩) n c,.func (.func g) #[] cb] w (DelSays base 3 1 (l.filter fun x=>!p x).length (intV (l.filter fun x=>!p x)) gb c w):=by
 have HIF:=Lh (IndexFunc_Int (.slice (some ⟨gb,0,none⟩) n c) g cb w _ l p (by omega) eg (nums_own (base:=base) (by rw [hn];exact hown)) (fun k hk=>(own_lt hown k hk).1) (fun x hx wr hb=>hp x hx wr (Chg.of_below hb)))
 have hnc:n≤c:=by obtain ⟨_,_,_,_,h,_⟩:=own_blk hown;exact h
 have HOWN:=Lh hown
 have HP:=Lh hp
 have HNL:=Lh hn
 have hgl:=(own_lt hown gb rfl).1
 have HGLW:=Lh hgl
 obtain ⟨q,hq⟩:∃ q,firstIn (fun k=>p (l.getD k 0)) l.length 0=q:=⟨_,rfl⟩
 have hfc:=first_cases (fun k=>p (l.getD k 0)) l.length
 rw [hq] at HIF hfc
 clear hown hp hgl hq
 rcases hfc with ⟨rfl,hall⟩ | ⟨k0,hk0,rfl,ht,hall⟩
 · have hfl:l.filter (fun x=>!p x)=l:=filter_all fun x hx=>by
     obtain ⟨j,hj,rfl⟩:=List.getElem_of_mem hx
     simpa [List.getD,hj] using hall j hj
   have HFL:=Lh hfl
   clear hall hfl
   go_enter Tryz.func92,Tryz.ntmps92
   go_wp2_with (first | ((with_reducible refine HIF.out.mono ?_);rintro e w1 ⟨rfl,hb1⟩) | go_in)
   go_ret
   unfold DelSays
   rw [HFL.out,HNL.out]
   exact ⟨rfl,own_next HOWN.out hb1,Chg.of_below hb1⟩
 have hst:DelR l p k0 (k0+1) l:=DelR.start hk0 (by simpa [List.getD,hk0] using ht) (fun j hj h=>by simpa [List.getD,hj] using hall j h)
 have HST:=Lh hst
 have hne1:((k0:Int) == -1)=false:=beq_eq_false_iff_ne.2 (by omega)
 clear hst hall ht
 go_enter Tryz.func92,Tryz.ntmps92
 go_wp2_with (first | ((with_reducible refine HIF.out.mono ?_);rintro e w0 ⟨rfl,hb0⟩;have HB0:=Lh hb0;clear hb0) | go_in)
 go_loopw [5,6,7] (fun s5 s6 _ wr=>∃ (i j:Nat) (ys:List Int),s5=.int .i64 i∧s6=.int .i64 j∧DelR l p i j ys∧wr.ownsRow base 3 1 (.slice (some ⟨gb,0,none⟩) n c) n (intV ys)∧Chg (fun k=>k=gb) w wr) (fun _ s6 _ _=>n - (intOf s6).toNat)
 case atStart=>exact ⟨k0,k0+1,l,rfl,by go_num,HST.out,HOWN.out.kept (grownBy_of_below HB0.out) (by cases hh:(Value.slice (some ⟨gb,0,none⟩) n c).ownBlock <;> simp),Chg.of_below HB0.out⟩
 case round =>
   obtain ⟨i,j,ys,rfl,rfl,hd,ho,hch⟩:=hrel
   have hij:=hd.lt
   have hjn:j≤n:=by have:=hd.le;have:=HNL.out;omega
   have HD:=Lh hd
   have HO:=Lh ho
   have HCH:=Lh hch
   by_cases hlt:j < n
   · have hltz:(j:Int) < (n:Int):=by omega
     obtain ⟨x,hx⟩:∃ x,l[j]? = some x:=⟨_,List.getElem?_eq_getElem (by have:=HNL.out;omega)⟩
     have g0:wr.cell? ⟨gb,j,none⟩=some (.int .i64 x):=own_cell ho (by rw [intV,List.getElem?_map,hd.at_ hx];rfl)
     obtain ⟨y,hy⟩:∃ y,ys[i]? = some y:=⟨_,List.getElem?_eq_getElem (by have:=hd.lt;have:=hd.le;have:=hd.len;omega)⟩
     have gi:wr.cell? ⟨gb,i,none⟩=some (.int .i64 y):=own_cell ho (by rw [intV,List.getElem?_map,hy];rfl)
     clear hy
     have zi:wr.frozen? ⟨gb,i,none⟩=false:=own_frozen ho _
     have HTH:=Lh hd
     have HX:=Lh hx
     have HC:=Lh (HP.out x (List.mem_of_getElem? hx) wr hch)
     have HGL:=Lh (show gb < wr.heap.size by have:=hch.size;have:=HGLW.out;omega)
     clear hd ho hch hx
     have HBX:=Lh (show True from trivial)
     cases hpx:p x
     · rw [hpx] at HC
       have HPX:=Lh hpx
       clear hpx
       go_wp2_with (first | ((with_reducible refine HC.out.mono ?_);rintro e w1 ⟨rfl,hb1⟩;have gi':=(hb1.cell (p:=⟨gb,i,none⟩) HGL.out).trans gi;have HO1:=Lh (own_next HO.out hb1);have zi':w1.frozen? ⟨gb,i,none⟩=false:=own_frozen HO1.out _;have HB1:=Lh hb1;clear hb1) | go_in)
       go_roundw
       case rel =>
         refine ⟨i+1,j+1,ys.set i x,by go_num,by go_num,HD.out.keep HX.out HPX.out,?_,?_⟩
         · rw [←intV_set];exact own_setCells [.int .i64 x] i _ _ HO1.out
         · have h1:=chg_setCells (F:=fun k=>k=gb) rfl [.int .i64 x] i _ (chg_next HCH.out HB1.out)
           exact h1
       case measure=>simp [intOf];omega
     · rw [hpx] at HC
       have HPX:=Lh hpx
       clear hpx
       go_wp2_with (first | ((with_reducible refine HC.out.mono ?_);rintro e w1 ⟨rfl,hb1⟩) | go_in)
       go_roundw
       case rel=>exact ⟨i,j+1,ys,rfl,by go_num,HD.out.skip HX.out HPX.out,own_next HO.out hb1,chg_next HCH.out hb1⟩
       case measure=>simp [intOf];omega
   · obtain rfl:j=n:=by omega
     have hltz:¬ (j:Int) < (j:Int):=by omega
     have hlen:=HO.out.1
     obtain ⟨vs,hcl⟩:=run_clear_row (P:=Tryz.prog) wr 50 3 (.int .i64 0) Tryz.underlying50 zeroI (by simp [Value.cells,Value.oneCell']) gb (i*1) (j - i) (c - i) (by omega) (own_there ho (by rw [hlen];simp only [Value.cells];show i*1+(j - i)*1≤j*1;omega))
     clear hd ho hch hlen
     rw [Nat.mul_one] at hcl
     go_wp2
     go_ret
     obtain ⟨e1,e2⟩:=HD.out.done HNL.out.symm
     unfold DelSays
     rw [←e2]
     refine ⟨rfl,?_,chg_setCells (F:=fun k=>k=gb) rfl vs _ _ HCH.out⟩
     have h1:=own_cut (own_setCells vs (i*1) _ _ HO.out) (m:=i) (by omega)
     rw [setAll_take _ _ _ (Nat.le_refl _),intV_take,e1] at h1
     rw [Nat.mul_one] at h1
     exact h1
set_option maxHeartbeats 4000000 in
theorem DelS_Fct (g:Nat) (cb:Array Value) (gb c n base:Nat) (l:List Fct) (p:Fct→Bool) (w:World) (eg:∀ args w,(callFunc g args).run Tryz.prog w=.ok (.enter g args) w) (hn:l.length=n) (hn2:n≤100000)
   (hown:w.ownsRow base 45 3 (.slice (some ⟨gb,0,none⟩) n c) n (cellsOfF l))
   (hp:∀ x∈l,∀ wr,Chg (fun k=>k=gb) w wr→Calls Tryz.prog g (#[.agg #[.int .i64 x.kind,.int .i64 x.a,.int .i64 x.b]]++cb) wr fun e w'=>e=.returned (.bool (p x))∧Below wr.heap.size wr w') :
   Calls Tryz.prog 107 #[.slice (some ⟨gb,0,none⟩) n c,.func (.func g) #[] cb] w (DelSays base 45 3 (l.filter fun x=>!p x).length (cellsOfF (l.filter fun x=>!p x)) gb c w):=by
 have HIF:=Lh (IndexFunc_Fct (.slice (some ⟨gb,0,none⟩) n c) g cb w _ l p (by omega) eg (facts_own (base:=base) (by rw [hn];exact hown)) (fun k hk=>(own_lt hown k hk).1) (fun x hx wr hb=>hp x hx wr (Chg.of_below hb)))
 have hnc:n≤c:=by obtain ⟨_,_,_,_,h,_⟩:=own_blk hown;exact h
 have HOWN:=Lh hown
 have HP:=Lh hp
 have HNL:=Lh hn
 have hgl:=(own_lt hown gb rfl).1
 have HGLW:=Lh hgl
 obtain ⟨q,hq⟩:∃ q,firstIn (fun k=>p (l.getD k ⟨0,0,0⟩)) l.length 0=q:=⟨_,rfl⟩
 have hfc:=first_cases (fun k=>p (l.getD k ⟨0,0,0⟩)) l.length
 rw [hq] at HIF hfc
 clear hown hp hgl hq
 rcases hfc with ⟨rfl,hall⟩ | ⟨k0,hk0,rfl,ht,hall⟩
 · have hfl:l.filter (fun x=>!p x)=l:=filter_all fun x hx=>by
     obtain ⟨j,hj,rfl⟩:=List.getElem_of_mem hx
     simpa [List.getD,hj] using hall j hj
   have HFL:=Lh hfl
   clear hall hfl
   go_enter Tryz.func107,Tryz.ntmps107
   go_wp2_with (first | ((with_reducible refine HIF.out.mono ?_);rintro e w1 ⟨rfl,hb1⟩) | go_in)
   go_ret
   unfold DelSays
   rw [HFL.out,HNL.out]
   exact ⟨rfl,own_next HOWN.out hb1,Chg.of_below hb1⟩
 have hst:DelR l p k0 (k0+1) l:=DelR.start hk0 (by simpa [List.getD,hk0] using ht) (fun j hj h=>by simpa [List.getD,hj] using hall j h)
 have HST:=Lh hst
 have hne1:((k0:Int) == -1)=false:=beq_eq_false_iff_ne.2 (by omega)
 clear hst hall ht
 go_enter Tryz.func107,Tryz.ntmps107
 go_wp2_with (first | ((with_reducible refine HIF.out.mono ?_);rintro e w0 ⟨rfl,hb0⟩;have HB0:=Lh hb0;clear hb0) | go_in)
 go_loopw [5,6,7] (fun s5 s6 _ wr=>∃ (i j:Nat) (ys:List Fct),s5=.int .i64 i∧s6=.int .i64 j∧DelR l p i j ys∧wr.ownsRow base 45 3 (.slice (some ⟨gb,0,none⟩) n c) n (cellsOfF ys)∧Chg (fun k=>k=gb) w wr) (fun _ s6 _ _=>n - (intOf s6).toNat)
 case atStart=>exact ⟨k0,k0+1,l,rfl,by go_num,HST.out,HOWN.out.kept (grownBy_of_below HB0.out) (by cases hh:(Value.slice (some ⟨gb,0,none⟩) n c).ownBlock <;> simp),Chg.of_below HB0.out⟩
 case round =>
   obtain ⟨i,j,ys,rfl,rfl,hd,ho,hch⟩:=hrel
   have hij:=hd.lt
   have hjn:j≤n:=by have:=hd.le;have:=HNL.out;omega
   have HD:=Lh hd
   have HO:=Lh ho
   have HCH:=Lh hch
   by_cases hlt:j < n
   · have hltz:(j:Int) < (n:Int):=by omega
     obtain ⟨x,hx⟩:∃ x,l[j]? = some x:=⟨_,List.getElem?_eq_getElem (by have:=HNL.out;omega)⟩
     obtain ⟨_,_,hA,_,f0,f1,f2⟩:=FactsAt.at_ (facts_own (by rw [hd.len,HNL.out];exact ho)) (hd.at_ hx)
     cases hA
     rw [Nat.zero_add] at f0 f1 f2
     have HTH:=Lh (own_there ho (k:=i*3) (m:=3) (by rw [cellsF_len];have:=hd.lt;have:=hd.le;have:=hd.len;omega))
     have HX:=Lh hx
     have HC:=Lh (HP.out x (List.mem_of_getElem? hx) wr hch)
     have HGL:=Lh (show gb < wr.heap.size by have:=hch.size;have:=HGLW.out;omega)
     clear hd ho hch hx
     go_upto_region 8 with (first | go_in)
     obtain ⟨WA,hWA⟩:∃ WA,wr.alloc (.cells #[.int .i64 x.kind,.int .i64 x.a,.int .i64 x.b] 45)=WA:=⟨_,rfl⟩
     rw [hWA]
     have hba:Below wr.heap.size wr WA:=by rw [←hWA];exact (Below.refl _ _).alloc (Nat.le_refl _) _
     have hblk:WA.heap[wr.heap.size]? = some (.cells #[.int .i64 x.kind,.int .i64 x.a,.int .i64 x.b] 45 (0,0)):=by rw [←hWA];exact heap_alloc_new wr _
     have HBLK:=Lh hblk
     have HO:=Lh (own_next HO.out hba)
     have HC:=Lh (HP.out x (List.mem_of_getElem? HX.out) WA (chg_next HCH.out hba))
     have HCH:=Lh (chg_next HCH.out hba)
     have HQ:=Lh (lt_of_block hblk)
     obtain ⟨q,hq⟩:∃ q,wr.heap.size=q:=⟨_,rfl⟩
     rw [hq] at HBLK HQ ⊢
     clear hWA hba hblk hq f0 f1 f2
     cases hpx:p x
     · rw [hpx] at HC
       have HPX:=Lh hpx
       clear hpx
       have q0:WA.cell? ⟨q,0,none⟩=some (.int .i64 x.kind):=by simp [World.cell?,HBLK.out]
       have q1:WA.cell? ⟨q,1,none⟩=some (.int .i64 x.a):=by simp [World.cell?,HBLK.out]
       have q2:WA.cell? ⟨q,2,none⟩=some (.int .i64 x.b):=by simp [World.cell?,HBLK.out]
       go_wp2_with (first | ((with_reducible refine HC.out.mono ?_);rintro e w1 ⟨rfl,hb1⟩;have g0:=(hb1.cell (p:=⟨q,0,none⟩) HQ.out).trans q0;have g1:=(hb1.cell (p:=⟨q,1,none⟩) HQ.out).trans q1;have g2:=(hb1.cell (p:=⟨q,2,none⟩) HQ.out).trans q2;have HO1:=Lh (own_next HO.out hb1);have s0:=own_set HO1.out (i*3) (.int .i64 x.kind);have s1:=own_set s0 (i*3+1) (.int .i64 x.a);obtain ⟨⟨y0,t0⟩,⟨y1,t1⟩,⟨y2,t2⟩⟩:=mid_own HO1.out (k:=i*3) (by rw [cellsF_len];have:=HD.out.lt;have:=HD.out.le;have:=HD.out.len;omega) (.int .i64 x.kind) (.int .i64 x.a);have z0:=own_frozen HO1.out (i*3);have z1:=own_frozen s0 (i*3+1);have z2:=own_frozen s1 (i*3+2);clear s0 s1;have HB1:=Lh hb1;clear hb1) | go_in)
       go_roundw
       case rel =>
         refine ⟨i+1,j+1,ys.set i x,by go_num,by go_num,HD.out.keep HX.out HPX.out,?_,?_⟩
         · rw [←cellsF_set ys i x (by have:=HD.out.lt;have:=HD.out.le;have:=HD.out.len;omega)];exact own_setCells (factRow x) (i*3) _ _ HO1.out
         · exact chg_setCells (F:=fun k=>k=gb) rfl (factRow x) (i*3) _ (chg_next HCH.out HB1.out)
       case measure=>simp [intOf];omega
     · rw [hpx] at HC
       have HPX:=Lh hpx
       clear hpx
       have q0:WA.cell? ⟨q,0,none⟩=some (.int .i64 x.kind):=by simp [World.cell?,HBLK.out]
       have q1:WA.cell? ⟨q,1,none⟩=some (.int .i64 x.a):=by simp [World.cell?,HBLK.out]
       have q2:WA.cell? ⟨q,2,none⟩=some (.int .i64 x.b):=by simp [World.cell?,HBLK.out]
       go_wp2_with (first | ((with_reducible refine HC.out.mono ?_);rintro e w1 ⟨rfl,hb1⟩) | go_in)
       go_roundw
       case rel=>exact ⟨i,j+1,ys,rfl,by go_num,HD.out.skip HX.out HPX.out,own_next HO.out hb1,chg_next HCH.out hb1⟩
       case measure=>simp [intOf];omega
   · obtain rfl:j=n:=by omega
     have hltz:¬ (j:Int) < (j:Int):=by omega
     have hlen:=HO.out.1
     obtain ⟨vs,hcl⟩:=run_clear_row (P:=Tryz.prog) wr 39 45 (.agg #[.int .i64 0,.int .i64 0,.int .i64 0]) Tryz.underlying39 zeroF (by simp [Value.cells,Value.oneCell']) gb (i*3) (j - i) (c - i) (by omega) (own_there ho (by rw [hlen];simp only [Value.cells];show i*3+(j - i)*3≤j*3;omega))
     clear hd ho hch hlen
     have hcl':=hcl
     go_wp2
     go_ret
     obtain ⟨e1,e2⟩:=HD.out.done HNL.out.symm
     unfold DelSays
     rw [←e2]
     refine ⟨rfl,?_,chg_setCells (F:=fun k=>k=gb) rfl vs _ _ HCH.out⟩
     have h1:=own_cut (own_setCells vs (i*3) _ _ HO.out) (m:=i) (by omega)
     rw [setAll_take _ _ _ (Nat.le_refl _),cellsF_take,e1] at h1
     have h2:=h1
     exact h1
end Go.Proofs.YtjbabpnepjhllaaGreat
namespace Go.Proofs.YtjbabpnepjhllaaGreat
open Go.RowKit
set_option maxRecDepth 100000
def NumsSay (l:List Int) (w:World) (e:Ending) (w':World):Prop:=∃ A n c,e=.returned (.slice A n c)∧NumsAt w' (fun k=>k < w'.heap.size) (.slice A n c) l∧Below w.heap.size w w'
theorem takes1_any (v:Int) (w:World):Calls Tryz.prog 94 #[.int .i64 v] w fun e w'=>e=.returned (.bool (decide (v < 0)))∧w'=w:=by
 cases d0:decide (v < 0)
 all_goals
   go_enter Tryz.func94,Tryz.ntmps94
   go_wp2
   go_ret
   exact ⟨rfl,rfl⟩
theorem takes_filter (a b c:Int):([a,b,c].filter fun v=>!decide (v < 0))=[a,b,c].filter fun v=>decide (0≤v):=by
 refine List.filter_congr fun v _=>?_
 by_cases h:v < 0
 · rw [decide_eq_true h,decide_eq_false (by omega)];rfl
 · rw [decide_eq_false h,decide_eq_true (by omega)];rfl
theorem own_some {w:World} {base e sz n:Nat} {v:Value} {xs:List Value} (h:w.ownsRow base e sz v n xs) (hn:0 < n):∃ g c,v=.slice (some ⟨g,0,none⟩) n c∧base≤g∧n≤c:=by
 rcases h.2 with ⟨_,h0⟩ | ⟨g,c,cur,hv,hg,hh,hnc,_⟩
 · omega
 · exact ⟨g,c,hv,hg,hnc⟩
set_option maxHeartbeats 4000000 in
theorem takes_any (o:KOp) (w:World):Calls Tryz.prog 65 #[.agg #[.int .i64 o.kind,.int .i64 o.d,.int .i64 o.e,.int .i64 o.a,.int .i64 o.b,.int .i64 o.c,.int .u64 o.imm]] w (NumsSay (takesK o) w):=by
 obtain ⟨i0,hi,hz0,hz1,hz2⟩:=info_parts infoI
 have HPT:=Lh fun w=>parts_any o w
 go_enter Tryz.func65,Tryz.ntmps65
 go_upto_region 1 with (first | go_in)
 obtain ⟨W0,hW0⟩:∃ W,W=w.alloc (.cells #[.int .i64 o.kind,.int .i64 o.d,.int .i64 o.e,.int .i64 o.a,.int .i64 o.b,.int .i64 o.c,.int .u64 o.imm] 43):=⟨_,rfl⟩
 rw [←hW0]
 have hb0:Below w.heap.size w W0:=by rw [hW0];exact (Below.refl _ _).alloc (Nat.le_refl _) _
 have hk0:OpBox W0 w.heap.size o:=OpBox.of (t:=43) (fr:=(0,0)) (by rw [hW0];exact heap_alloc_new w _)
 have hz0':W0.heap.size=w.heap.size+1:=by rw [hW0];simp
 clear hW0
 have HB0:=Lh hb0
 have HK0:=Lh hk0
 have HZ0:=Lh hz0'
 have c0:=hk0.kind
 have c1:=hk0.d
 have c2:=hk0.e
 have c3:=hk0.a
 have c4:=hk0.b
 have c5:=hk0.c
 have c6:=hk0.imm
 clear hb0 hk0 hz0'
 go_upto_region 2 with (first | ((with_reducible refine (HPT.out _).mono ?_);rintro e w1 ⟨rfl,hb1⟩;have HB1:=Lh hb1;clear hb1) | go_in)
 obtain ⟨W2,hW2⟩:∃ W,W=w1.alloc (.cells #[.int .i64 o.d,.int .i64 o.e,.int .i64 o.a,.int .i64 o.b,.int .i64 o.c] 90):=⟨_,rfl⟩
 rw [←hW2]
 have hb2:Below w1.heap.size w1 W2:=by rw [hW2];exact (Below.refl _ _).alloc (Nat.le_refl _) _
 have hcl:∀ (j:Nat) (u:Value),#[Value.int .i64 o.d,.int .i64 o.e,.int .i64 o.a,.int .i64 o.b,.int .i64 o.c][j]? = some u→W2.cell? ⟨w1.heap.size,j,none⟩=some u:=fun j u h=>by rw [hW2];exact cell_new w1 _ _ h
 have HB2:=Lh (show Below W0.heap.size W0 W2 from HB1.out.trans (hb2.mono HB1.out.size))
 have HCN:=Lh (CloneI_some ⟨w1.heap.size,2,none⟩ 3 3 W2 [.int .i64 o.a,.int .i64 o.b,.int .i64 o.c] rfl (fun j u h=>by
   rw [sep_add]
   match j,h with
   | 0,h=>cases h;exact hcl 2 _ rfl
   | 1,h=>cases h;exact hcl 3 _ rfl
   | 2,h=>cases h;exact hcl 4 _ rfl
   | j+3,h=>cases h) (by simp [Value.oneCell']) (by omega))
 have HDL:=Lh (fun (w3:World) (gb c:Nat) (h:w3.ownsRow W2.heap.size 3 1 (.slice (some ⟨gb,0,none⟩) 3 c) 3 [.int .i64 o.a,.int .i64 o.b,.int .i64 o.c])=>DelS_Int 94 #[] gb c 3 W2.heap.size [o.a,o.b,o.c] (fun v=>decide (v < 0)) w3 (enters_of Tryz.func94 (by kernel_rfl) rfl) rfl (by omega) h (fun x _ wr _=>(takes1_any x wr).mono (by rintro e w' ⟨he,rfl⟩;exact ⟨he,Below.refl _ _⟩)))
 obtain ⟨lf,hlf⟩:∃ l,([o.a,o.b,o.c].filter fun v=>decide (0≤v))=l:=⟨_,rfl⟩
 rw [takes_filter,hlf] at HDL
 have hlen:lf.length≤3:=by rw [←hlf];exact List.length_filter_le _ _
 have HLF:=Lh (show takesK o=lf++(if o.kind=14 then [o.d,o.e] else []) by unfold takesK;rw [hlf])
 clear hW2 hb2 hcl hlf c0 c1 c2 c3 c4 c5 c6
 go_upto_region 3 with (first
   | ((with_reducible refine HCN.out.mono ?_);rintro e w3 ⟨aC,rfl,ho3,hb3⟩;obtain ⟨gb,c3,rfl,hge,_⟩:=own_some ho3 (by omega);have HO3:=Lh ho3;have HB3:=Lh hb3;clear ho3 hb3 hge)
   | ((with_reducible refine (HDL.out w3 gb c3 HO3.out).mono ?_);rintro e w4 ⟨rfl,ho4,hc4⟩;have HO4:=Lh ho4;have HC4:=Lh hc4;clear ho4 hc4)
   | go_in)
 have hb4:Below W0.heap.size W0 w4:=by
   have h1:=HB2.out
   have h2:=HB3.out
   have h3:=h1.trans (h2.mono h1.size)
   refine h3.trans (HC4.out.below (fun k hk e=>?_) h3.size)
   subst e
   have h5:W2.heap.size≤k:=(own_lt HO3.out _ rfl).2
   have:=h1.size
   omega
 have HB4:=Lh hb4
 have hk4:=HK0.out.next hb4 (by have:=HZ0.out;omega)
 have c0:=hk4.kind
 have c1:=hk4.d
 have c2:=hk4.e
 clear hk4 hb4
 by_cases h14:o.kind=14
 · have d14:(o.kind == 14)=true:=by rw [beq_iff_eq];exact h14
   have HT:=Lh (show takesK o=lf++[o.d,o.e] by rw [HLF.out,if_pos h14])
   clear h14
   go_wp2_with (first
     | (at_builtin;refine wpList_append_own_at _ rfl _ _ 50 rfl w.heap.size 3 i0 (.int .i64 0) 1 8 Tryz.underlying50 hi hz0 hz1 hz2 rfl (by decide) (.slice (some ⟨gb,0,none⟩) lf.length c3) lf.length (intV lf) rfl ((ownsRow_base HO4.out (by have:=HB2.out.size;have:=HB0.out.size;omega)).alloc _) ⟨w4.heap.size,0,none⟩ 2 2 [Value.int .i64 o.d,.int .i64 o.e] rfl (by rfl) (cells_new_at w4 #[Value.int .i64 o.d,.int .i64 o.e] 3) (by simp [Value.oneCell']) (by unfold maxLen;omega) (by omega) (by have:=HB4.out.size;have:=HB0.out.size;simp;omega) ?_;intro v' w6 ho6 hg6 _ hw6
        have HO6:=Lh ho6
        have HG6:=Lh hg6
        obtain ⟨A6,c6,rfl⟩:=own_form ho6
        clear ho6 hg6 hw6)
     | go_in)
   go_ret
   have hl2:(lf++[o.d,o.e]).length=lf.length+2:=by simp
   have hown:w6.ownsRow w.heap.size 3 1 (.slice A6 (lf.length+2) c6) (lf++[o.d,o.e]).length (intV (lf++[o.d,o.e])):=by
     rw [hl2]
     have:=HO6.out
     simpa [intV] using this
   refine ⟨A6,lf.length+2,c6,rfl,by rw [HT.out];exact Rows.mono (nums_own hown) (fun k hk=>(own_lt hown k hk).1),?_⟩
   have h1:=HB0.out.trans (HB4.out.mono HB0.out.size)
   refine (h1.alloc h1.size _).grown HG6.out (by have:=h1.size;simp;omega) (fun j e=>?_)
   have e1:gb=j:=by cases e;rfl
   have h5:W2.heap.size≤gb:=(own_lt HO3.out gb rfl).2
   have:=HB2.out.size
   have:=HB0.out.size
   omega
 · have d14:(o.kind == 14)=false:=beq_eq_false_iff_ne.2 h14
   have HT:=Lh (show takesK o=lf by rw [HLF.out,if_neg h14,List.append_nil])
   clear h14
   go_wp2
   go_ret
   refine ⟨_,_,_,rfl,by rw [HT.out];exact Rows.mono (nums_own HO4.out) (fun k hk=>(own_lt HO4.out k hk).1),HB0.out.trans (HB4.out.mono HB0.out.size)⟩
end Go.Proofs.YtjbabpnepjhllaaGreat
