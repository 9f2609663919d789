/- Part 24 of a claim; what it proves stands in its last text. -/
import Derived.Test.YtjbabpnepjhllaaGreatSx23
namespace Go.Proofs.YtjbabpnepjhllaaGreat
open Go.RowKit
set_option maxRecDepth 100000
theorem well_nil (n:Nat):WellL n []:=⟨⟨List.Pairwise.nil,by simp⟩,by simp⟩
theorem runD_rows {vs:List KVar} {ops:List KOp} (hone:∀ (i:Nat) (o:KOp),ops[i]? = some o→o.kind≠15→oneK vs o=true) {m:Bool} {i t:Nat} {l l':List Fct} {A A':List (List Fct)} (h:RunD vs ops m i t l A l' A'):WellL vs.length l→(∀ r∈A,WellL vs.length r)→∀ r∈A',WellL vs.length r:=by
 have hset:∀ (A:List (List Fct)) (i:Nat) (l:List Fct),WellL vs.length l→(∀ r∈A,WellL vs.length r)→∀ r∈A.set i l,WellL vs.length r:=fun A i l hl hA r hr=>by
   rcases List.mem_or_eq_of_mem_set hr with h | h
   · exact hA r h
   · subst h;exact hl
 induction h with
 | done _=>exact fun _ h=>h
 | op hi ho hk hr ih=>exact fun h hA=>ih (well_after (hone _ _ ho hk) h) (hset _ _ _ h hA)
 | loop hi ho hk he hl hr ihl ihr=>exact fun h hA=>ihr (runD_well hone hl h) (hset _ _ _ (runD_well hone hl h) (ihl h (hset _ _ _ h hA)))
 | still hr hs ih=>exact ih
 | more hr hs hm ih1 ih2=>exact fun h hA=>ih2 (well_filter h _) (ih1 h hA)
theorem ahead_well {k:Krn} {A:List (List Fct)} (hc:checkK k=true) (h:AheadIs k A):(∀ r∈A,WellL k.vars.length r)∧A.length=k.ops.length:=by
 unfold AheadIs at h
 rw [if_pos hc] at h
 obtain ⟨l',h⟩:=h
 refine ⟨runD_rows (fun _ _ ho _=>opsK_one (checkK_parts hc).2.2.2.2 ho) h (start_well hc) (fun r hr=>?_),by rw [runD_len h];simp⟩
 rw [List.eq_of_mem_replicate hr]
 exact well_nil _
def missF (k:Krn) (A:List (List Fct)) (i:Nat):Bool:=(needsF (k.ops.getD i ⟨0,0,0,0,0,0,0⟩)).any fun f=>!knowsF (A.getD i []) f
def DChk (k:Krn) (A:List (List Fct)) (at_ e:Int):Prop:=(checkK k=false∧at_=0∧e=2)∨(checkK k=true∧((e=0∧at_=k.ops.length∧∀ i,i < k.ops.length→missF k A i=false)∨(∃ i:Nat,i < k.ops.length∧e=9∧at_=i∧missF k A i=true∧∀ j,j < i→missF k A j=false)))
set_option maxHeartbeats 8000000 in
theorem DCheck_any (Av Ao Ar:Option Addr) (nv cv no co nr cr:Nat) (k:Krn) (A:List (List Fct)) (w:World) (F:Nat→Prop) (hk:KernAt w F [.slice Av nv cv,.slice Ao no co,.slice Ar nr cr] k) (hF:∀ k,F k→k < w.heap.size) (hv:k.vars.length≤190) (hA:AheadIs k A) :
   Calls Tryz.prog 13 #[.agg #[.slice Av nv cv,.slice Ao no co,.slice Ar nr cr]] w fun e w'=>∃ at_ er,e=.returned (.tuple #[.int .i64 at_,.int .i64 er])∧DChk k A at_ er∧Below w.heap.size w w':=by
 obtain ⟨W,hW⟩:∃ W,W=w.alloc (.cells #[.slice Av nv cv,.slice Ao no co,.slice Ar nr cr] 25):=⟨_,rfl⟩
 have hb:Below w.heap.size w W:=by rw [hW];exact (Below.refl _ _).alloc (Nat.le_refl _) _
 have hz:W.heap.size=w.heap.size+1:=by rw [hW];simp
 have hbox:W.heap[w.heap.size]? = some (.cells #[.slice Av nv cv,.slice Ao no co,.slice Ar nr cr] 25 (0,0)):=by rw [hW];exact heap_alloc_new w _
 have hk2:KernAt W (fun k=>k < W.heap.size) [.slice Av nv cv,.slice Ao no co,.slice Ar nr cr] k:=(hk.keep (SameOn.of_below hb hF)).mono fun j hj=>by have:=hF j hj;omega
 have hkb:=kbox_of hbox hk2
 have HCH:=Lh (fun (w1:World) (h1:Below W.heap.size W w1)=>lcheck_any Av Ao Ar nv cv no co nr cr k w1 _ (kern_next hk2 h1) (fun k hk=>hk) (by omega))
 have HAH:=Lh (fun (w1:World) (h1:Below W.heap.size W w1)=>Ahead_any Av Ao Ar nv cv no co nr cr k A w1 _ (kern_next hk2 h1) (fun k hk=>hk) hv hA)
 have HW:=Lh hW
 have HB:=Lh hb
 have HK:=Lh hkb
 have hon:=hkb.nv.2.1
 have c0:=hkb.c0
 have c1:=hkb.c1
 have c2:=hkb.c2
 cases hc:checkK k
 · have he:errK k=2:=by unfold errK;rw [hc];rfl
   rw [he] at HCH
   have HC:=Lh hc
   clear hW hb hz hbox hk2 hkb hk hF hc he hon
   go_enter Tryz.func13,Tryz.ntmps13
   go_upto_region 1 with (first | go_in)
   rw [←HW.out]
   clear HW
   go_wp2_with (first | ((with_reducible refine (HCH.out _ (Below.refl _ _)).mono ?_);rintro e w1 ⟨rfl,hb1⟩;have HB1:=Lh hb1;clear hb1) | go_in)
   go_ret2
   exact ⟨0,2,rfl,.inl ⟨HC.out,rfl,rfl⟩,HB.out.trans (HB1.out.mono HB.out.size)⟩
 have he:errK k=0:=by unfold errK;rw [hc];rfl
 rw [he] at HCH
 have HC:=Lh hc
 have HKF:=Lh (kfine_of hc hk.ops hv)
 have HAW:=Lh (ahead_well hc hA)
 have HOK:=Lh hk.ops
 have HNO:=Lh hon
 have n5:no≤4096:=by have:=(checkK_parts hc).2.1;omega
 clear hW hb hz hbox hk2 hkb hk hF hc he hon hv hA
 go_enter Tryz.func13,Tryz.ntmps13
 go_upto_region 1 with (first | go_in)
 rw [←HW.out]
 clear HW
 go_upto_region 4 with (first | ((with_reducible refine (HCH.out _ (Below.refl _ _)).mono ?_);rintro e w1 ⟨rfl,hb1⟩;have HB1:=Lh hb1;clear hb1) | go_in)
 clear c0 c1 c2
 obtain ⟨c0,c1,c2⟩:w1.cell? ⟨w.heap.size,0,none⟩=some (.slice Av nv cv)∧w1.cell? ⟨w.heap.size,1,none⟩=some (.slice Ao no co)∧w1.cell? ⟨w.heap.size,2,none⟩=some (.slice Ar nr cr):=⟨(HK.out.next HB1.out).c0,(HK.out.next HB1.out).c1,(HK.out.next HB1.out).c2⟩
 go_wp2_with (first | ((with_reducible refine (HAH.out _ HB1.out).mono ?_);rintro e w2 ⟨Ag,n,c,rfl,hr2,hb2⟩;have HR2:=Lh hr2;have HB2:=Lh (HB1.out.trans (hb2.mono HB1.out.size));have HAN:=Lh (hr2.len.symm.trans HAW.out.2);clear hr2 hb2) | go_in)
 clear c0 c1 c2
 go_loopw [2,3,5,6,15] (fun _ _ _ _ s15 wr=>∃ j:Nat,j≤n∧s15=.int .i64 (j:Nat)∧(∀ i,i < j→missF k A i=false)∧Below w2.heap.size w2 wr) (fun _ _ _ _ s15 _=>n - (intOf s15).toNat)
 case atStart=>exact ⟨0,Nat.zero_le _,rfl,fun i hi=>absurd hi (by omega),Below.refl _ _⟩
 case round =>
   obtain ⟨j,hj,rfl,hms,hb⟩:=hrel
   have HMS:=Lh hms
   have HBR:=Lh hb
   by_cases hlt:j < n
   · have d1:decide (j < n)=true:=decide_eq_true hlt
     have hjn:j < no:=by have:=HAN.out;have:=HNO.out;omega
     obtain ⟨l,hl⟩:∃ v,A[j]? = some v:=⟨_,List.getElem?_eq_getElem (by have:=HAN.out;have:=HAW.out.2;omega)⟩
     obtain ⟨o,hx⟩:∃ v,k.ops[j]? = some v:=⟨_,List.getElem?_eq_getElem (by have:=HAN.out;omega)⟩
     obtain ⟨ga,rfl,hga,Al,nl,cl,y0,hfl⟩:=(HR2.out.next hb).row j l hl
     have HFL:=Lh hfl
     have HLS:=Lh (HKF.out.small (HAW.out.1 l (List.mem_of_getElem? hl)))
     have HM:=Lh (show missF k A j=(needsF o).any fun f=>!knowsF l f by
       unfold missF
       rw [List.getD_eq_getElem?_getD,List.getD_eq_getElem?_getD,hx,hl];rfl)
     have hkw:=HK.out.next (HB2.out.trans (hb.mono HB2.out.size))
     obtain ⟨gg,off,hA,hgg,x0,x1,x2,x3,x4,x5,x6⟩:=hkw.ops.at_ hx
     have c0:=hkw.c0
     have c1:=hkw.c1
     have c2:=hkw.c2
     have HBX:=Lh hkw.lt
     subst hA
     have i0:(0:Int)≤(j:Int):=by omega
     have i1:(j:Int) < (n:Int):=by omega
     have i3:(j:Int) < (no:Int):=by omega
     have i2:IntKind.i64.wrap (j:Int)=j:=by rw [IntKind.wrap_i64];have:=HAN.out;have:=HNO.out;omega
     clear hl hx hfl hga hms hb
     go_upto_region 7 with (first | go_in)
     obtain ⟨W3,hW3⟩:∃ W,W=wr.alloc (.cells #[.slice Al nl cl] 39):=⟨_,rfl⟩
     rw [←hW3]
     have hb3:Below wr.heap.size wr W3:=by rw [hW3];exact (Below.refl _ _).alloc (Nat.le_refl _) _
     have hz3:W3.heap.size=wr.heap.size+1:=by rw [hW3];simp
     have HC3:=Lh (show W3.cell? ⟨wr.heap.size,0,none⟩=some (.slice Al nl cl) by rw [hW3];exact cell_new wr _ _ rfl)
     have HB3:=Lh hb3
     have HZ3:=Lh hz3
     have HFL3:=Lh (show FactsAt W3 (fun q=>q < W3.heap.size) (.slice Al nl cl) l from rows_next HFL.out hb3)
     have z0:=(hb3.cell (p:=⟨w.heap.size,0,none⟩) HBX.out).trans c0
     have z1:=(hb3.cell (p:=⟨w.heap.size,1,none⟩) HBX.out).trans c1
     have z2:=(hb3.cell (p:=⟨w.heap.size,2,none⟩) HBX.out).trans c2
     have v0:=(hb3.cell (p:=⟨gg,off+j*7,none⟩) hgg).trans x0
     have v1:=(hb3.cell (p:=⟨gg,off+j*7+1,none⟩) hgg).trans x1
     have v2:=(hb3.cell (p:=⟨gg,off+j*7+2,none⟩) hgg).trans x2
     have aC:=(hb3.cell (p:=⟨gg,off+j*7+3,none⟩) hgg).trans x3
     have jT:=(hb3.cell (p:=⟨gg,off+j*7+4,none⟩) hgg).trans x4
     have aB:=(hb3.cell (p:=⟨gg,off+j*7+5,none⟩) hgg).trans x5
     have oR:=(hb3.cell (p:=⟨gg,off+j*7+6,none⟩) hgg).trans x6
     have HND:=Lh (show Calls Tryz.prog 39 #[.agg #[.int .i64 o.kind,.int .i64 o.d,.int .i64 o.e,.int .i64 o.a,.int .i64 o.b,.int .i64 o.c,.int .u64 o.imm]] W3 (SortedSays W3.heap.size (needsF o) W3) from Needs_any o W3)
     obtain ⟨B,hB⟩:∃ b,b=wr.heap.size:=⟨_,rfl⟩
     rw [←hB] at HC3 HZ3 ⊢
     have HCF:=Lh (fun (w4:World) (A4:Option Addr) (c4:Nat) (h4:Below W3.heap.size W3 w4) (h5:w4.ownsRow W3.heap.size 45 3 (.slice A4 (needsF o).length c4) (needsF o).length (cellsOfF (needsF o)))=>ContainsFunc_Fct (.slice A4 (needsF o).length c4) 40 #[.pointer (some ⟨B,0,none⟩)] w4 (fun q=>q < w4.heap.size) (needsF o) (fun f=>!knowsF l f) (by have:=needsF_len o;omega) (enters_of Tryz.func40 (by kernel_rfl) rfl) (Rows.mono (facts_own h5) fun q hq=>(own_lt h5 q hq).1) (fun k hk=>hk)
       (fun x _ wq hbr=>dchk1_any Al nl cl B x l wq (fun q=>q < W3.heap.size) ((hbr.cell (p:=⟨B,0,none⟩) (show B < w4.heap.size by have:=h4.size;have:=HZ3.out;omega)).trans ((h4.cell (p:=⟨B,0,none⟩) (show B < W3.heap.size by have:=HZ3.out;omega)).trans HC3.out)) (by have:=h4.size;have:=hbr.size;have:=HZ3.out;omega)
         (Rows.keep HFL3.out (SameOn.of_below (h4.trans (hbr.mono h4.size)) fun q hq=>hq)) (fun q hq=>by have:=h4.size;have:=hbr.size;omega) (by have:=HLS.out.1;omega)))
     rw [←HM.out] at HCF
     clear hW3 hb3 hz3 hB y0 c0 c1 c2 x0 x1 x2 x3 x4 x5 x6 hgg hkw
     cases hm:missF k A j
     · rw [hm] at HCF
       have HMM:=Lh hm
       clear hm
       go_wp2_with (first
         | ((with_reducible refine HND.out.mono ?_);rintro e w4 ⟨jT,rfl,ho4,hb4⟩;obtain ⟨A4,e4,rfl⟩:=own_form ho4;have HO4:=Lh ho4;have HB4:=Lh hb4;clear ho4 hb4)
         | ((with_reducible refine (HCF.out w4 A4 e4 HB4.out HO4.out).mono ?_);rintro e w5 ⟨rfl,hb5⟩;have HB5:=Lh hb5;clear hb5)
         | go_in)
       go_roundw
       case rel =>
         refine ⟨j+1,hlt,by go_num,fun i hi=>?_,?_⟩
         · by_cases e:i=j
           · subst e;exact HMM.out
           · exact HMS.out i (by omega)
         · have h1:=HBR.out.trans (HB3.out.mono HBR.out.size)
           have h2:=h1.trans (HB4.out.mono h1.size)
           exact h2.trans (HB5.out.mono h2.size)
       case measure=>simp [intOf];omega
     · rw [hm] at HCF
       have HMM:=Lh hm
       clear hm
       go_wp2_with (first
         | ((with_reducible refine HND.out.mono ?_);rintro e w4 ⟨jT,rfl,ho4,hb4⟩;obtain ⟨A4,e4,rfl⟩:=own_form ho4;have HO4:=Lh ho4;have HB4:=Lh hb4;clear ho4 hb4)
         | ((with_reducible refine (HCF.out w4 A4 e4 HB4.out HO4.out).mono ?_);rintro e w5 ⟨rfl,hb5⟩;have HB5:=Lh hb5;clear hb5)
         | go_in)
       go_ret2
       refine ⟨_,_,rfl,.inr ⟨HC.out,.inr ⟨j,by have:=HAN.out;omega,rfl,rfl,HMM.out,HMS.out⟩⟩,?_⟩
       have h0:=HBR.out
       have h1:=h0.trans (HB3.out.mono h0.size)
       have h2:=h1.trans (HB4.out.mono h1.size)
       have h3:=h2.trans (HB5.out.mono h2.size)
       exact HB.out.trans ((HB2.out.trans (h3.mono HB2.out.size)).mono HB.out.size)
   · have d1:decide (j < n)=false:=decide_eq_false hlt
     have e:j=n:=by omega
     subst e
     have hkw:=HK.out.next (HB2.out.trans (hb.mono HB2.out.size))
     have c0:=hkw.c0
     have c1:=hkw.c1
     have c2:=hkw.c2
     clear hkw hb hms
     go_wp2
     go_ret2
     exact ⟨_,_,rfl,.inr ⟨HC.out,.inl ⟨rfl,by have:=HNO.out;omega,fun i hi=>HMS.out i (by have:=HAN.out;omega)⟩⟩,HB.out.trans ((HB2.out.trans (HBR.out.mono HB2.out.size)).mono HB.out.size)⟩
end Go.Proofs.YtjbabpnepjhllaaGreat
namespace Go.Proofs.YtjbabpnepjhllaaGreat
open Go.RowKit
set_option maxRecDepth 100000
theorem op_any (kind d a b c imm:Int) (w:World):Calls Tryz.prog 26 #[.int .i64 kind,.int .i64 d,.int .i64 a,.int .i64 b,.int .i64 c,.int .u64 imm] w fun e w'=>e=.returned (.agg #[.int .i64 kind,.int .i64 d,.int .i64 (-1),.int .i64 a,.int .i64 b,.int .i64 c,.int .u64 imm])∧Below w.heap.size w w':=by
 go_enter Tryz.func26,Tryz.ntmps26
 go_wp2
 refine bodyPost_ret (results_cell_row (ty:=43) rfl _ _ w.heap.size 43 _ (0,0) _ rfl (heap_alloc_new w _) Tryz.underlying43 rfl (by kernel_rfl)) rfl ⟨rfl,(Below.refl _ _).alloc (Nat.le_refl _) _⟩
theorem lneed_any (kind a b:Int) (hk:IntKind.u64.wrap kind=kind) (w:World):Calls Tryz.prog 17 #[.int .i64 kind,.int .i64 a,.int .i64 b] w fun e w'=>e=.returned (.agg #[.int .i64 17,.int .i64 (-1),.int .i64 (-1),.int .i64 a,.int .i64 b,.int .i64 (-1),.int .u64 kind])∧Below w.heap.size w w':=by
 have HA:=Lh op_any
 go_enter Tryz.func17,Tryz.ntmps17
 go_wp2_with (first
   | ((with_reducible refine (HA.out _ _ _ _ _ _ _).mono ?_);rintro e w1 ⟨rfl,hb1⟩
      have hbk:w1.heap[w.heap.size]? = some (.cells #[.int .i64 0,.int .i64 0,.int .i64 0,.int .i64 0,.int .i64 0,.int .i64 0,.int .u64 0] 43 (0,0)):=(hb1.block _ (by simp)).trans (heap_alloc_new w _)
      have HBK:=Lh hbk
      have HB1:=Lh hb1
      clear hbk hb1)
   | (refine wpList_store_row rfl 43 _ _ rfl w.heap.size _ rfl rfl 43 #[.int .i64 0,.int .i64 0,.int .i64 0,.int .i64 0,.int .i64 0,.int .i64 0,.int .u64 0] HBK.out (by kernel_rfl) (by rfl) (by kernel_rfl) ?_)
   | go_in)
 refine bodyPost_ret (results_cell_row (ty:=43) rfl _ _ w.heap.size 43 _ (0,0) _ rfl (setRow_heap _ _ _ _ _ _ HBK.out) Tryz.underlying43 rfl (by kernel_rfl)) rfl ⟨rfl,?_⟩
 exact below_setRow (((Below.refl _ _).alloc (Nat.le_refl _) _).trans (HB1.out.mono (by simp))) (Nat.le_refl _) _
def lightK (k:Krn):Bool:=k.vars.all (fun v=>decide (v.limbs≤12)) && (decide (k.vars.length≤16) && (decide (k.ops.length≤40) && decide (k.reqs.length≤40)))
set_option maxHeartbeats 8000000 in
theorem LightKern_any (Av Ao Ar:Option Addr) (nv cv no co nr cr:Nat) (k:Krn) (w:World) (F:Nat→Prop) (hk:KernAt w F [.slice Av nv cv,.slice Ao no co,.slice Ar nr cr] k) (hF:∀ k,F k→k < w.heap.size) :
   Calls Tryz.prog 32 #[.agg #[.slice Av nv cv,.slice Ao no co,.slice Ar nr cr],.int .i64 16,.int .i64 12,.int .i64 40] w fun e w'=>e=.returned (.bool (lightK k))∧Below w.heap.size w w':=by
 obtain ⟨W,hW⟩:∃ W,W=w.alloc (.cells #[.slice Av nv cv,.slice Ao no co,.slice Ar nr cr] 25):=⟨_,rfl⟩
 have hb:Below w.heap.size w W:=by rw [hW];exact (Below.refl _ _).alloc (Nat.le_refl _) _
 have hbox:W.heap[w.heap.size]? = some (.cells #[.slice Av nv cv,.slice Ao no co,.slice Ar nr cr] 25 (0,0)):=by rw [hW];exact heap_alloc_new w _
 have hk2:KernAt W (fun k=>k < W.heap.size) [.slice Av nv cv,.slice Ao no co,.slice Ar nr cr] k:=(hk.keep (SameOn.of_below hb hF)).mono fun j hj=>by have:=hF j hj;have:=hb.size;omega
 have hkb:=kbox_of hbox hk2
 have HW:=Lh hW
 have HB:=Lh hb
 have HK:=Lh hkb
 have HNV:=Lh hkb.nv
 have n63:nv≤9223372036854775807:=by have:=hk.nv;have:=hkb.nv;omega
 clear hW hb hbox hk2 hkb hk hF
 go_enter Tryz.func32,Tryz.ntmps32
 go_upto_region 1 with (first | go_in)
 rw [←HW.out]
 clear HW
 have c0:=HK.out.c0
 have c1:=HK.out.c1
 have c2:=HK.out.c2
 go_wp2
 go_loopw [8,9] (fun s8 s9 wr=>∃ j:Nat,j≤nv∧s9=.int .i64 (j:Nat)∧s8=.bool false∧(∀ i v,i < j→k.vars[i]? = some v→v.limbs≤12)∧wr=W) (fun _ s9 _=>nv - (intOf s9).toNat)
 case atStart=>exact ⟨0,Nat.zero_le _,rfl,rfl,fun i v hi=>absurd hi (by omega),rfl⟩
 case round =>
   obtain ⟨j,hj,rfl,rfl,hms,hw⟩:=hrel
   subst hw
   have HMS:=Lh hms
   clear hms
   by_cases hlt:j < nv
   · have d1:decide (j < nv)=true:=decide_eq_true hlt
     obtain ⟨v,hx⟩:∃ v,k.vars[j]? = some v:=⟨_,List.getElem?_eq_getElem (by have:=HNV.out.1;omega)⟩
     obtain ⟨gg,off,hA,hgg,x0,x1,x2⟩:=HK.out.vars.at_ hx
     have HX:=Lh hx
     subst hA
     have i0:(0:Int)≤(j:Int):=by omega
     have i1:(j:Int) < (nv:Int):=by omega
     have i2:IntKind.i64.wrap (j:Int)=j:=by rw [IntKind.wrap_i64];omega
     clear hx
     by_cases hle:v.limbs≤12
     · have d2:decide (12 < v.limbs)=false:=decide_eq_false (by omega)
       have HLE:=Lh hle
       clear hle
       go_wp2
       go_roundw
       case rel =>
         refine ⟨j+1,hlt,by go_num,rfl,fun i u hi hu=>?_,trivial⟩
         by_cases e:i=j
         · subst e;rw [HX.out] at hu;cases hu;exact HLE.out
         · exact HMS.out i u (by omega) hu
       case measure=>simp [intOf];omega
     · have d2:decide (12 < v.limbs)=true:=decide_eq_true (by omega)
       have HL:=Lh (show lightK k=false by
         unfold lightK
         rw [show k.vars.all (fun v=>decide (v.limbs≤12))=false from by
           rw [List.all_eq_false]
           exact ⟨v,List.mem_of_getElem? HX.out,by simpa using hle⟩,Bool.false_and])
       clear hle
       go_wp2
       go_ret
       exact ⟨by rw [HL.out];rfl,HB.out⟩
   · have d1:decide (j < nv)=false:=decide_eq_false hlt
     have e:j=nv:=by omega
     subst e
     have hall:k.vars.all (fun v=>decide (v.limbs≤12))=true:=by
       rw [List.all_eq_true]
       intro v hv
       obtain ⟨i,hi,he⟩:=List.getElem_of_mem hv
       exact decide_eq_true (HMS.out i v (by have:=HNV.out.1;omega) (by rw [List.getElem?_eq_getElem hi,he]))
     have HL:=Lh (show lightK k=(decide (j≤16) && (decide (no≤40) && decide (nr≤40))) by
       unfold lightK
       rw [hall,Bool.true_and,←HNV.out.1,←HNV.out.2.1,←HNV.out.2.2])
     clear hall HMS
     by_cases h1:j≤16
     rotate_left
     · have d3:decide ((j:Int)≤16)=false:=decide_eq_false (by omega)
       have HV:=Lh (show lightK k=false by rw [HL.out,decide_eq_false h1];rfl)
       clear h1 HL
       go_wp2
       go_ret
       exact ⟨by rw [HV.out];rfl,HB.out⟩
     have d3:decide ((j:Int)≤16)=true:=decide_eq_true (by omega)
     by_cases h2:no≤40
     rotate_left
     · have d4:decide ((no:Int)≤40)=false:=decide_eq_false (by omega)
       have HV:=Lh (show lightK k=false by rw [HL.out,decide_eq_false h2];simp)
       clear h1 h2 HL
       go_wp2
       go_ret
       exact ⟨by rw [HV.out];rfl,HB.out⟩
     have d4:decide ((no:Int)≤40)=true:=decide_eq_true (by omega)
     by_cases h3:nr≤40
     rotate_left
     · have d5:decide ((nr:Int)≤40)=false:=decide_eq_false (by omega)
       have HV:=Lh (show lightK k=false by rw [HL.out,decide_eq_false h3];simp)
       clear h1 h2 h3 HL
       go_wp2
       go_ret
       exact ⟨by rw [HV.out];rfl,HB.out⟩
     have d5:decide ((nr:Int)≤40)=true:=decide_eq_true (by omega)
     have HV:=Lh (show lightK k=true by rw [HL.out,decide_eq_true h1,decide_eq_true h2,decide_eq_true h3];rfl)
     clear h1 h2 h3 HL
     go_wp2
     go_ret
     exact ⟨by rw [HV.out];rfl,HB.out⟩
set_option maxHeartbeats 8000000 in
theorem light_any (Av Ao Ar:Option Addr) (nv cv no co nr cr:Nat) (k:Krn) (w:World) (F:Nat→Prop) (hk:KernAt w F [.slice Av nv cv,.slice Ao no co,.slice Ar nr cr] k) (hF:∀ k,F k→k < w.heap.size) :
   Calls Tryz.prog 9 #[.agg #[.slice Av nv cv,.slice Ao no co,.slice Ar nr cr]] w fun e w'=>e=.returned (.bool (lightK k))∧Below w.heap.size w w':=by
 obtain ⟨W,hW⟩:∃ W,W=w.alloc (.cells #[.slice Av nv cv,.slice Ao no co,.slice Ar nr cr] 25):=⟨_,rfl⟩
 have hb:Below w.heap.size w W:=by rw [hW];exact (Below.refl _ _).alloc (Nat.le_refl _) _
 have hbox:W.heap[w.heap.size]? = some (.cells #[.slice Av nv cv,.slice Ao no co,.slice Ar nr cr] 25 (0,0)):=by rw [hW];exact heap_alloc_new w _
 have hk2:KernAt W (fun k=>k < W.heap.size) [.slice Av nv cv,.slice Ao no co,.slice Ar nr cr] k:=(hk.keep (SameOn.of_below hb hF)).mono fun j hj=>by have:=hF j hj;have:=hb.size;omega
 have hkb:=kbox_of hbox hk2
 have HL:=Lh (LightKern_any Av Ao Ar nv cv no co nr cr k W _ hk2 (fun k hk=>hk))
 have HW:=Lh hW
 have HB:=Lh hb
 have c0:=hkb.c0
 have c1:=hkb.c1
 have c2:=hkb.c2
 clear hW hb hbox hk2 hkb hk hF
 go_enter Tryz.func9,Tryz.ntmps9
 go_upto_region 1 with (first | go_in)
 rw [←HW.out]
 clear HW
 go_wp2_with (first | ((with_reducible refine HL.out.mono ?_);rintro e w1 ⟨rfl,hb1⟩) | go_in)
 go_ret
 exact ⟨rfl,HB.out.trans (hb1.mono HB.out.size)⟩
end Go.Proofs.YtjbabpnepjhllaaGreat
