/- Part 13 of a claim; what it proves stands in its last text. -/
import Derived.Test.YtjbabpnepjhllaaGreatSx11
import Derived.Test.YtjbabpnepjhllaaGreatSx12
namespace Go.Proofs.YtjbabpnepjhllaaGreat
open Go.RowKit
set_option maxRecDepth 100000
set_option maxHeartbeats 2000000 in
theorem radix_any (k:Nat) (hk:k≤512) (w:World):Calls Tryz.prog 98 #[.int .i64 k] w fun e w'=>∃ A n c,e=.returned (.slice A n c)∧NumAt w' A n c (LB ^ k)∧n≤600∧Below w.heap.size w w':=by
 obtain ⟨N,hN⟩:∃ N,N=k+1:=⟨_,rfl⟩
 have k1:IntKind.i64.wrap ((k:Int)+1)=(N:Int):=by rw [IntKind.wrap_i64];omega
 have hmk:=make_u N (by omega) w
 have hget:(List.replicate N 0)[k]? = some 0:=by rw [List.getElem?_replicate];simp [hN]
 have HM:=Lh (show MulAt w (w.alloc (.cells (cellsU (List.replicate N 0)).toArray 41)) w.heap.size 0 0 N (List.replicate N 0) from ⟨heap_alloc_new w _,by simp,fun x hx=>by rw [List.eq_of_mem_replicate hx];decide,(Below.refl _ _).alloc (Nat.le_refl _) _⟩)
 have HS:=Lh (HM.out.put (Nat.le_refl _) k (t:=1) (by decide))
 have HV:=Lh (show natV ((List.replicate N 0).set k 1)=LB ^ k by
   have:=natV_set 1 hget
   rw [natV_zeros] at this
   simpa using this)
 have HN:=Lh (show N≤600 by omega)
 obtain ⟨p0,pf⟩:=HM.out.blk.get hget
 have i0:(0:Int)≤(k:Int):=by omega
 have i1:(k:Int) < (N:Int):=by omega
 clear hN hget
 go_enter Tryz.func98,Tryz.ntmps98
 go_wp2
 go_ret
 have hblk:UBlk (w.alloc (.cells ((cellsU (List.replicate N 0)).set k (.int .u64 1)).toArray 41)) w.heap.size ((List.replicate N 0).set k 1):=by
   unfold UBlk
   rw [heap_alloc_new]
   simp [cellsU,List.map_set]
 have hat:=hblk.at_
 rw [List.length_set,List.length_replicate] at hat
 exact ⟨_,N,N,rfl,⟨⟨_,hat,HS.out.ok,HV.out⟩,by have:=HN.out;omega⟩,HN.out,(Below.refl _ _).alloc (Nat.le_refl _) _⟩
structure VlAt (W:World) (b g n:Nat) (Av:Option Addr) (nv cv:Nat) (vs:List KVar) (o:KOp) (v:List Nat):Prop where
 c0:W.cell? ⟨b,0,none⟩=some (.slice Av nv cv)
 o0:W.cell? ⟨b+1,0,none⟩=some (.int .i64 o.kind)
 o1:W.cell? ⟨b+1,1,none⟩=some (.int .i64 o.d)
 o3:W.cell? ⟨b+1,3,none⟩=some (.int .i64 o.a)
 o4:W.cell? ⟨b+1,4,none⟩=some (.int .i64 o.b)
 o5:W.cell? ⟨b+1,5,none⟩=some (.int .i64 o.c)
 o6:W.cell? ⟨b+1,6,none⟩=some (.int .u64 o.imm)
 lt:b+1 < W.heap.size
 vars:KVarsAt W (fun k=>k < W.heap.size) (.slice Av nv cv) vs
 vals:ValsAt W g n v
theorem VlAt.next {W W':World} {b g n:Nat} {Av:Option Addr} {nv cv:Nat} {vs:List KVar} {o:KOp} {v:List Nat} (h:VlAt W b g n Av nv cv vs o v) (hb:Below W.heap.size W W'):VlAt W' b g n Av nv cv vs o v :=
 have hl:=h.lt
 ⟨(hb.cell (p:=⟨b,0,none⟩) (by simp only;omega)).trans h.c0,(hb.cell (p:=⟨b+1,0,none⟩) hl).trans h.o0,(hb.cell (p:=⟨b+1,1,none⟩) hl).trans h.o1,(hb.cell (p:=⟨b+1,3,none⟩) hl).trans h.o3,(hb.cell (p:=⟨b+1,4,none⟩) hl).trans h.o4,(hb.cell (p:=⟨b+1,5,none⟩) hl).trans h.o5,(hb.cell (p:=⟨b+1,6,none⟩) hl).trans h.o6,Nat.lt_of_lt_of_le hl hb.size,rows_next h.vars hb,h.vals.next hb⟩
theorem vl_new {w:World} {g n:Nat} {Av:Option Addr} {nv cv:Nat} {vo vr:Value} {vs:List KVar} {o:KOp} {v:List Nat} (hk:KVarsAt w (fun k=>k < w.heap.size) (.slice Av nv cv) vs) (hv:ValsAt w g n v) :
   VlAt ((w.alloc (.cells #[.slice Av nv cv,vo,vr] 25)).alloc (.cells (kopRow o).toArray 43)) w.heap.size g n Av nv cv vs o v∧Below w.heap.size w ((w.alloc (.cells #[.slice Av nv cv,vo,vr] 25)).alloc (.cells (kopRow o).toArray 43)):=by
 have hb1:Below w.heap.size w (w.alloc (.cells #[.slice Av nv cv,vo,vr] 25)):=(Below.refl _ _).alloc (Nat.le_refl _) _
 have hb:Below w.heap.size w ((w.alloc (.cells #[.slice Av nv cv,vo,vr] 25)).alloc (.cells (kopRow o).toArray 43)):=hb1.alloc hb1.size _
 have h1:((w.alloc (.cells #[.slice Av nv cv,vo,vr] 25)).alloc (.cells (kopRow o).toArray 43)).heap[w.heap.size]? = some (.cells #[.slice Av nv cv,vo,vr] 25 (0,0)):=(Below.heap_alloc _ _ _ (by simp)).trans (heap_alloc_new w _)
 have h2:((w.alloc (.cells #[.slice Av nv cv,vo,vr] 25)).alloc (.cells (kopRow o).toArray 43)).heap[w.heap.size+1]? = some (.cells (kopRow o).toArray 43 (0,0)):=by
   have:=heap_alloc_new (w.alloc (.cells #[.slice Av nv cv,vo,vr] 25)) (.cells (kopRow o).toArray 43)
   simpa using this
 refine ⟨⟨?_,?_,?_,?_,?_,?_,?_,lt_of_block h2,rows_next hk hb,hv.next hb⟩,hb⟩
 · simp [World.cell?,h1]
 all_goals (simp only [World.cell?,h2];rfl)
set_option maxHeartbeats 4000000 in
theorem Value_1 (Av Ao Ar:Option Addr) (nv cv no co nr cr:Nat) (vs:List KVar) (o:KOp) (g n:Nat) (v:List Nat) (w:World) (hk:KVarsAt w (fun k=>k < w.heap.size) (.slice Av nv cv) vs) (hv:ValsAt w g n v) (hvk:varsK vs=true) (h1:oneK vs o=true) (hok:ValOk vs v) (hkd:o.kind=1) (hko:KOpOk o) :
   Calls Tryz.prog 72 #[.agg #[.slice Av nv cv,.slice Ao no co,.slice Ar nr cr],.agg #[.int .i64 o.kind,.int .i64 o.d,.int .i64 o.e,.int .i64 o.a,.int .i64 o.b,.int .i64 o.c,.int .u64 o.imm],.slice (some ⟨g,0,none⟩) n n] w (Told (valK vs o v) w):=by
 have hp:=oneK_parts h1
 have hd:=part_d hp (by omega)
 have hvs:=(varsK_len hvk).2
 obtain ⟨l1,l2,l3⟩:=limb_pos hvk hd
 obtain ⟨L,hL⟩:∃ L,L=limbN vs o.d:=⟨_,rfl⟩
 rw [←hL] at l1 l2 l3
 obtain ⟨pd,hpd⟩:∃ p:Nat,o.d=p:=⟨o.d.toNat,by omega⟩
 obtain ⟨vd,hvd⟩:∃ x,vs[pd]? = some x:=⟨_,List.getElem?_eq_getElem (by omega)⟩
 have hlimb:vd.limbs=(L:Int):=by
   rw [←l3];unfold limbsF;rw [hpd,Int.toNat_natCast,List.getD_eq_getElem?_getD,hvd];rfl
 obtain ⟨hvl,hbW⟩:=vl_new (vo:=.slice Ao no co) (vr:=.slice Ar nr cr) (o:=o) hk hv
 obtain ⟨W,hW⟩:∃ W,W=(w.alloc (.cells #[.slice Av nv cv,.slice Ao no co,.slice Ar nr cr] 25)).alloc (.cells (kopRow o).toArray 43):=⟨_,rfl⟩
 rw [←hW] at hvl hbW
 have HW:=Lh (show W=(w.alloc (.cells #[.slice Av nv cv,.slice Ao no co,.slice Ar nr cr] 25)).alloc (.cells #[.int .i64 o.kind,.int .i64 o.d,.int .i64 o.e,.int .i64 o.a,.int .i64 o.b,.int .i64 o.c,.int .u64 o.imm] 43) from hW)
 have HB:=Lh hbW
 have HVL:=Lh hvl
 have hnv:=(rows_len hvl.vars).1
 have hng:=hvl.vals.len
 have hvlen:=hok.len
 obtain ⟨bv,ov,hAv,hbv,v0,_⟩:=KVarsAt.at_ hvl.vars hvd
 rw [hlimb] at v0
 have c0:=hvl.c0
 have o0:=hvl.o0
 have o1:=hvl.o1
 have o3:=hvl.o3
 have o4:=hvl.o4
 have o5:=hvl.o5
 have o6:=hvl.o6
 rw [hkd] at o0
 rw [hpd] at o1
 rw [hAv] at c0
 have i1:(0:Int)≤(pd:Int):=by omega
 have i2:(pd:Int) < (nv:Int):=by omega
 have i3:IntKind.i64.wrap (pd:Int)=pd:=by rw [IntKind.wrap_i64];omega
 have H2:=Lh l2
 have hxa:o.a = -1:=by
   have h:=h1
   unfold oneK partsK at h
   rw [if_neg (by omega)] at h
   simp only [Bool.and_eq_true] at h
   have h2:=part_yes h.2.2.2.1.2.2.1
   rw [show kHasA o.kind=false by rw [hkd];rfl] at h2
   rw [if_neg (by simp)] at h2
   exact h2
 rw [hxa] at o3
 have hxb:o.b = -1:=by
   have h:=h1
   unfold oneK partsK at h
   rw [if_neg (by omega)] at h
   simp only [Bool.and_eq_true] at h
   have h2:=part_yes h.2.2.2.1.2.2.2.1
   rw [show kHasB o.kind=false by rw [hkd];rfl] at h2
   rw [if_neg (by simp)] at h2
   exact h2
 rw [hxb] at o4
 have hxc:o.c = -1:=by
   have h:=h1
   unfold oneK partsK at h
   rw [if_neg (by omega)] at h
   simp only [Bool.and_eq_true] at h
   have h2:=part_yes h.2.2.2.1.2.2.2.2
   rw [show kHasC o.kind=false by rw [hkd];rfl] at h2
   rw [if_neg (by simp)] at h2
   exact h2
 rw [hxc] at o5
 have HR:=Lh (show valK vs o v=o.imm % LB ^ L by
   unfold valK rawK
   simp only []
   rw [←hL,hkd]
   rfl)
 have HLW:=Lh (show Calls Tryz.prog 97 #[.slice (some ⟨W.heap.size,0,none⟩) 1 1,.int .i64 L] (W.alloc (.cells #[.int .u64 o.imm] 41)) (Told (o.imm % LB ^ L) (W.alloc (.cells #[.int .u64 o.imm] 41))) from tLow (NumAt.lit (w:=W) (t:=o.imm) hko.imm) L (by have:=H2.out;omega))
 clear hp hd hvs l1 l3 hvd hlimb hvl hbW hW hnv hng hvlen hbv hk hv hvk h1 hok hkd hpd hL hxa hxb hxc hko
 subst hAv
 go_enter Tryz.func72,Tryz.ntmps72
 go_upto_region 1 with go_in
 rw [←HW.out]
 clear HW
 go_wp2_with (first
   | ((with_reducible refine HLW.out.mono ?_);rintro e_ w9 h_;obtain ⟨A9,n9,c9,h1_,h2,h3,h4,hb⟩:=h_.from (HB.out.alloc HB.out.size _);cases h1_;have H9:=Lh h2;have HN9:=Lh h3;have HO9:=Lh h4;have HB9:=Lh hb;clear h2 h3 h4 hb)
   )
 go_ret
 rw [HR.out]
 exact ⟨A9,n9,c9,rfl,H9.out,HN9.out,HO9.out,HB9.out⟩
set_option maxHeartbeats 4000000 in
theorem Value_2 (Av Ao Ar:Option Addr) (nv cv no co nr cr:Nat) (vs:List KVar) (o:KOp) (g n:Nat) (v:List Nat) (w:World) (hk:KVarsAt w (fun k=>k < w.heap.size) (.slice Av nv cv) vs) (hv:ValsAt w g n v) (hvk:varsK vs=true) (h1:oneK vs o=true) (hok:ValOk vs v) (hkd:o.kind=2) :
   Calls Tryz.prog 72 #[.agg #[.slice Av nv cv,.slice Ao no co,.slice Ar nr cr],.agg #[.int .i64 o.kind,.int .i64 o.d,.int .i64 o.e,.int .i64 o.a,.int .i64 o.b,.int .i64 o.c,.int .u64 o.imm],.slice (some ⟨g,0,none⟩) n n] w (Told (valK vs o v) w):=by
 have hp:=oneK_parts h1
 have hd:=part_d hp (by omega)
 have hvs:=(varsK_len hvk).2
 obtain ⟨l1,l2,l3⟩:=limb_pos hvk hd
 obtain ⟨L,hL⟩:∃ L,L=limbN vs o.d:=⟨_,rfl⟩
 rw [←hL] at l1 l2 l3
 obtain ⟨pd,hpd⟩:∃ p:Nat,o.d=p:=⟨o.d.toNat,by omega⟩
 obtain ⟨vd,hvd⟩:∃ x,vs[pd]? = some x:=⟨_,List.getElem?_eq_getElem (by omega)⟩
 have hlimb:vd.limbs=(L:Int):=by
   rw [←l3];unfold limbsF;rw [hpd,Int.toNat_natCast,List.getD_eq_getElem?_getD,hvd];rfl
 obtain ⟨hvl,hbW⟩:=vl_new (vo:=.slice Ao no co) (vr:=.slice Ar nr cr) (o:=o) hk hv
 obtain ⟨W,hW⟩:∃ W,W=(w.alloc (.cells #[.slice Av nv cv,.slice Ao no co,.slice Ar nr cr] 25)).alloc (.cells (kopRow o).toArray 43):=⟨_,rfl⟩
 rw [←hW] at hvl hbW
 have HW:=Lh (show W=(w.alloc (.cells #[.slice Av nv cv,.slice Ao no co,.slice Ar nr cr] 25)).alloc (.cells #[.int .i64 o.kind,.int .i64 o.d,.int .i64 o.e,.int .i64 o.a,.int .i64 o.b,.int .i64 o.c,.int .u64 o.imm] 43) from hW)
 have HB:=Lh hbW
 have HVL:=Lh hvl
 have hnv:=(rows_len hvl.vars).1
 have hng:=hvl.vals.len
 have hvlen:=hok.len
 obtain ⟨bv,ov,hAv,hbv,v0,_⟩:=KVarsAt.at_ hvl.vars hvd
 rw [hlimb] at v0
 have c0:=hvl.c0
 have o0:=hvl.o0
 have o1:=hvl.o1
 have o3:=hvl.o3
 have o4:=hvl.o4
 have o5:=hvl.o5
 have o6:=hvl.o6
 rw [hkd] at o0
 rw [hpd] at o1
 rw [hAv] at c0
 have i1:(0:Int)≤(pd:Int):=by omega
 have i2:(pd:Int) < (nv:Int):=by omega
 have i3:IntKind.i64.wrap (pd:Int)=pd:=by rw [IntKind.wrap_i64];omega
 have H2:=Lh l2
 have hxa:=hp.a (.inl (by omega))
 obtain ⟨pa,hpa⟩:∃ p:Nat,o.a=p:=⟨o.a.toNat,by omega⟩
 obtain ⟨xa,hxxa⟩:∃ y,v[pa]? = some y:=⟨_,List.getElem?_eq_getElem (by omega)⟩
 obtain ⟨Aa,na,ca,ya,_,hnuma⟩:=hvl.vals.get hxxa
 have ea:argK v o.a=xa:=by rw [argK_pos hxa.1,hpa];exact getV_get hxxa
 rw [hpa] at o3
 have HNa:=Lh hnuma
 have j1a:decide ((pa:Int) ≥ 0)=true:=decide_eq_true (by omega)
 have j2a:decide ((0:Int)≤(pa:Int))=true:=decide_eq_true (by omega)
 have j3a:(0:Int)≤(pa:Int):=by omega
 have j4a:(pa:Int) < (n:Int):=by omega
 have j5a:IntKind.i64.wrap (pa:Int)=pa:=by rw [IntKind.wrap_i64];omega
 have hxb:o.b = -1:=by
   have h:=h1
   unfold oneK partsK at h
   rw [if_neg (by omega)] at h
   simp only [Bool.and_eq_true] at h
   have h2:=part_yes h.2.2.2.1.2.2.2.1
   rw [show kHasB o.kind=false by rw [hkd];rfl] at h2
   rw [if_neg (by simp)] at h2
   exact h2
 rw [hxb] at o4
 have hxc:o.c = -1:=by
   have h:=h1
   unfold oneK partsK at h
   rw [if_neg (by omega)] at h
   simp only [Bool.and_eq_true] at h
   have h2:=part_yes h.2.2.2.1.2.2.2.2
   rw [show kHasC o.kind=false by rw [hkd];rfl] at h2
   rw [if_neg (by simp)] at h2
   exact h2
 rw [hxc] at o5
 have HR:=Lh (show valK vs o v=xa % LB ^ L by
   unfold valK rawK
   simp only [ea]
   rw [←hL,hkd]
   rfl)
 clear hp hd hvs l1 l3 hvd hlimb hvl hbW hW hnv hng hvlen hbv hk hv hvk h1 hok hkd hpd hL hpa hxa hxxa hnuma ea hxb hxc
 subst hAv
 go_enter Tryz.func72,Tryz.ntmps72
 go_upto_region 1 with go_in
 rw [←HW.out]
 clear HW
 go_wp2_with (first
   | ((with_reducible refine (tLow HNa.out.num L (by have:=H2.out;omega)).mono ?_);rintro e_ w9 h_;obtain ⟨A9,n9,c9,h1_,h2,h3,h4,hb⟩:=h_.from HB.out;cases h1_;have H9:=Lh h2;have HN9:=Lh h3;have HO9:=Lh h4;have HB9:=Lh hb;clear h2 h3 h4 hb)
   )
 go_ret
 rw [HR.out]
 exact ⟨A9,n9,c9,rfl,H9.out,HN9.out,HO9.out,HB9.out⟩
set_option maxHeartbeats 4000000 in
theorem Value_3 (Av Ao Ar:Option Addr) (nv cv no co nr cr:Nat) (vs:List KVar) (o:KOp) (g n:Nat) (v:List Nat) (w:World) (hk:KVarsAt w (fun k=>k < w.heap.size) (.slice Av nv cv) vs) (hv:ValsAt w g n v) (hvk:varsK vs=true) (h1:oneK vs o=true) (hok:ValOk vs v) (hkd:o.kind=3) :
   Calls Tryz.prog 72 #[.agg #[.slice Av nv cv,.slice Ao no co,.slice Ar nr cr],.agg #[.int .i64 o.kind,.int .i64 o.d,.int .i64 o.e,.int .i64 o.a,.int .i64 o.b,.int .i64 o.c,.int .u64 o.imm],.slice (some ⟨g,0,none⟩) n n] w (Told (valK vs o v) w):=by
 have hp:=oneK_parts h1
 have hd:=part_d hp (by omega)
 have hvs:=(varsK_len hvk).2
 obtain ⟨l1,l2,l3⟩:=limb_pos hvk hd
 obtain ⟨L,hL⟩:∃ L,L=limbN vs o.d:=⟨_,rfl⟩
 rw [←hL] at l1 l2 l3
 obtain ⟨pd,hpd⟩:∃ p:Nat,o.d=p:=⟨o.d.toNat,by omega⟩
 obtain ⟨vd,hvd⟩:∃ x,vs[pd]? = some x:=⟨_,List.getElem?_eq_getElem (by omega)⟩
 have hlimb:vd.limbs=(L:Int):=by
   rw [←l3];unfold limbsF;rw [hpd,Int.toNat_natCast,List.getD_eq_getElem?_getD,hvd];rfl
 obtain ⟨hvl,hbW⟩:=vl_new (vo:=.slice Ao no co) (vr:=.slice Ar nr cr) (o:=o) hk hv
 obtain ⟨W,hW⟩:∃ W,W=(w.alloc (.cells #[.slice Av nv cv,.slice Ao no co,.slice Ar nr cr] 25)).alloc (.cells (kopRow o).toArray 43):=⟨_,rfl⟩
 rw [←hW] at hvl hbW
 have HW:=Lh (show W=(w.alloc (.cells #[.slice Av nv cv,.slice Ao no co,.slice Ar nr cr] 25)).alloc (.cells #[.int .i64 o.kind,.int .i64 o.d,.int .i64 o.e,.int .i64 o.a,.int .i64 o.b,.int .i64 o.c,.int .u64 o.imm] 43) from hW)
 have HB:=Lh hbW
 have HVL:=Lh hvl
 have hnv:=(rows_len hvl.vars).1
 have hng:=hvl.vals.len
 have hvlen:=hok.len
 obtain ⟨bv,ov,hAv,hbv,v0,_⟩:=KVarsAt.at_ hvl.vars hvd
 rw [hlimb] at v0
 have c0:=hvl.c0
 have o0:=hvl.o0
 have o1:=hvl.o1
 have o3:=hvl.o3
 have o4:=hvl.o4
 have o5:=hvl.o5
 have o6:=hvl.o6
 rw [hkd] at o0
 rw [hpd] at o1
 rw [hAv] at c0
 have i1:(0:Int)≤(pd:Int):=by omega
 have i2:(pd:Int) < (nv:Int):=by omega
 have i3:IntKind.i64.wrap (pd:Int)=pd:=by rw [IntKind.wrap_i64];omega
 have H2:=Lh l2
 have hxa:=hp.a (.inl (by omega))
 obtain ⟨pa,hpa⟩:∃ p:Nat,o.a=p:=⟨o.a.toNat,by omega⟩
 obtain ⟨xa,hxxa⟩:∃ y,v[pa]? = some y:=⟨_,List.getElem?_eq_getElem (by omega)⟩
 obtain ⟨Aa,na,ca,ya,_,hnuma⟩:=hvl.vals.get hxxa
 have ea:argK v o.a=xa:=by rw [argK_pos hxa.1,hpa];exact getV_get hxxa
 rw [hpa] at o3
 have HNa:=Lh hnuma
 have j1a:decide ((pa:Int) ≥ 0)=true:=decide_eq_true (by omega)
 have j2a:decide ((0:Int)≤(pa:Int))=true:=decide_eq_true (by omega)
 have j3a:(0:Int)≤(pa:Int):=by omega
 have j4a:(pa:Int) < (n:Int):=by omega
 have j5a:IntKind.i64.wrap (pa:Int)=pa:=by rw [IntKind.wrap_i64];omega
 have hxb:=hp.b (.inl (by omega))
 obtain ⟨pb,hpb⟩:∃ p:Nat,o.b=p:=⟨o.b.toNat,by omega⟩
 obtain ⟨xb,hxxb⟩:∃ y,v[pb]? = some y:=⟨_,List.getElem?_eq_getElem (by omega)⟩
 obtain ⟨Ab,nb,cb,yb,_,hnumb⟩:=hvl.vals.get hxxb
 have eb:argK v o.b=xb:=by rw [argK_pos hxb.1,hpb];exact getV_get hxxb
 rw [hpb] at o4
 have HNb:=Lh hnumb
 have j1b:decide ((pb:Int) ≥ 0)=true:=decide_eq_true (by omega)
 have j2b:decide ((0:Int)≤(pb:Int))=true:=decide_eq_true (by omega)
 have j3b:(0:Int)≤(pb:Int):=by omega
 have j4b:(pb:Int) < (n:Int):=by omega
 have j5b:IntKind.i64.wrap (pb:Int)=pb:=by rw [IntKind.wrap_i64];omega
 have hxc:o.c = -1:=by
   have h:=h1
   unfold oneK partsK at h
   rw [if_neg (by omega)] at h
   simp only [Bool.and_eq_true] at h
   have h2:=part_yes h.2.2.2.1.2.2.2.2
   rw [show kHasC o.kind=false by rw [hkd];rfl] at h2
   rw [if_neg (by simp)] at h2
   exact h2
 rw [hxc] at o5
 have HR:=Lh (show valK vs o v=(xa+xb) % LB ^ L by
   unfold valK rawK
   simp only [ea,eb]
   rw [←hL,hkd]
   rfl)
 clear hp hd hvs l1 l3 hvd hlimb hvl hbW hW hnv hng hvlen hbv hk hv hvk h1 hok hkd hpd hL hpa hxa hxxa hnuma ea hpb hxb hxxb hnumb eb hxc
 subst hAv
 go_enter Tryz.func72,Tryz.ntmps72
 go_upto_region 1 with go_in
 rw [←HW.out]
 clear HW
 go_wp2_with (first
   | ((with_reducible refine (tAdd HNa.out.num HNb.out.num (by have:=HNa.out.le;omega) (by have:=HNb.out.le;omega)).mono ?_);rintro e_ w5 ⟨A5,n5,c5,rfl,h1_,hn_,h3_,hb_⟩;have H5:=Lh h1_;have HN5:=Lh hn_;have HB5:=Lh (HB.out.trans (hb_.mono HB.out.size));have HB5r:=Lh hb_;clear h1_ hn_ h3_ hb_)
   | ((with_reducible refine (tLow H5.out L (by have:=H2.out;omega)).mono ?_);rintro e_ w9 h_;obtain ⟨A9,n9,c9,h1_,h2,h3,h4,hb⟩:=h_.from HB5.out;cases h1_;have H9:=Lh h2;have HN9:=Lh h3;have HO9:=Lh h4;have HB9:=Lh hb;clear h2 h3 h4 hb)
   )
 go_ret
 rw [HR.out]
 exact ⟨A9,n9,c9,rfl,H9.out,HN9.out,HO9.out,HB9.out⟩
set_option maxHeartbeats 4000000 in
theorem Value_5 (Av Ao Ar:Option Addr) (nv cv no co nr cr:Nat) (vs:List KVar) (o:KOp) (g n:Nat) (v:List Nat) (w:World) (hk:KVarsAt w (fun k=>k < w.heap.size) (.slice Av nv cv) vs) (hv:ValsAt w g n v) (hvk:varsK vs=true) (h1:oneK vs o=true) (hok:ValOk vs v) (hkd:o.kind=5) :
   Calls Tryz.prog 72 #[.agg #[.slice Av nv cv,.slice Ao no co,.slice Ar nr cr],.agg #[.int .i64 o.kind,.int .i64 o.d,.int .i64 o.e,.int .i64 o.a,.int .i64 o.b,.int .i64 o.c,.int .u64 o.imm],.slice (some ⟨g,0,none⟩) n n] w (Told (valK vs o v) w):=by
 have hp:=oneK_parts h1
 have hd:=part_d hp (by omega)
 have hvs:=(varsK_len hvk).2
 obtain ⟨l1,l2,l3⟩:=limb_pos hvk hd
 obtain ⟨L,hL⟩:∃ L,L=limbN vs o.d:=⟨_,rfl⟩
 rw [←hL] at l1 l2 l3
 obtain ⟨pd,hpd⟩:∃ p:Nat,o.d=p:=⟨o.d.toNat,by omega⟩
 obtain ⟨vd,hvd⟩:∃ x,vs[pd]? = some x:=⟨_,List.getElem?_eq_getElem (by omega)⟩
 have hlimb:vd.limbs=(L:Int):=by
   rw [←l3];unfold limbsF;rw [hpd,Int.toNat_natCast,List.getD_eq_getElem?_getD,hvd];rfl
 obtain ⟨hvl,hbW⟩:=vl_new (vo:=.slice Ao no co) (vr:=.slice Ar nr cr) (o:=o) hk hv
 obtain ⟨W,hW⟩:∃ W,W=(w.alloc (.cells #[.slice Av nv cv,.slice Ao no co,.slice Ar nr cr] 25)).alloc (.cells (kopRow o).toArray 43):=⟨_,rfl⟩
 rw [←hW] at hvl hbW
 have HW:=Lh (show W=(w.alloc (.cells #[.slice Av nv cv,.slice Ao no co,.slice Ar nr cr] 25)).alloc (.cells #[.int .i64 o.kind,.int .i64 o.d,.int .i64 o.e,.int .i64 o.a,.int .i64 o.b,.int .i64 o.c,.int .u64 o.imm] 43) from hW)
 have HB:=Lh hbW
 have HVL:=Lh hvl
 have hnv:=(rows_len hvl.vars).1
 have hng:=hvl.vals.len
 have hvlen:=hok.len
 obtain ⟨bv,ov,hAv,hbv,v0,_⟩:=KVarsAt.at_ hvl.vars hvd
 rw [hlimb] at v0
 have c0:=hvl.c0
 have o0:=hvl.o0
 have o1:=hvl.o1
 have o3:=hvl.o3
 have o4:=hvl.o4
 have o5:=hvl.o5
 have o6:=hvl.o6
 rw [hkd] at o0
 rw [hpd] at o1
 rw [hAv] at c0
 have i1:(0:Int)≤(pd:Int):=by omega
 have i2:(pd:Int) < (nv:Int):=by omega
 have i3:IntKind.i64.wrap (pd:Int)=pd:=by rw [IntKind.wrap_i64];omega
 have H2:=Lh l2
 have hxa:=hp.a (.inl (by omega))
 obtain ⟨pa,hpa⟩:∃ p:Nat,o.a=p:=⟨o.a.toNat,by omega⟩
 obtain ⟨xa,hxxa⟩:∃ y,v[pa]? = some y:=⟨_,List.getElem?_eq_getElem (by omega)⟩
 obtain ⟨Aa,na,ca,ya,_,hnuma⟩:=hvl.vals.get hxxa
 have ea:argK v o.a=xa:=by rw [argK_pos hxa.1,hpa];exact getV_get hxxa
 rw [hpa] at o3
 have HNa:=Lh hnuma
 have j1a:decide ((pa:Int) ≥ 0)=true:=decide_eq_true (by omega)
 have j2a:decide ((0:Int)≤(pa:Int))=true:=decide_eq_true (by omega)
 have j3a:(0:Int)≤(pa:Int):=by omega
 have j4a:(pa:Int) < (n:Int):=by omega
 have j5a:IntKind.i64.wrap (pa:Int)=pa:=by rw [IntKind.wrap_i64];omega
 have hxb:=hp.b (.inl (by omega))
 obtain ⟨pb,hpb⟩:∃ p:Nat,o.b=p:=⟨o.b.toNat,by omega⟩
 obtain ⟨xb,hxxb⟩:∃ y,v[pb]? = some y:=⟨_,List.getElem?_eq_getElem (by omega)⟩
 obtain ⟨Ab,nb,cb,yb,_,hnumb⟩:=hvl.vals.get hxxb
 have eb:argK v o.b=xb:=by rw [argK_pos hxb.1,hpb];exact getV_get hxxb
 rw [hpb] at o4
 have HNb:=Lh hnumb
 have j1b:decide ((pb:Int) ≥ 0)=true:=decide_eq_true (by omega)
 have j2b:decide ((0:Int)≤(pb:Int))=true:=decide_eq_true (by omega)
 have j3b:(0:Int)≤(pb:Int):=by omega
 have j4b:(pb:Int) < (n:Int):=by omega
 have j5b:IntKind.i64.wrap (pb:Int)=pb:=by rw [IntKind.wrap_i64];omega
 have hxc:o.c = -1:=by
   have h:=h1
   unfold oneK partsK at h
   rw [if_neg (by omega)] at h
   simp only [Bool.and_eq_true] at h
   have h2:=part_yes h.2.2.2.1.2.2.2.2
   rw [show kHasC o.kind=false by rw [hkd];rfl] at h2
   rw [if_neg (by simp)] at h2
   exact h2
 rw [hxc] at o5
 have HR:=Lh (show valK vs o v=(xa*xb) % LB ^ L by
   unfold valK rawK
   simp only [ea,eb]
   rw [←hL,hkd]
   rfl)
 clear hp hd hvs l1 l3 hvd hlimb hvl hbW hW hnv hng hvlen hbv hk hv hvk h1 hok hkd hpd hL hpa hxa hxxa hnuma ea hpb hxb hxxb hnumb eb hxc
 subst hAv
 go_enter Tryz.func72,Tryz.ntmps72
 go_upto_region 1 with go_in
 rw [←HW.out]
 clear HW
 go_wp2_with (first
   | ((with_reducible refine (tMul HNa.out.num HNb.out.num (by have:=HNa.out.le;have:=HNb.out.le;omega)).mono ?_);rintro e_ w5 ⟨A5,n5,c5,rfl,h1_,hn_,h3_,hb_⟩;have H5:=Lh h1_;have HN5:=Lh hn_;have HB5:=Lh (HB.out.trans (hb_.mono HB.out.size));have HB5r:=Lh hb_;clear h1_ hn_ h3_ hb_)
   | ((with_reducible refine (tLow H5.out L (by have:=H2.out;omega)).mono ?_);rintro e_ w9 h_;obtain ⟨A9,n9,c9,h1_,h2,h3,h4,hb⟩:=h_.from HB5.out;cases h1_;have H9:=Lh h2;have HN9:=Lh h3;have HO9:=Lh h4;have HB9:=Lh hb;clear h2 h3 h4 hb)
   )
 go_ret
 rw [HR.out]
 exact ⟨A9,n9,c9,rfl,H9.out,HN9.out,HO9.out,HB9.out⟩
set_option maxHeartbeats 4000000 in
theorem Value_6 (Av Ao Ar:Option Addr) (nv cv no co nr cr:Nat) (vs:List KVar) (o:KOp) (g n:Nat) (v:List Nat) (w:World) (hk:KVarsAt w (fun k=>k < w.heap.size) (.slice Av nv cv) vs) (hv:ValsAt w g n v) (hvk:varsK vs=true) (h1:oneK vs o=true) (hok:ValOk vs v) (hkd:o.kind=6) :
   Calls Tryz.prog 72 #[.agg #[.slice Av nv cv,.slice Ao no co,.slice Ar nr cr],.agg #[.int .i64 o.kind,.int .i64 o.d,.int .i64 o.e,.int .i64 o.a,.int .i64 o.b,.int .i64 o.c,.int .u64 o.imm],.slice (some ⟨g,0,none⟩) n n] w (Told (valK vs o v) w):=by
 have hp:=oneK_parts h1
 have hd:=part_d hp (by omega)
 have hvs:=(varsK_len hvk).2
 obtain ⟨l1,l2,l3⟩:=limb_pos hvk hd
 obtain ⟨L,hL⟩:∃ L,L=limbN vs o.d:=⟨_,rfl⟩
 rw [←hL] at l1 l2 l3
 obtain ⟨pd,hpd⟩:∃ p:Nat,o.d=p:=⟨o.d.toNat,by omega⟩
 obtain ⟨vd,hvd⟩:∃ x,vs[pd]? = some x:=⟨_,List.getElem?_eq_getElem (by omega)⟩
 have hlimb:vd.limbs=(L:Int):=by
   rw [←l3];unfold limbsF;rw [hpd,Int.toNat_natCast,List.getD_eq_getElem?_getD,hvd];rfl
 obtain ⟨hvl,hbW⟩:=vl_new (vo:=.slice Ao no co) (vr:=.slice Ar nr cr) (o:=o) hk hv
 obtain ⟨W,hW⟩:∃ W,W=(w.alloc (.cells #[.slice Av nv cv,.slice Ao no co,.slice Ar nr cr] 25)).alloc (.cells (kopRow o).toArray 43):=⟨_,rfl⟩
 rw [←hW] at hvl hbW
 have HW:=Lh (show W=(w.alloc (.cells #[.slice Av nv cv,.slice Ao no co,.slice Ar nr cr] 25)).alloc (.cells #[.int .i64 o.kind,.int .i64 o.d,.int .i64 o.e,.int .i64 o.a,.int .i64 o.b,.int .i64 o.c,.int .u64 o.imm] 43) from hW)
 have HB:=Lh hbW
 have HVL:=Lh hvl
 have hnv:=(rows_len hvl.vars).1
 have hng:=hvl.vals.len
 have hvlen:=hok.len
 obtain ⟨bv,ov,hAv,hbv,v0,_⟩:=KVarsAt.at_ hvl.vars hvd
 rw [hlimb] at v0
 have c0:=hvl.c0
 have o0:=hvl.o0
 have o1:=hvl.o1
 have o3:=hvl.o3
 have o4:=hvl.o4
 have o5:=hvl.o5
 have o6:=hvl.o6
 rw [hkd] at o0
 rw [hpd] at o1
 rw [hAv] at c0
 have i1:(0:Int)≤(pd:Int):=by omega
 have i2:(pd:Int) < (nv:Int):=by omega
 have i3:IntKind.i64.wrap (pd:Int)=pd:=by rw [IntKind.wrap_i64];omega
 have H2:=Lh l2
 have hxa:=hp.a (.inl (by omega))
 obtain ⟨pa,hpa⟩:∃ p:Nat,o.a=p:=⟨o.a.toNat,by omega⟩
 obtain ⟨xa,hxxa⟩:∃ y,v[pa]? = some y:=⟨_,List.getElem?_eq_getElem (by omega)⟩
 obtain ⟨Aa,na,ca,ya,_,hnuma⟩:=hvl.vals.get hxxa
 have ea:argK v o.a=xa:=by rw [argK_pos hxa.1,hpa];exact getV_get hxxa
 rw [hpa] at o3
 have HNa:=Lh hnuma
 have j1a:decide ((pa:Int) ≥ 0)=true:=decide_eq_true (by omega)
 have j2a:decide ((0:Int)≤(pa:Int))=true:=decide_eq_true (by omega)
 have j3a:(0:Int)≤(pa:Int):=by omega
 have j4a:(pa:Int) < (n:Int):=by omega
 have j5a:IntKind.i64.wrap (pa:Int)=pa:=by rw [IntKind.wrap_i64];omega
 have hxb:=hp.b (.inl (by omega))
 obtain ⟨pb,hpb⟩:∃ p:Nat,o.b=p:=⟨o.b.toNat,by omega⟩
 obtain ⟨xb,hxxb⟩:∃ y,v[pb]? = some y:=⟨_,List.getElem?_eq_getElem (by omega)⟩
 obtain ⟨Ab,nb,cb,yb,_,hnumb⟩:=hvl.vals.get hxxb
 have eb:argK v o.b=xb:=by rw [argK_pos hxb.1,hpb];exact getV_get hxxb
 rw [hpb] at o4
 have HNb:=Lh hnumb
 have j1b:decide ((pb:Int) ≥ 0)=true:=decide_eq_true (by omega)
 have j2b:decide ((0:Int)≤(pb:Int))=true:=decide_eq_true (by omega)
 have j3b:(0:Int)≤(pb:Int):=by omega
 have j4b:(pb:Int) < (n:Int):=by omega
 have j5b:IntKind.i64.wrap (pb:Int)=pb:=by rw [IntKind.wrap_i64];omega
 have hxc:o.c = -1:=by
   have h:=h1
   unfold oneK partsK at h
   rw [if_neg (by omega)] at h
   simp only [Bool.and_eq_true] at h
   have h2:=part_yes h.2.2.2.1.2.2.2.2
   rw [show kHasC o.kind=false by rw [hkd];rfl] at h2
   rw [if_neg (by simp)] at h2
   exact h2
 rw [hxc] at o5
 have HR:=Lh (show valK vs o v=(xa*xb) % LB ^ L by
   unfold valK rawK
   simp only [ea,eb]
   rw [←hL,hkd]
   rfl)
 clear hp hd hvs l1 l3 hvd hlimb hvl hbW hW hnv hng hvlen hbv hk hv hvk h1 hok hkd hpd hL hpa hxa hxxa hnuma ea hpb hxb hxxb hnumb eb hxc
 subst hAv
 go_enter Tryz.func72,Tryz.ntmps72
 go_upto_region 1 with go_in
 rw [←HW.out]
 clear HW
 go_wp2_with (first
   | ((with_reducible refine (tMul HNa.out.num HNb.out.num (by have:=HNa.out.le;have:=HNb.out.le;omega)).mono ?_);rintro e_ w5 ⟨A5,n5,c5,rfl,h1_,hn_,h3_,hb_⟩;have H5:=Lh h1_;have HN5:=Lh hn_;have HB5:=Lh (HB.out.trans (hb_.mono HB.out.size));have HB5r:=Lh hb_;clear h1_ hn_ h3_ hb_)
   | ((with_reducible refine (tLow H5.out L (by have:=H2.out;omega)).mono ?_);rintro e_ w9 h_;obtain ⟨A9,n9,c9,h1_,h2,h3,h4,hb⟩:=h_.from HB5.out;cases h1_;have H9:=Lh h2;have HN9:=Lh h3;have HO9:=Lh h4;have HB9:=Lh hb;clear h2 h3 h4 hb)
   )
 go_ret
 rw [HR.out]
 exact ⟨A9,n9,c9,rfl,H9.out,HN9.out,HO9.out,HB9.out⟩
set_option maxHeartbeats 4000000 in
theorem Value_4 (Av Ao Ar:Option Addr) (nv cv no co nr cr:Nat) (vs:List KVar) (o:KOp) (g n:Nat) (v:List Nat) (w:World) (hk:KVarsAt w (fun k=>k < w.heap.size) (.slice Av nv cv) vs) (hv:ValsAt w g n v) (hvk:varsK vs=true) (h1:oneK vs o=true) (hok:ValOk vs v) (hkd:o.kind=4) :
   Calls Tryz.prog 72 #[.agg #[.slice Av nv cv,.slice Ao no co,.slice Ar nr cr],.agg #[.int .i64 o.kind,.int .i64 o.d,.int .i64 o.e,.int .i64 o.a,.int .i64 o.b,.int .i64 o.c,.int .u64 o.imm],.slice (some ⟨g,0,none⟩) n n] w (Told (valK vs o v) w):=by
 have hp:=oneK_parts h1
 have hd:=part_d hp (by omega)
 have hvs:=(varsK_len hvk).2
 obtain ⟨l1,l2,l3⟩:=limb_pos hvk hd
 obtain ⟨L,hL⟩:∃ L,L=limbN vs o.d:=⟨_,rfl⟩
 rw [←hL] at l1 l2 l3
 obtain ⟨pd,hpd⟩:∃ p:Nat,o.d=p:=⟨o.d.toNat,by omega⟩
 obtain ⟨vd,hvd⟩:∃ x,vs[pd]? = some x:=⟨_,List.getElem?_eq_getElem (by omega)⟩
 have hlimb:vd.limbs=(L:Int):=by
   rw [←l3];unfold limbsF;rw [hpd,Int.toNat_natCast,List.getD_eq_getElem?_getD,hvd];rfl
 obtain ⟨hvl,hbW⟩:=vl_new (vo:=.slice Ao no co) (vr:=.slice Ar nr cr) (o:=o) hk hv
 obtain ⟨W,hW⟩:∃ W,W=(w.alloc (.cells #[.slice Av nv cv,.slice Ao no co,.slice Ar nr cr] 25)).alloc (.cells (kopRow o).toArray 43):=⟨_,rfl⟩
 rw [←hW] at hvl hbW
 have HW:=Lh (show W=(w.alloc (.cells #[.slice Av nv cv,.slice Ao no co,.slice Ar nr cr] 25)).alloc (.cells #[.int .i64 o.kind,.int .i64 o.d,.int .i64 o.e,.int .i64 o.a,.int .i64 o.b,.int .i64 o.c,.int .u64 o.imm] 43) from hW)
 have HB:=Lh hbW
 have HVL:=Lh hvl
 have hnv:=(rows_len hvl.vars).1
 have hng:=hvl.vals.len
 have hvlen:=hok.len
 obtain ⟨bv,ov,hAv,hbv,v0,_⟩:=KVarsAt.at_ hvl.vars hvd
 rw [hlimb] at v0
 have c0:=hvl.c0
 have o0:=hvl.o0
 have o1:=hvl.o1
 have o3:=hvl.o3
 have o4:=hvl.o4
 have o5:=hvl.o5
 have o6:=hvl.o6
 rw [hkd] at o0
 rw [hpd] at o1
 rw [hAv] at c0
 have i1:(0:Int)≤(pd:Int):=by omega
 have i2:(pd:Int) < (nv:Int):=by omega
 have i3:IntKind.i64.wrap (pd:Int)=pd:=by rw [IntKind.wrap_i64];omega
 have H2:=Lh l2
 have hxa:=hp.a (.inl (by omega))
 obtain ⟨pa,hpa⟩:∃ p:Nat,o.a=p:=⟨o.a.toNat,by omega⟩
 obtain ⟨xa,hxxa⟩:∃ y,v[pa]? = some y:=⟨_,List.getElem?_eq_getElem (by omega)⟩
 obtain ⟨Aa,na,ca,ya,_,hnuma⟩:=hvl.vals.get hxxa
 have ea:argK v o.a=xa:=by rw [argK_pos hxa.1,hpa];exact getV_get hxxa
 rw [hpa] at o3
 have HNa:=Lh hnuma
 have j1a:decide ((pa:Int) ≥ 0)=true:=decide_eq_true (by omega)
 have j2a:decide ((0:Int)≤(pa:Int))=true:=decide_eq_true (by omega)
 have j3a:(0:Int)≤(pa:Int):=by omega
 have j4a:(pa:Int) < (n:Int):=by omega
 have j5a:IntKind.i64.wrap (pa:Int)=pa:=by rw [IntKind.wrap_i64];omega
 have hxb:=hp.b (.inl (by omega))
 obtain ⟨pb,hpb⟩:∃ p:Nat,o.b=p:=⟨o.b.toNat,by omega⟩
 obtain ⟨xb,hxxb⟩:∃ y,v[pb]? = some y:=⟨_,List.getElem?_eq_getElem (by omega)⟩
 obtain ⟨Ab,nb,cb,yb,_,hnumb⟩:=hvl.vals.get hxxb
 have eb:argK v o.b=xb:=by rw [argK_pos hxb.1,hpb];exact getV_get hxxb
 rw [hpb] at o4
 have HNb:=Lh hnumb
 have j1b:decide ((pb:Int) ≥ 0)=true:=decide_eq_true (by omega)
 have j2b:decide ((0:Int)≤(pb:Int))=true:=decide_eq_true (by omega)
 have j3b:(0:Int)≤(pb:Int):=by omega
 have j4b:(pb:Int) < (n:Int):=by omega
 have j5b:IntKind.i64.wrap (pb:Int)=pb:=by rw [IntKind.wrap_i64];omega
 have hxc:o.c = -1:=by
   have h:=h1
   unfold oneK partsK at h
   rw [if_neg (by omega)] at h
   simp only [Bool.and_eq_true] at h
   have h2:=part_yes h.2.2.2.1.2.2.2.2
   rw [show kHasC o.kind=false by rw [hkd];rfl] at h2
   rw [if_neg (by simp)] at h2
   exact h2
 rw [hxc] at o5
 have HR:=Lh (show valK vs o v=((xa % LB ^ L+LB ^ L - xb % LB ^ L)) % LB ^ L by
   unfold valK rawK
   simp only [ea,eb]
   rw [←hL,hkd]
   rfl)
 have HLX:=Lh (show (limbsOf (xa % LB ^ L)).length≤600∧xb % LB ^ L≤xa % LB ^ L+LB ^ L from ⟨Nat.le_trans (hnuma.num.len (Nat.mod_le _ _)) hnuma.le,Nat.le_trans (Nat.le_of_lt (Nat.mod_lt xb (pow_pos_LB L))) (Nat.le_add_left _ _)⟩)
 obtain ⟨P,hP⟩:∃ P,P=LB ^ L:=⟨_,rfl⟩
 have HLA:=Lh (fun (w_:World) (h_:Below W.heap.size W w_)=>(by have:=tLow (hnuma.num.next h_) L (by omega);rw [←hP] at this;exact this:Calls Tryz.prog 97 #[.slice Aa na ca,.int .i64 L] w_ (Told (xa % P) w_)))
 have HLB:=Lh (fun (w_:World) (h_:Below W.heap.size W w_)=>(by have:=tLow (hnumb.num.next h_) L (by omega);rw [←hP] at this;exact this:Calls Tryz.prog 97 #[.slice Ab nb cb,.int .i64 L] w_ (Told (xb % P) w_)))
 have HRX:=Lh (fun (w_:World)=>(by have:=radix_any L (by omega) w_;rw [←hP] at this;exact this:Calls Tryz.prog 98 #[.int .i64 L] w_ fun e w'=>∃ A n c,e=.returned (.slice A n c)∧NumAt w' A n c P∧n≤600∧Below w_.heap.size w_ w'))
 rw [←hP] at HR HLX
 have HPP:=Lh hP
 clear hP
 clear hp hd hvs l1 l3 hvd hlimb hvl hbW hW hnv hng hvlen hbv hk hv hvk h1 hok hkd hpd hL hpa hxa hxxa hnuma ea hpb hxb hxxb hnumb eb hxc
 subst hAv
 go_enter Tryz.func72,Tryz.ntmps72
 go_upto_region 1 with go_in
 rw [←HW.out]
 clear HW
 go_upto_region 39 with (first
   | ((with_reducible refine (HLA.out _ (Below.refl _ _)).mono ?_);rintro e_ w5 ⟨A5,n5,c5,rfl,h1_,hn_,h3_,hb_⟩;have H5:=Lh h1_;have HN5:=Lh hn_;have HB5:=Lh hb_;clear h1_ hn_ h3_ hb_)
   | ((with_reducible refine (HRX.out _).mono ?_);rintro e_ w6 ⟨A6,n6,c6,rfl,h1_,hn_,hb_⟩;have H6:=Lh h1_;have HN6:=Lh hn_;have HB6:=Lh hb_;have HB56:=Lh (HB5.out.trans (hb_.mono HB5.out.size));clear h1_ hn_ hb_)
   | ((with_reducible refine (tAdd (H5.out.next HB6.out) H6.out (by rw [HN5.out];have:=HLX.out;omega) (by have:=HN6.out;omega)).mono ?_);rintro e_ w7 ⟨A7,n7,c7,rfl,h1_,hn_,h3_,hb_⟩;have H7:=Lh h1_;have HB7:=Lh (HB56.out.trans (hb_.mono HB56.out.size));clear h1_ hn_ h3_ hb_)
   | ((with_reducible refine (HLB.out _ HB7.out).mono ?_);rintro e_ w8 ⟨A8,n8,c8,rfl,h1_,hn_,h3_,hb_⟩;have H8:=Lh h1_;have HB8r:=Lh hb_;have HB8:=Lh (HB7.out.trans (hb_.mono HB7.out.size));clear h1_ hn_ h3_ hb_)
   | ((with_reducible refine (tSub (H7.out.next HB8r.out) H8.out HLX.out.2).mono ?_);rintro e_ w10 ⟨A10,n10,c10,rfl,h1_,hn_,h3_,hb_⟩;have H10:=Lh h1_;have HB10:=Lh (HB.out.trans ((HB8.out.trans (hb_.mono HB8.out.size)).mono HB.out.size));clear h1_ hn_ h3_ hb_)
   | go_in)
 go_wp2_with (first
   | ((with_reducible refine (tLow H10.out L (by have:=H2.out;omega)).mono ?_);rintro e_ w9 h_;obtain ⟨A9,n9,c9,h1_,h2,h3,h4,hb⟩:=h_.from HB10.out;cases h1_;have H9:=Lh h2;have HN9:=Lh h3;have HO9:=Lh h4;have HB9:=Lh hb;clear h2 h3 h4 hb)
   )
 go_ret
 rw [HR.out,HPP.out]
 have h9:=H9.out
 have hn9:=HN9.out
 have ho9:=HO9.out
 rw [HPP.out] at h9 hn9 ho9
 exact ⟨A9,n9,c9,rfl,h9,hn9,ho9,HB9.out⟩
set_option maxHeartbeats 4000000 in
theorem Value_7 (Av Ao Ar:Option Addr) (nv cv no co nr cr:Nat) (vs:List KVar) (o:KOp) (g n:Nat) (v:List Nat) (w:World) (hk:KVarsAt w (fun k=>k < w.heap.size) (.slice Av nv cv) vs) (hv:ValsAt w g n v) (hvk:varsK vs=true) (h1:oneK vs o=true) (hok:ValOk vs v) (hkd:o.kind=7) :
   Calls Tryz.prog 72 #[.agg #[.slice Av nv cv,.slice Ao no co,.slice Ar nr cr],.agg #[.int .i64 o.kind,.int .i64 o.d,.int .i64 o.e,.int .i64 o.a,.int .i64 o.b,.int .i64 o.c,.int .u64 o.imm],.slice (some ⟨g,0,none⟩) n n] w (Told (valK vs o v) w):=by
 have hp:=oneK_parts h1
 have hd:=part_d hp (by omega)
 have hvs:=(varsK_len hvk).2
 obtain ⟨l1,l2,l3⟩:=limb_pos hvk hd
 obtain ⟨L,hL⟩:∃ L,L=limbN vs o.d:=⟨_,rfl⟩
 rw [←hL] at l1 l2 l3
 obtain ⟨pd,hpd⟩:∃ p:Nat,o.d=p:=⟨o.d.toNat,by omega⟩
 obtain ⟨vd,hvd⟩:∃ x,vs[pd]? = some x:=⟨_,List.getElem?_eq_getElem (by omega)⟩
 have hlimb:vd.limbs=(L:Int):=by
   rw [←l3];unfold limbsF;rw [hpd,Int.toNat_natCast,List.getD_eq_getElem?_getD,hvd];rfl
 obtain ⟨hvl,hbW⟩:=vl_new (vo:=.slice Ao no co) (vr:=.slice Ar nr cr) (o:=o) hk hv
 obtain ⟨W,hW⟩:∃ W,W=(w.alloc (.cells #[.slice Av nv cv,.slice Ao no co,.slice Ar nr cr] 25)).alloc (.cells (kopRow o).toArray 43):=⟨_,rfl⟩
 rw [←hW] at hvl hbW
 have HW:=Lh (show W=(w.alloc (.cells #[.slice Av nv cv,.slice Ao no co,.slice Ar nr cr] 25)).alloc (.cells #[.int .i64 o.kind,.int .i64 o.d,.int .i64 o.e,.int .i64 o.a,.int .i64 o.b,.int .i64 o.c,.int .u64 o.imm] 43) from hW)
 have HB:=Lh hbW
 have HVL:=Lh hvl
 have hnv:=(rows_len hvl.vars).1
 have hng:=hvl.vals.len
 have hvlen:=hok.len
 obtain ⟨bv,ov,hAv,hbv,v0,_⟩:=KVarsAt.at_ hvl.vars hvd
 rw [hlimb] at v0
 have c0:=hvl.c0
 have o0:=hvl.o0
 have o1:=hvl.o1
 have o3:=hvl.o3
 have o4:=hvl.o4
 have o5:=hvl.o5
 have o6:=hvl.o6
 rw [hkd] at o0
 rw [hpd] at o1
 rw [hAv] at c0
 have i1:(0:Int)≤(pd:Int):=by omega
 have i2:(pd:Int) < (nv:Int):=by omega
 have i3:IntKind.i64.wrap (pd:Int)=pd:=by rw [IntKind.wrap_i64];omega
 have H2:=Lh l2
 have hxa:=hp.a (.inl (by omega))
 obtain ⟨pa,hpa⟩:∃ p:Nat,o.a=p:=⟨o.a.toNat,by omega⟩
 obtain ⟨xa,hxxa⟩:∃ y,v[pa]? = some y:=⟨_,List.getElem?_eq_getElem (by omega)⟩
 obtain ⟨Aa,na,ca,ya,_,hnuma⟩:=hvl.vals.get hxxa
 have ea:argK v o.a=xa:=by rw [argK_pos hxa.1,hpa];exact getV_get hxxa
 rw [hpa] at o3
 have HNa:=Lh hnuma
 have j1a:decide ((pa:Int) ≥ 0)=true:=decide_eq_true (by omega)
 have j2a:decide ((0:Int)≤(pa:Int))=true:=decide_eq_true (by omega)
 have j3a:(0:Int)≤(pa:Int):=by omega
 have j4a:(pa:Int) < (n:Int):=by omega
 have j5a:IntKind.i64.wrap (pa:Int)=pa:=by rw [IntKind.wrap_i64];omega
 have hxb:=hp.b (.inl (by omega))
 obtain ⟨pb,hpb⟩:∃ p:Nat,o.b=p:=⟨o.b.toNat,by omega⟩
 obtain ⟨xb,hxxb⟩:∃ y,v[pb]? = some y:=⟨_,List.getElem?_eq_getElem (by omega)⟩
 obtain ⟨Ab,nb,cb,yb,_,hnumb⟩:=hvl.vals.get hxxb
 have eb:argK v o.b=xb:=by rw [argK_pos hxb.1,hpb];exact getV_get hxxb
 rw [hpb] at o4
 have HNb:=Lh hnumb
 have j1b:decide ((pb:Int) ≥ 0)=true:=decide_eq_true (by omega)
 have j2b:decide ((0:Int)≤(pb:Int))=true:=decide_eq_true (by omega)
 have j3b:(0:Int)≤(pb:Int):=by omega
 have j4b:(pb:Int) < (n:Int):=by omega
 have j5b:IntKind.i64.wrap (pb:Int)=pb:=by rw [IntKind.wrap_i64];omega
 have hxc:o.c = -1:=by
   have h:=h1
   unfold oneK partsK at h
   rw [if_neg (by omega)] at h
   simp only [Bool.and_eq_true] at h
   have h2:=part_yes h.2.2.2.1.2.2.2.2
   rw [show kHasC o.kind=false by rw [hkd];rfl] at h2
   rw [if_neg (by simp)] at h2
   exact h2
 rw [hxc] at o5
 have HR:=Lh (show valK vs o v=(if xa < xb then 1 else 0) % LB ^ L by
   unfold valK rawK
   simp only [ea,eb]
   rw [←hL,hkd]
   rfl)
 have HCM:=Lh (tCompare hnuma.num hnumb.num)
 obtain ⟨q,hq⟩:∃ q,q=cmpN xa xb:=⟨_,rfl⟩
 rw [←hq] at HCM
 have HQ:=Lh hq
 have HNL:=Lh (NumF.nil W g)
 clear hq
 have HLW:=Lh (show Calls Tryz.prog 97 #[.slice (some ⟨W.heap.size,0,none⟩) 1 1,.int .i64 L] (W.alloc (.cells #[.int .u64 1] 41)) (Told (1 % LB ^ L) (W.alloc (.cells #[.int .u64 1] 41))) from tLow (NumAt.lit (w:=W) (t:=1) (by decide)) L (by have:=H2.out;omega))
 clear hp hd hvs l1 l3 hvd hlimb hvl hbW hW hnv hng hvlen hbv hk hv hvk h1 hok hkd hpd hL hpa hxa hxxa hnuma ea hpb hxb hxxb hnumb eb hxc
 subst hAv
 go_enter Tryz.func72,Tryz.ntmps72
 go_upto_region 1 with go_in
 rw [←HW.out]
 clear HW
 by_cases hlt:xa < xb
 · have dq:decide (q < (0:Int))=true:=decide_eq_true (by rw [HQ.out];unfold cmpN;rw [if_pos hlt];decide)
   have HR2:=Lh (show valK vs o v=1 % LB ^ L by rw [HR.out,if_pos hlt])
   clear hlt
   go_wp2_with (first
     | ((with_reducible refine HCM.out.mono ?_);rintro e_ w5 ⟨rfl,hw5⟩;subst hw5)
     | ((with_reducible refine HLW.out.mono ?_);rintro e_ w9 h_;obtain ⟨A9,n9,c9,h1_,h2,h3,h4,hb⟩:=h_.from (HB.out.alloc HB.out.size _);cases h1_;have H9:=Lh h2;have HN9:=Lh h3;have HO9:=Lh h4;have HB9:=Lh hb;clear h2 h3 h4 hb)
     )
   go_ret
   rw [HR2.out]
   exact ⟨A9,n9,c9,rfl,H9.out,HN9.out,HO9.out,HB9.out⟩
 · have dq:decide (q < (0:Int))=false:=decide_eq_false (by rw [HQ.out];unfold cmpN;rw [if_neg hlt];split <;> decide)
   have HR2:=Lh (show valK vs o v=0 % LB ^ L by rw [HR.out,if_neg hlt])
   clear hlt
   go_wp2_with (first
     | ((with_reducible refine HCM.out.mono ?_);rintro e_ w5 ⟨rfl,hw5⟩;subst hw5)
     | ((with_reducible refine (tLow HNL.out.num L (by have:=H2.out;omega)).mono ?_);rintro e_ w9 h_;obtain ⟨A9,n9,c9,h1_,h2,h3,h4,hb⟩:=h_.from HB.out;cases h1_;have H9:=Lh h2;have HN9:=Lh h3;have HO9:=Lh h4;have HB9:=Lh hb;clear h2 h3 h4 hb)
     )
   go_ret
   rw [HR2.out]
   exact ⟨A9,n9,c9,rfl,H9.out,HN9.out,HO9.out,HB9.out⟩
set_option maxHeartbeats 4000000 in
theorem Value_8 (Av Ao Ar:Option Addr) (nv cv no co nr cr:Nat) (vs:List KVar) (o:KOp) (g n:Nat) (v:List Nat) (w:World) (hk:KVarsAt w (fun k=>k < w.heap.size) (.slice Av nv cv) vs) (hv:ValsAt w g n v) (hvk:varsK vs=true) (h1:oneK vs o=true) (hok:ValOk vs v) (hkd:o.kind=8) :
   Calls Tryz.prog 72 #[.agg #[.slice Av nv cv,.slice Ao no co,.slice Ar nr cr],.agg #[.int .i64 o.kind,.int .i64 o.d,.int .i64 o.e,.int .i64 o.a,.int .i64 o.b,.int .i64 o.c,.int .u64 o.imm],.slice (some ⟨g,0,none⟩) n n] w (Told (valK vs o v) w):=by
 have hp:=oneK_parts h1
 have hd:=part_d hp (by omega)
 have hvs:=(varsK_len hvk).2
 obtain ⟨l1,l2,l3⟩:=limb_pos hvk hd
 obtain ⟨L,hL⟩:∃ L,L=limbN vs o.d:=⟨_,rfl⟩
 rw [←hL] at l1 l2 l3
 obtain ⟨pd,hpd⟩:∃ p:Nat,o.d=p:=⟨o.d.toNat,by omega⟩
 obtain ⟨vd,hvd⟩:∃ x,vs[pd]? = some x:=⟨_,List.getElem?_eq_getElem (by omega)⟩
 have hlimb:vd.limbs=(L:Int):=by
   rw [←l3];unfold limbsF;rw [hpd,Int.toNat_natCast,List.getD_eq_getElem?_getD,hvd];rfl
 obtain ⟨hvl,hbW⟩:=vl_new (vo:=.slice Ao no co) (vr:=.slice Ar nr cr) (o:=o) hk hv
 obtain ⟨W,hW⟩:∃ W,W=(w.alloc (.cells #[.slice Av nv cv,.slice Ao no co,.slice Ar nr cr] 25)).alloc (.cells (kopRow o).toArray 43):=⟨_,rfl⟩
 rw [←hW] at hvl hbW
 have HW:=Lh (show W=(w.alloc (.cells #[.slice Av nv cv,.slice Ao no co,.slice Ar nr cr] 25)).alloc (.cells #[.int .i64 o.kind,.int .i64 o.d,.int .i64 o.e,.int .i64 o.a,.int .i64 o.b,.int .i64 o.c,.int .u64 o.imm] 43) from hW)
 have HB:=Lh hbW
 have HVL:=Lh hvl
 have hnv:=(rows_len hvl.vars).1
 have hng:=hvl.vals.len
 have hvlen:=hok.len
 obtain ⟨bv,ov,hAv,hbv,v0,_⟩:=KVarsAt.at_ hvl.vars hvd
 rw [hlimb] at v0
 have c0:=hvl.c0
 have o0:=hvl.o0
 have o1:=hvl.o1
 have o3:=hvl.o3
 have o4:=hvl.o4
 have o5:=hvl.o5
 have o6:=hvl.o6
 rw [hkd] at o0
 rw [hpd] at o1
 rw [hAv] at c0
 have i1:(0:Int)≤(pd:Int):=by omega
 have i2:(pd:Int) < (nv:Int):=by omega
 have i3:IntKind.i64.wrap (pd:Int)=pd:=by rw [IntKind.wrap_i64];omega
 have H2:=Lh l2
 have hxa:=hp.a (.inl (by omega))
 obtain ⟨pa,hpa⟩:∃ p:Nat,o.a=p:=⟨o.a.toNat,by omega⟩
 obtain ⟨xa,hxxa⟩:∃ y,v[pa]? = some y:=⟨_,List.getElem?_eq_getElem (by omega)⟩
 obtain ⟨Aa,na,ca,ya,_,hnuma⟩:=hvl.vals.get hxxa
 have ea:argK v o.a=xa:=by rw [argK_pos hxa.1,hpa];exact getV_get hxxa
 rw [hpa] at o3
 have HNa:=Lh hnuma
 have j1a:decide ((pa:Int) ≥ 0)=true:=decide_eq_true (by omega)
 have j2a:decide ((0:Int)≤(pa:Int))=true:=decide_eq_true (by omega)
 have j3a:(0:Int)≤(pa:Int):=by omega
 have j4a:(pa:Int) < (n:Int):=by omega
 have j5a:IntKind.i64.wrap (pa:Int)=pa:=by rw [IntKind.wrap_i64];omega
 have hxb:=hp.b (.inl (by omega))
 obtain ⟨pb,hpb⟩:∃ p:Nat,o.b=p:=⟨o.b.toNat,by omega⟩
 obtain ⟨xb,hxxb⟩:∃ y,v[pb]? = some y:=⟨_,List.getElem?_eq_getElem (by omega)⟩
 obtain ⟨Ab,nb,cb,yb,_,hnumb⟩:=hvl.vals.get hxxb
 have eb:argK v o.b=xb:=by rw [argK_pos hxb.1,hpb];exact getV_get hxxb
 rw [hpb] at o4
 have HNb:=Lh hnumb
 have j1b:decide ((pb:Int) ≥ 0)=true:=decide_eq_true (by omega)
 have j2b:decide ((0:Int)≤(pb:Int))=true:=decide_eq_true (by omega)
 have j3b:(0:Int)≤(pb:Int):=by omega
 have j4b:(pb:Int) < (n:Int):=by omega
 have j5b:IntKind.i64.wrap (pb:Int)=pb:=by rw [IntKind.wrap_i64];omega
 have hxc:=hp.c (by omega)
 obtain ⟨pc,hpc⟩:∃ p:Nat,o.c=p:=⟨o.c.toNat,by omega⟩
 obtain ⟨xc,hxxc⟩:∃ y,v[pc]? = some y:=⟨_,List.getElem?_eq_getElem (by omega)⟩
 obtain ⟨Ac,nc,cc,yc,_,hnumc⟩:=hvl.vals.get hxxc
 have ec:argK v o.c=xc:=by rw [argK_pos hxc.1,hpc];exact getV_get hxxc
 rw [hpc] at o5
 have HNc:=Lh hnumc
 have j1c:decide ((pc:Int) ≥ 0)=true:=decide_eq_true (by omega)
 have j2c:decide ((0:Int)≤(pc:Int))=true:=decide_eq_true (by omega)
 have j3c:(0:Int)≤(pc:Int):=by omega
 have j4c:(pc:Int) < (n:Int):=by omega
 have j5c:IntKind.i64.wrap (pc:Int)=pc:=by rw [IntKind.wrap_i64];omega
 have HR:=Lh (show valK vs o v=(if xc % 2=1 then xa else xb) % LB ^ L by
   unfold valK rawK
   simp only [ea,eb,ec]
   rw [←hL,hkd]
   rfl)
 clear hp hd hvs l1 l3 hvd hlimb hvl hbW hW hnv hng hvlen hbv hk hv hvk h1 hok hkd hpd hL hpa hxa hxxa hnuma ea hpb hxb hxxb hnumb eb hpc hxc hxxc hnumc ec
 subst hAv
 go_enter Tryz.func72,Tryz.ntmps72
 go_upto_region 1 with go_in
 rw [←HW.out]
 clear HW
 by_cases hlt:xc % 2=1
 · have HBT:=Lh (show Calls Tryz.prog 71 #[.slice Ac nc cc,.int .i64 0] W fun e w'=>e=.returned (.bool true)∧W=w' from by
     have h:=tBit HNc.out.num 0 (by decide)
     rw [show xc.testBit 0=true by rw [Nat.testBit_zero];exact decide_eq_true hlt] at h
     exact h)
   have HR2:=Lh (show valK vs o v=xa % LB ^ L by rw [HR.out,if_pos hlt])
   clear hlt
   go_wp2_with (first
     | ((with_reducible refine HBT.out.mono ?_);rintro e_ w5 ⟨rfl,hw5⟩;subst hw5)
     | ((with_reducible refine (tLow HNa.out.num L (by have:=H2.out;omega)).mono ?_);rintro e_ w9 h_;obtain ⟨A9,n9,c9,h1_,h2,h3,h4,hb⟩:=h_.from HB.out;cases h1_;have H9:=Lh h2;have HN9:=Lh h3;have HO9:=Lh h4;have HB9:=Lh hb;clear h2 h3 h4 hb)
     )
   go_ret
   rw [HR2.out]
   exact ⟨A9,n9,c9,rfl,H9.out,HN9.out,HO9.out,HB9.out⟩
 · have HBT:=Lh (show Calls Tryz.prog 71 #[.slice Ac nc cc,.int .i64 0] W fun e w'=>e=.returned (.bool false)∧W=w' from by
     have h:=tBit HNc.out.num 0 (by decide)
     rw [show xc.testBit 0=false by rw [Nat.testBit_zero];exact decide_eq_false hlt] at h
     exact h)
   have HR2:=Lh (show valK vs o v=xb % LB ^ L by rw [HR.out,if_neg hlt])
   clear hlt
   go_wp2_with (first
     | ((with_reducible refine HBT.out.mono ?_);rintro e_ w5 ⟨rfl,hw5⟩;subst hw5)
     | ((with_reducible refine (tLow HNb.out.num L (by have:=H2.out;omega)).mono ?_);rintro e_ w9 h_;obtain ⟨A9,n9,c9,h1_,h2,h3,h4,hb⟩:=h_.from HB.out;cases h1_;have H9:=Lh h2;have HN9:=Lh h3;have HO9:=Lh h4;have HB9:=Lh hb;clear h2 h3 h4 hb)
     )
   go_ret
   rw [HR2.out]
   exact ⟨A9,n9,c9,rfl,H9.out,HN9.out,HO9.out,HB9.out⟩
set_option maxHeartbeats 4000000 in
theorem Value_9 (Av Ao Ar:Option Addr) (nv cv no co nr cr:Nat) (vs:List KVar) (o:KOp) (g n:Nat) (v:List Nat) (w:World) (hk:KVarsAt w (fun k=>k < w.heap.size) (.slice Av nv cv) vs) (hv:ValsAt w g n v) (hvk:varsK vs=true) (h1:oneK vs o=true) (hok:ValOk vs v) (hkd:o.kind=9) (hneed:∀ f∈needsF o,holdsF v f=true) :
   Calls Tryz.prog 72 #[.agg #[.slice Av nv cv,.slice Ao no co,.slice Ar nr cr],.agg #[.int .i64 o.kind,.int .i64 o.d,.int .i64 o.e,.int .i64 o.a,.int .i64 o.b,.int .i64 o.c,.int .u64 o.imm],.slice (some ⟨g,0,none⟩) n n] w (Told (valK vs o v) w):=by
 have hp:=oneK_parts h1
 have hd:=part_d hp (by omega)
 have hvs:=(varsK_len hvk).2
 obtain ⟨l1,l2,l3⟩:=limb_pos hvk hd
 obtain ⟨L,hL⟩:∃ L,L=limbN vs o.d:=⟨_,rfl⟩
 rw [←hL] at l1 l2 l3
 obtain ⟨pd,hpd⟩:∃ p:Nat,o.d=p:=⟨o.d.toNat,by omega⟩
 obtain ⟨vd,hvd⟩:∃ x,vs[pd]? = some x:=⟨_,List.getElem?_eq_getElem (by omega)⟩
 have hlimb:vd.limbs=(L:Int):=by
   rw [←l3];unfold limbsF;rw [hpd,Int.toNat_natCast,List.getD_eq_getElem?_getD,hvd];rfl
 obtain ⟨hvl,hbW⟩:=vl_new (vo:=.slice Ao no co) (vr:=.slice Ar nr cr) (o:=o) hk hv
 obtain ⟨W,hW⟩:∃ W,W=(w.alloc (.cells #[.slice Av nv cv,.slice Ao no co,.slice Ar nr cr] 25)).alloc (.cells (kopRow o).toArray 43):=⟨_,rfl⟩
 rw [←hW] at hvl hbW
 have HW:=Lh (show W=(w.alloc (.cells #[.slice Av nv cv,.slice Ao no co,.slice Ar nr cr] 25)).alloc (.cells #[.int .i64 o.kind,.int .i64 o.d,.int .i64 o.e,.int .i64 o.a,.int .i64 o.b,.int .i64 o.c,.int .u64 o.imm] 43) from hW)
 have HB:=Lh hbW
 have HVL:=Lh hvl
 have hnv:=(rows_len hvl.vars).1
 have hng:=hvl.vals.len
 have hvlen:=hok.len
 obtain ⟨bv,ov,hAv,hbv,v0,_⟩:=KVarsAt.at_ hvl.vars hvd
 rw [hlimb] at v0
 have c0:=hvl.c0
 have o0:=hvl.o0
 have o1:=hvl.o1
 have o3:=hvl.o3
 have o4:=hvl.o4
 have o5:=hvl.o5
 have o6:=hvl.o6
 rw [hkd] at o0
 rw [hpd] at o1
 rw [hAv] at c0
 have i1:(0:Int)≤(pd:Int):=by omega
 have i2:(pd:Int) < (nv:Int):=by omega
 have i3:IntKind.i64.wrap (pd:Int)=pd:=by rw [IntKind.wrap_i64];omega
 have H2:=Lh l2
 have hxa:=hp.a (.inl (by omega))
 obtain ⟨pa,hpa⟩:∃ p:Nat,o.a=p:=⟨o.a.toNat,by omega⟩
 obtain ⟨xa,hxxa⟩:∃ y,v[pa]? = some y:=⟨_,List.getElem?_eq_getElem (by omega)⟩
 obtain ⟨Aa,na,ca,ya,_,hnuma⟩:=hvl.vals.get hxxa
 have ea:argK v o.a=xa:=by rw [argK_pos hxa.1,hpa];exact getV_get hxxa
 rw [hpa] at o3
 have HNa:=Lh hnuma
 have j1a:decide ((pa:Int) ≥ 0)=true:=decide_eq_true (by omega)
 have j2a:decide ((0:Int)≤(pa:Int))=true:=decide_eq_true (by omega)
 have j3a:(0:Int)≤(pa:Int):=by omega
 have j4a:(pa:Int) < (n:Int):=by omega
 have j5a:IntKind.i64.wrap (pa:Int)=pa:=by rw [IntKind.wrap_i64];omega
 have hxb:o.b = -1:=by
   have h:=h1
   unfold oneK partsK at h
   rw [if_neg (by omega)] at h
   simp only [Bool.and_eq_true] at h
   have h2:=part_yes h.2.2.2.1.2.2.2.1
   rw [show kHasB o.kind=false by rw [hkd];rfl] at h2
   rw [if_neg (by simp)] at h2
   exact h2
 rw [hxb] at o4
 have hxc:=hp.c (by omega)
 obtain ⟨pc,hpc⟩:∃ p:Nat,o.c=p:=⟨o.c.toNat,by omega⟩
 obtain ⟨xc,hxxc⟩:∃ y,v[pc]? = some y:=⟨_,List.getElem?_eq_getElem (by omega)⟩
 obtain ⟨Ac,nc,cc,yc,_,hnumc⟩:=hvl.vals.get hxxc
 have ec:argK v o.c=xc:=by rw [argK_pos hxc.1,hpc];exact getV_get hxxc
 rw [hpc] at o5
 have HNc:=Lh hnumc
 have j1c:decide ((pc:Int) ≥ 0)=true:=decide_eq_true (by omega)
 have j2c:decide ((0:Int)≤(pc:Int))=true:=decide_eq_true (by omega)
 have j3c:(0:Int)≤(pc:Int):=by omega
 have j4c:(pc:Int) < (n:Int):=by omega
 have j5c:IntKind.i64.wrap (pc:Int)=pc:=by rw [IntKind.wrap_i64];omega
 have HR:=Lh (show valK vs o v=(xa % xc) % LB ^ L by
   unfold valK rawK
   simp only [ea,ec]
   rw [←hL,hkd]
   rfl)
 have HC0:=Lh (show xc≠0 from by
   have:=need_holds hneed (by omega) (by omega)
   rw [hpc,getV_get hxxc] at this
   omega)
 clear hp hd hvs l1 l3 hvd hlimb hvl hbW hW hnv hng hvlen hbv hk hv hvk h1 hok hkd hpd hL hpa hxa hxxa hnuma ea hxb hpc hxc hxxc hnumc ec hneed
 subst hAv
 go_enter Tryz.func72,Tryz.ntmps72
 go_upto_region 1 with go_in
 rw [←HW.out]
 clear HW
 go_wp2_with (first
   | ((with_reducible refine (tDiv HNa.out.num HNc.out.num HC0.out).mono ?_);rintro e_ w5 ⟨A4,n4,c4,A5,n5,c5,rfl,h0_,h1_,hn_,h3_,hb_,_⟩;have H5:=Lh h1_;have HB5:=Lh (HB.out.trans (hb_.mono HB.out.size));clear h0_ h1_ hn_ h3_ hb_)
   | ((with_reducible refine (tLow H5.out L (by have:=H2.out;omega)).mono ?_);rintro e_ w9 h_;obtain ⟨A9,n9,c9,h1_,h2,h3,h4,hb⟩:=h_.from HB5.out;cases h1_;have H9:=Lh h2;have HN9:=Lh h3;have HO9:=Lh h4;have HB9:=Lh hb;clear h2 h3 h4 hb)
   )
 go_ret
 rw [HR.out]
 exact ⟨A9,n9,c9,rfl,H9.out,HN9.out,HO9.out,HB9.out⟩
set_option maxHeartbeats 4000000 in
theorem Value_10 (Av Ao Ar:Option Addr) (nv cv no co nr cr:Nat) (vs:List KVar) (o:KOp) (g n:Nat) (v:List Nat) (w:World) (hk:KVarsAt w (fun k=>k < w.heap.size) (.slice Av nv cv) vs) (hv:ValsAt w g n v) (hvk:varsK vs=true) (h1:oneK vs o=true) (hok:ValOk vs v) (hkd:o.kind=10) (hneed:∀ f∈needsF o,holdsF v f=true) :
   Calls Tryz.prog 72 #[.agg #[.slice Av nv cv,.slice Ao no co,.slice Ar nr cr],.agg #[.int .i64 o.kind,.int .i64 o.d,.int .i64 o.e,.int .i64 o.a,.int .i64 o.b,.int .i64 o.c,.int .u64 o.imm],.slice (some ⟨g,0,none⟩) n n] w (Told (valK vs o v) w):=by
 have hp:=oneK_parts h1
 have hd:=part_d hp (by omega)
 have hvs:=(varsK_len hvk).2
 obtain ⟨l1,l2,l3⟩:=limb_pos hvk hd
 obtain ⟨L,hL⟩:∃ L,L=limbN vs o.d:=⟨_,rfl⟩
 rw [←hL] at l1 l2 l3
 obtain ⟨pd,hpd⟩:∃ p:Nat,o.d=p:=⟨o.d.toNat,by omega⟩
 obtain ⟨vd,hvd⟩:∃ x,vs[pd]? = some x:=⟨_,List.getElem?_eq_getElem (by omega)⟩
 have hlimb:vd.limbs=(L:Int):=by
   rw [←l3];unfold limbsF;rw [hpd,Int.toNat_natCast,List.getD_eq_getElem?_getD,hvd];rfl
 obtain ⟨hvl,hbW⟩:=vl_new (vo:=.slice Ao no co) (vr:=.slice Ar nr cr) (o:=o) hk hv
 obtain ⟨W,hW⟩:∃ W,W=(w.alloc (.cells #[.slice Av nv cv,.slice Ao no co,.slice Ar nr cr] 25)).alloc (.cells (kopRow o).toArray 43):=⟨_,rfl⟩
 rw [←hW] at hvl hbW
 have HW:=Lh (show W=(w.alloc (.cells #[.slice Av nv cv,.slice Ao no co,.slice Ar nr cr] 25)).alloc (.cells #[.int .i64 o.kind,.int .i64 o.d,.int .i64 o.e,.int .i64 o.a,.int .i64 o.b,.int .i64 o.c,.int .u64 o.imm] 43) from hW)
 have HB:=Lh hbW
 have HVL:=Lh hvl
 have hnv:=(rows_len hvl.vars).1
 have hng:=hvl.vals.len
 have hvlen:=hok.len
 obtain ⟨bv,ov,hAv,hbv,v0,_⟩:=KVarsAt.at_ hvl.vars hvd
 rw [hlimb] at v0
 have c0:=hvl.c0
 have o0:=hvl.o0
 have o1:=hvl.o1
 have o3:=hvl.o3
 have o4:=hvl.o4
 have o5:=hvl.o5
 have o6:=hvl.o6
 rw [hkd] at o0
 rw [hpd] at o1
 rw [hAv] at c0
 have i1:(0:Int)≤(pd:Int):=by omega
 have i2:(pd:Int) < (nv:Int):=by omega
 have i3:IntKind.i64.wrap (pd:Int)=pd:=by rw [IntKind.wrap_i64];omega
 have H2:=Lh l2
 have hxa:=hp.a (.inl (by omega))
 obtain ⟨pa,hpa⟩:∃ p:Nat,o.a=p:=⟨o.a.toNat,by omega⟩
 obtain ⟨xa,hxxa⟩:∃ y,v[pa]? = some y:=⟨_,List.getElem?_eq_getElem (by omega)⟩
 obtain ⟨Aa,na,ca,ya,_,hnuma⟩:=hvl.vals.get hxxa
 have ea:argK v o.a=xa:=by rw [argK_pos hxa.1,hpa];exact getV_get hxxa
 rw [hpa] at o3
 have HNa:=Lh hnuma
 have j1a:decide ((pa:Int) ≥ 0)=true:=decide_eq_true (by omega)
 have j2a:decide ((0:Int)≤(pa:Int))=true:=decide_eq_true (by omega)
 have j3a:(0:Int)≤(pa:Int):=by omega
 have j4a:(pa:Int) < (n:Int):=by omega
 have j5a:IntKind.i64.wrap (pa:Int)=pa:=by rw [IntKind.wrap_i64];omega
 have hxb:=hp.b (.inr (by omega))
 obtain ⟨pb,hpb⟩:∃ p:Nat,o.b=p:=⟨o.b.toNat,by omega⟩
 obtain ⟨xb,hxxb⟩:∃ y,v[pb]? = some y:=⟨_,List.getElem?_eq_getElem (by omega)⟩
 obtain ⟨Ab,nb,cb,yb,_,hnumb⟩:=hvl.vals.get hxxb
 have eb:argK v o.b=xb:=by rw [argK_pos hxb.1,hpb];exact getV_get hxxb
 rw [hpb] at o4
 have HNb:=Lh hnumb
 have j1b:decide ((pb:Int) ≥ 0)=true:=decide_eq_true (by omega)
 have j2b:decide ((0:Int)≤(pb:Int))=true:=decide_eq_true (by omega)
 have j3b:(0:Int)≤(pb:Int):=by omega
 have j4b:(pb:Int) < (n:Int):=by omega
 have j5b:IntKind.i64.wrap (pb:Int)=pb:=by rw [IntKind.wrap_i64];omega
 have hxc:=hp.c (by omega)
 obtain ⟨pc,hpc⟩:∃ p:Nat,o.c=p:=⟨o.c.toNat,by omega⟩
 obtain ⟨xc,hxxc⟩:∃ y,v[pc]? = some y:=⟨_,List.getElem?_eq_getElem (by omega)⟩
 obtain ⟨Ac,nc,cc,yc,_,hnumc⟩:=hvl.vals.get hxxc
 have ec:argK v o.c=xc:=by rw [argK_pos hxc.1,hpc];exact getV_get hxxc
 rw [hpc] at o5
 have HNc:=Lh hnumc
 have j1c:decide ((pc:Int) ≥ 0)=true:=decide_eq_true (by omega)
 have j2c:decide ((0:Int)≤(pc:Int))=true:=decide_eq_true (by omega)
 have j3c:(0:Int)≤(pc:Int):=by omega
 have j4c:(pc:Int) < (n:Int):=by omega
 have j5c:IntKind.i64.wrap (pc:Int)=pc:=by rw [IntKind.wrap_i64];omega
 have HR:=Lh (show valK vs o v=((xa+xb) % xc) % LB ^ L by
   unfold valK rawK
   simp only [ea,eb,ec]
   rw [←hL,hkd]
   rfl)
 have HC0:=Lh (show xc≠0 from by
   have:=need_holds hneed (by omega) (by omega)
   rw [hpc,getV_get hxxc] at this
   omega)
 clear hp hd hvs l1 l3 hvd hlimb hvl hbW hW hnv hng hvlen hbv hk hv hvk h1 hok hkd hpd hL hpa hxa hxxa hnuma ea hpb hxb hxxb hnumb eb hpc hxc hxxc hnumc ec hneed
 subst hAv
 go_enter Tryz.func72,Tryz.ntmps72
 go_upto_region 1 with go_in
 rw [←HW.out]
 clear HW
 go_wp2_with (first
   | ((with_reducible refine (tAddm HNa.out.num HNb.out.num HNc.out.num HC0.out (by have:=HNa.out.le;omega) (by have:=HNb.out.le;omega)).mono ?_);rintro e_ w5 ⟨A5,n5,c5,rfl,h1_,hn_,h3_,hb_⟩;have H5:=Lh h1_;have HN5:=Lh hn_;have HB5:=Lh (HB.out.trans (hb_.mono HB.out.size));have HB5r:=Lh hb_;clear h1_ hn_ h3_ hb_)
   | ((with_reducible refine (tLow H5.out L (by have:=H2.out;omega)).mono ?_);rintro e_ w9 h_;obtain ⟨A9,n9,c9,h1_,h2,h3,h4,hb⟩:=h_.from HB5.out;cases h1_;have H9:=Lh h2;have HN9:=Lh h3;have HO9:=Lh h4;have HB9:=Lh hb;clear h2 h3 h4 hb)
   )
 go_ret
 rw [HR.out]
 exact ⟨A9,n9,c9,rfl,H9.out,HN9.out,HO9.out,HB9.out⟩
set_option maxHeartbeats 4000000 in
theorem Value_11 (Av Ao Ar:Option Addr) (nv cv no co nr cr:Nat) (vs:List KVar) (o:KOp) (g n:Nat) (v:List Nat) (w:World) (hk:KVarsAt w (fun k=>k < w.heap.size) (.slice Av nv cv) vs) (hv:ValsAt w g n v) (hvk:varsK vs=true) (h1:oneK vs o=true) (hok:ValOk vs v) (hkd:o.kind=11) (hneed:∀ f∈needsF o,holdsF v f=true) :
   Calls Tryz.prog 72 #[.agg #[.slice Av nv cv,.slice Ao no co,.slice Ar nr cr],.agg #[.int .i64 o.kind,.int .i64 o.d,.int .i64 o.e,.int .i64 o.a,.int .i64 o.b,.int .i64 o.c,.int .u64 o.imm],.slice (some ⟨g,0,none⟩) n n] w (Told (valK vs o v) w):=by
 have hp:=oneK_parts h1
 have hd:=part_d hp (by omega)
 have hvs:=(varsK_len hvk).2
 obtain ⟨l1,l2,l3⟩:=limb_pos hvk hd
 obtain ⟨L,hL⟩:∃ L,L=limbN vs o.d:=⟨_,rfl⟩
 rw [←hL] at l1 l2 l3
 obtain ⟨pd,hpd⟩:∃ p:Nat,o.d=p:=⟨o.d.toNat,by omega⟩
 obtain ⟨vd,hvd⟩:∃ x,vs[pd]? = some x:=⟨_,List.getElem?_eq_getElem (by omega)⟩
 have hlimb:vd.limbs=(L:Int):=by
   rw [←l3];unfold limbsF;rw [hpd,Int.toNat_natCast,List.getD_eq_getElem?_getD,hvd];rfl
 obtain ⟨hvl,hbW⟩:=vl_new (vo:=.slice Ao no co) (vr:=.slice Ar nr cr) (o:=o) hk hv
 obtain ⟨W,hW⟩:∃ W,W=(w.alloc (.cells #[.slice Av nv cv,.slice Ao no co,.slice Ar nr cr] 25)).alloc (.cells (kopRow o).toArray 43):=⟨_,rfl⟩
 rw [←hW] at hvl hbW
 have HW:=Lh (show W=(w.alloc (.cells #[.slice Av nv cv,.slice Ao no co,.slice Ar nr cr] 25)).alloc (.cells #[.int .i64 o.kind,.int .i64 o.d,.int .i64 o.e,.int .i64 o.a,.int .i64 o.b,.int .i64 o.c,.int .u64 o.imm] 43) from hW)
 have HB:=Lh hbW
 have HVL:=Lh hvl
 have hnv:=(rows_len hvl.vars).1
 have hng:=hvl.vals.len
 have hvlen:=hok.len
 obtain ⟨bv,ov,hAv,hbv,v0,_⟩:=KVarsAt.at_ hvl.vars hvd
 rw [hlimb] at v0
 have c0:=hvl.c0
 have o0:=hvl.o0
 have o1:=hvl.o1
 have o3:=hvl.o3
 have o4:=hvl.o4
 have o5:=hvl.o5
 have o6:=hvl.o6
 rw [hkd] at o0
 rw [hpd] at o1
 rw [hAv] at c0
 have i1:(0:Int)≤(pd:Int):=by omega
 have i2:(pd:Int) < (nv:Int):=by omega
 have i3:IntKind.i64.wrap (pd:Int)=pd:=by rw [IntKind.wrap_i64];omega
 have H2:=Lh l2
 have hxa:=hp.a (.inl (by omega))
 obtain ⟨pa,hpa⟩:∃ p:Nat,o.a=p:=⟨o.a.toNat,by omega⟩
 obtain ⟨xa,hxxa⟩:∃ y,v[pa]? = some y:=⟨_,List.getElem?_eq_getElem (by omega)⟩
 obtain ⟨Aa,na,ca,ya,_,hnuma⟩:=hvl.vals.get hxxa
 have ea:argK v o.a=xa:=by rw [argK_pos hxa.1,hpa];exact getV_get hxxa
 rw [hpa] at o3
 have HNa:=Lh hnuma
 have j1a:decide ((pa:Int) ≥ 0)=true:=decide_eq_true (by omega)
 have j2a:decide ((0:Int)≤(pa:Int))=true:=decide_eq_true (by omega)
 have j3a:(0:Int)≤(pa:Int):=by omega
 have j4a:(pa:Int) < (n:Int):=by omega
 have j5a:IntKind.i64.wrap (pa:Int)=pa:=by rw [IntKind.wrap_i64];omega
 have hxb:=hp.b (.inr (by omega))
 obtain ⟨pb,hpb⟩:∃ p:Nat,o.b=p:=⟨o.b.toNat,by omega⟩
 obtain ⟨xb,hxxb⟩:∃ y,v[pb]? = some y:=⟨_,List.getElem?_eq_getElem (by omega)⟩
 obtain ⟨Ab,nb,cb,yb,_,hnumb⟩:=hvl.vals.get hxxb
 have eb:argK v o.b=xb:=by rw [argK_pos hxb.1,hpb];exact getV_get hxxb
 rw [hpb] at o4
 have HNb:=Lh hnumb
 have j1b:decide ((pb:Int) ≥ 0)=true:=decide_eq_true (by omega)
 have j2b:decide ((0:Int)≤(pb:Int))=true:=decide_eq_true (by omega)
 have j3b:(0:Int)≤(pb:Int):=by omega
 have j4b:(pb:Int) < (n:Int):=by omega
 have j5b:IntKind.i64.wrap (pb:Int)=pb:=by rw [IntKind.wrap_i64];omega
 have hxc:=hp.c (by omega)
 obtain ⟨pc,hpc⟩:∃ p:Nat,o.c=p:=⟨o.c.toNat,by omega⟩
 obtain ⟨xc,hxxc⟩:∃ y,v[pc]? = some y:=⟨_,List.getElem?_eq_getElem (by omega)⟩
 obtain ⟨Ac,nc,cc,yc,_,hnumc⟩:=hvl.vals.get hxxc
 have ec:argK v o.c=xc:=by rw [argK_pos hxc.1,hpc];exact getV_get hxxc
 rw [hpc] at o5
 have HNc:=Lh hnumc
 have j1c:decide ((pc:Int) ≥ 0)=true:=decide_eq_true (by omega)
 have j2c:decide ((0:Int)≤(pc:Int))=true:=decide_eq_true (by omega)
 have j3c:(0:Int)≤(pc:Int):=by omega
 have j4c:(pc:Int) < (n:Int):=by omega
 have j5c:IntKind.i64.wrap (pc:Int)=pc:=by rw [IntKind.wrap_i64];omega
 have HR:=Lh (show valK vs o v=((xa % xc+xc - xb % xc) % xc) % LB ^ L by
   unfold valK rawK
   simp only [ea,eb,ec]
   rw [←hL,hkd]
   rfl)
 have HC0:=Lh (show xc≠0 from by
   have:=need_holds hneed (by omega) (by omega)
   rw [hpc,getV_get hxxc] at this
   omega)
 clear hp hd hvs l1 l3 hvd hlimb hvl hbW hW hnv hng hvlen hbv hk hv hvk h1 hok hkd hpd hL hpa hxa hxxa hnuma ea hpb hxb hxxb hnumb eb hpc hxc hxxc hnumc ec hneed
 subst hAv
 go_enter Tryz.func72,Tryz.ntmps72
 go_upto_region 1 with go_in
 rw [←HW.out]
 clear HW
 go_wp2_with (first
   | ((with_reducible refine (tSubm HNa.out.num HNb.out.num HNc.out.num HC0.out (by have:=HNa.out.le;omega) (by have:=HNc.out.le;omega)).mono ?_);rintro e_ w5 ⟨A5,n5,c5,rfl,h1_,hn_,h3_,hb_⟩;have H5:=Lh h1_;have HN5:=Lh hn_;have HB5:=Lh (HB.out.trans (hb_.mono HB.out.size));have HB5r:=Lh hb_;clear h1_ hn_ h3_ hb_)
   | ((with_reducible refine (tLow H5.out L (by have:=H2.out;omega)).mono ?_);rintro e_ w9 h_;obtain ⟨A9,n9,c9,h1_,h2,h3,h4,hb⟩:=h_.from HB5.out;cases h1_;have H9:=Lh h2;have HN9:=Lh h3;have HO9:=Lh h4;have HB9:=Lh hb;clear h2 h3 h4 hb)
   )
 go_ret
 rw [HR.out]
 exact ⟨A9,n9,c9,rfl,H9.out,HN9.out,HO9.out,HB9.out⟩
set_option maxHeartbeats 4000000 in
theorem Value_13 (Av Ao Ar:Option Addr) (nv cv no co nr cr:Nat) (vs:List KVar) (o:KOp) (g n:Nat) (v:List Nat) (w:World) (hk:KVarsAt w (fun k=>k < w.heap.size) (.slice Av nv cv) vs) (hv:ValsAt w g n v) (hvk:varsK vs=true) (h1:oneK vs o=true) (hok:ValOk vs v) (hkd:o.kind=13) (hneed:∀ f∈needsF o,holdsF v f=true) :
   Calls Tryz.prog 72 #[.agg #[.slice Av nv cv,.slice Ao no co,.slice Ar nr cr],.agg #[.int .i64 o.kind,.int .i64 o.d,.int .i64 o.e,.int .i64 o.a,.int .i64 o.b,.int .i64 o.c,.int .u64 o.imm],.slice (some ⟨g,0,none⟩) n n] w (Told (valK vs o v) w):=by
 have hp:=oneK_parts h1
 have hd:=part_d hp (by omega)
 have hvs:=(varsK_len hvk).2
 obtain ⟨l1,l2,l3⟩:=limb_pos hvk hd
 obtain ⟨L,hL⟩:∃ L,L=limbN vs o.d:=⟨_,rfl⟩
 rw [←hL] at l1 l2 l3
 obtain ⟨pd,hpd⟩:∃ p:Nat,o.d=p:=⟨o.d.toNat,by omega⟩
 obtain ⟨vd,hvd⟩:∃ x,vs[pd]? = some x:=⟨_,List.getElem?_eq_getElem (by omega)⟩
 have hlimb:vd.limbs=(L:Int):=by
   rw [←l3];unfold limbsF;rw [hpd,Int.toNat_natCast,List.getD_eq_getElem?_getD,hvd];rfl
 obtain ⟨hvl,hbW⟩:=vl_new (vo:=.slice Ao no co) (vr:=.slice Ar nr cr) (o:=o) hk hv
 obtain ⟨W,hW⟩:∃ W,W=(w.alloc (.cells #[.slice Av nv cv,.slice Ao no co,.slice Ar nr cr] 25)).alloc (.cells (kopRow o).toArray 43):=⟨_,rfl⟩
 rw [←hW] at hvl hbW
 have HW:=Lh (show W=(w.alloc (.cells #[.slice Av nv cv,.slice Ao no co,.slice Ar nr cr] 25)).alloc (.cells #[.int .i64 o.kind,.int .i64 o.d,.int .i64 o.e,.int .i64 o.a,.int .i64 o.b,.int .i64 o.c,.int .u64 o.imm] 43) from hW)
 have HB:=Lh hbW
 have HVL:=Lh hvl
 have hnv:=(rows_len hvl.vars).1
 have hng:=hvl.vals.len
 have hvlen:=hok.len
 obtain ⟨bv,ov,hAv,hbv,v0,_⟩:=KVarsAt.at_ hvl.vars hvd
 rw [hlimb] at v0
 have c0:=hvl.c0
 have o0:=hvl.o0
 have o1:=hvl.o1
 have o3:=hvl.o3
 have o4:=hvl.o4
 have o5:=hvl.o5
 have o6:=hvl.o6
 rw [hkd] at o0
 rw [hpd] at o1
 rw [hAv] at c0
 have i1:(0:Int)≤(pd:Int):=by omega
 have i2:(pd:Int) < (nv:Int):=by omega
 have i3:IntKind.i64.wrap (pd:Int)=pd:=by rw [IntKind.wrap_i64];omega
 have H2:=Lh l2
 have hxa:=hp.a (.inl (by omega))
 obtain ⟨pa,hpa⟩:∃ p:Nat,o.a=p:=⟨o.a.toNat,by omega⟩
 obtain ⟨xa,hxxa⟩:∃ y,v[pa]? = some y:=⟨_,List.getElem?_eq_getElem (by omega)⟩
 obtain ⟨Aa,na,ca,ya,_,hnuma⟩:=hvl.vals.get hxxa
 have ea:argK v o.a=xa:=by rw [argK_pos hxa.1,hpa];exact getV_get hxxa
 rw [hpa] at o3
 have HNa:=Lh hnuma
 have j1a:decide ((pa:Int) ≥ 0)=true:=decide_eq_true (by omega)
 have j2a:decide ((0:Int)≤(pa:Int))=true:=decide_eq_true (by omega)
 have j3a:(0:Int)≤(pa:Int):=by omega
 have j4a:(pa:Int) < (n:Int):=by omega
 have j5a:IntKind.i64.wrap (pa:Int)=pa:=by rw [IntKind.wrap_i64];omega
 have hxb:=hp.b (.inr (by omega))
 obtain ⟨pb,hpb⟩:∃ p:Nat,o.b=p:=⟨o.b.toNat,by omega⟩
 obtain ⟨xb,hxxb⟩:∃ y,v[pb]? = some y:=⟨_,List.getElem?_eq_getElem (by omega)⟩
 obtain ⟨Ab,nb,cb,yb,_,hnumb⟩:=hvl.vals.get hxxb
 have eb:argK v o.b=xb:=by rw [argK_pos hxb.1,hpb];exact getV_get hxxb
 rw [hpb] at o4
 have HNb:=Lh hnumb
 have j1b:decide ((pb:Int) ≥ 0)=true:=decide_eq_true (by omega)
 have j2b:decide ((0:Int)≤(pb:Int))=true:=decide_eq_true (by omega)
 have j3b:(0:Int)≤(pb:Int):=by omega
 have j4b:(pb:Int) < (n:Int):=by omega
 have j5b:IntKind.i64.wrap (pb:Int)=pb:=by rw [IntKind.wrap_i64];omega
 have hxc:=hp.c (by omega)
 obtain ⟨pc,hpc⟩:∃ p:Nat,o.c=p:=⟨o.c.toNat,by omega⟩
 obtain ⟨xc,hxxc⟩:∃ y,v[pc]? = some y:=⟨_,List.getElem?_eq_getElem (by omega)⟩
 obtain ⟨Ac,nc,cc,yc,_,hnumc⟩:=hvl.vals.get hxxc
 have ec:argK v o.c=xc:=by rw [argK_pos hxc.1,hpc];exact getV_get hxxc
 rw [hpc] at o5
 have HNc:=Lh hnumc
 have j1c:decide ((pc:Int) ≥ 0)=true:=decide_eq_true (by omega)
 have j2c:decide ((0:Int)≤(pc:Int))=true:=decide_eq_true (by omega)
 have j3c:(0:Int)≤(pc:Int):=by omega
 have j4c:(pc:Int) < (n:Int):=by omega
 have j5c:IntKind.i64.wrap (pc:Int)=pc:=by rw [IntKind.wrap_i64];omega
 have HR:=Lh (show valK vs o v=(xa ^ xb % xc) % LB ^ L by
   unfold valK rawK
   simp only [ea,eb,ec]
   rw [←hL,hkd]
   rfl)
 have HC0:=Lh (show xc≠0 from by
   have:=need_holds hneed (by omega) (by omega)
   rw [hpc,getV_get hxxc] at this
   omega)
 clear hp hd hvs l1 l3 hvd hlimb hvl hbW hW hnv hng hvlen hbv hk hv hvk h1 hok hkd hpd hL hpa hxa hxxa hnuma ea hpb hxb hxxb hnumb eb hpc hxc hxxc hnumc ec hneed
 subst hAv
 go_enter Tryz.func72,Tryz.ntmps72
 go_upto_region 1 with go_in
 rw [←HW.out]
 clear HW
 go_wp2_with (first
   | ((with_reducible refine (tPow HNa.out.num HNb.out.num HNc.out.num HC0.out (by have:=HNa.out.le;omega) (by have:=HNc.out.le;omega)).mono ?_);rintro e_ w5 ⟨A5,n5,c5,rfl,h1_,hn_,h3_,hb_⟩;have H5:=Lh h1_;have HN5:=Lh hn_;have HB5:=Lh (HB.out.trans (hb_.mono HB.out.size));have HB5r:=Lh hb_;clear h1_ hn_ h3_ hb_)
   | ((with_reducible refine (tLow H5.out L (by have:=H2.out;omega)).mono ?_);rintro e_ w9 h_;obtain ⟨A9,n9,c9,h1_,h2,h3,h4,hb⟩:=h_.from HB5.out;cases h1_;have H9:=Lh h2;have HN9:=Lh h3;have HO9:=Lh h4;have HB9:=Lh hb;clear h2 h3 h4 hb)
   )
 go_ret
 rw [HR.out]
 exact ⟨A9,n9,c9,rfl,H9.out,HN9.out,HO9.out,HB9.out⟩
set_option maxHeartbeats 4000000 in
theorem Value_12 (Av Ao Ar:Option Addr) (nv cv no co nr cr:Nat) (vs:List KVar) (o:KOp) (g n:Nat) (v:List Nat) (w:World) (hk:KVarsAt w (fun k=>k < w.heap.size) (.slice Av nv cv) vs) (hv:ValsAt w g n v) (hvk:varsK vs=true) (h1:oneK vs o=true) (hok:ValOk vs v) (hkd:o.kind=12) (hneed:∀ f∈needsF o,holdsF v f=true) :
   Calls Tryz.prog 72 #[.agg #[.slice Av nv cv,.slice Ao no co,.slice Ar nr cr],.agg #[.int .i64 o.kind,.int .i64 o.d,.int .i64 o.e,.int .i64 o.a,.int .i64 o.b,.int .i64 o.c,.int .u64 o.imm],.slice (some ⟨g,0,none⟩) n n] w (Told (valK vs o v) w):=by
 have hp:=oneK_parts h1
 have hd:=part_d hp (by omega)
 have hvs:=(varsK_len hvk).2
 obtain ⟨l1,l2,l3⟩:=limb_pos hvk hd
 obtain ⟨L,hL⟩:∃ L,L=limbN vs o.d:=⟨_,rfl⟩
 rw [←hL] at l1 l2 l3
 obtain ⟨pd,hpd⟩:∃ p:Nat,o.d=p:=⟨o.d.toNat,by omega⟩
 obtain ⟨vd,hvd⟩:∃ x,vs[pd]? = some x:=⟨_,List.getElem?_eq_getElem (by omega)⟩
 have hlimb:vd.limbs=(L:Int):=by
   rw [←l3];unfold limbsF;rw [hpd,Int.toNat_natCast,List.getD_eq_getElem?_getD,hvd];rfl
 obtain ⟨hvl,hbW⟩:=vl_new (vo:=.slice Ao no co) (vr:=.slice Ar nr cr) (o:=o) hk hv
 obtain ⟨W,hW⟩:∃ W,W=(w.alloc (.cells #[.slice Av nv cv,.slice Ao no co,.slice Ar nr cr] 25)).alloc (.cells (kopRow o).toArray 43):=⟨_,rfl⟩
 rw [←hW] at hvl hbW
 have HW:=Lh (show W=(w.alloc (.cells #[.slice Av nv cv,.slice Ao no co,.slice Ar nr cr] 25)).alloc (.cells #[.int .i64 o.kind,.int .i64 o.d,.int .i64 o.e,.int .i64 o.a,.int .i64 o.b,.int .i64 o.c,.int .u64 o.imm] 43) from hW)
 have HB:=Lh hbW
 have HVL:=Lh hvl
 have hnv:=(rows_len hvl.vars).1
 have hng:=hvl.vals.len
 have hvlen:=hok.len
 obtain ⟨bv,ov,hAv,hbv,v0,_⟩:=KVarsAt.at_ hvl.vars hvd
 rw [hlimb] at v0
 have c0:=hvl.c0
 have o0:=hvl.o0
 have o1:=hvl.o1
 have o3:=hvl.o3
 have o4:=hvl.o4
 have o5:=hvl.o5
 have o6:=hvl.o6
 rw [hkd] at o0
 rw [hpd] at o1
 rw [hAv] at c0
 have i1:(0:Int)≤(pd:Int):=by omega
 have i2:(pd:Int) < (nv:Int):=by omega
 have i3:IntKind.i64.wrap (pd:Int)=pd:=by rw [IntKind.wrap_i64];omega
 have H2:=Lh l2
 have hxa:=hp.a (.inl (by omega))
 obtain ⟨pa,hpa⟩:∃ p:Nat,o.a=p:=⟨o.a.toNat,by omega⟩
 obtain ⟨xa,hxxa⟩:∃ y,v[pa]? = some y:=⟨_,List.getElem?_eq_getElem (by omega)⟩
 obtain ⟨Aa,na,ca,ya,_,hnuma⟩:=hvl.vals.get hxxa
 have ea:argK v o.a=xa:=by rw [argK_pos hxa.1,hpa];exact getV_get hxxa
 rw [hpa] at o3
 have HNa:=Lh hnuma
 have j1a:decide ((pa:Int) ≥ 0)=true:=decide_eq_true (by omega)
 have j2a:decide ((0:Int)≤(pa:Int))=true:=decide_eq_true (by omega)
 have j3a:(0:Int)≤(pa:Int):=by omega
 have j4a:(pa:Int) < (n:Int):=by omega
 have j5a:IntKind.i64.wrap (pa:Int)=pa:=by rw [IntKind.wrap_i64];omega
 have hxb:=hp.b (.inr (by omega))
 obtain ⟨pb,hpb⟩:∃ p:Nat,o.b=p:=⟨o.b.toNat,by omega⟩
 obtain ⟨xb,hxxb⟩:∃ y,v[pb]? = some y:=⟨_,List.getElem?_eq_getElem (by omega)⟩
 obtain ⟨Ab,nb,cb,yb,_,hnumb⟩:=hvl.vals.get hxxb
 have eb:argK v o.b=xb:=by rw [argK_pos hxb.1,hpb];exact getV_get hxxb
 rw [hpb] at o4
 have HNb:=Lh hnumb
 have j1b:decide ((pb:Int) ≥ 0)=true:=decide_eq_true (by omega)
 have j2b:decide ((0:Int)≤(pb:Int))=true:=decide_eq_true (by omega)
 have j3b:(0:Int)≤(pb:Int):=by omega
 have j4b:(pb:Int) < (n:Int):=by omega
 have j5b:IntKind.i64.wrap (pb:Int)=pb:=by rw [IntKind.wrap_i64];omega
 have hxc:=hp.c (by omega)
 obtain ⟨pc,hpc⟩:∃ p:Nat,o.c=p:=⟨o.c.toNat,by omega⟩
 obtain ⟨xc,hxxc⟩:∃ y,v[pc]? = some y:=⟨_,List.getElem?_eq_getElem (by omega)⟩
 obtain ⟨Ac,nc,cc,yc,_,hnumc⟩:=hvl.vals.get hxxc
 have ec:argK v o.c=xc:=by rw [argK_pos hxc.1,hpc];exact getV_get hxxc
 rw [hpc] at o5
 have HNc:=Lh hnumc
 have j1c:decide ((pc:Int) ≥ 0)=true:=decide_eq_true (by omega)
 have j2c:decide ((0:Int)≤(pc:Int))=true:=decide_eq_true (by omega)
 have j3c:(0:Int)≤(pc:Int):=by omega
 have j4c:(pc:Int) < (n:Int):=by omega
 have j5c:IntKind.i64.wrap (pc:Int)=pc:=by rw [IntKind.wrap_i64];omega
 have HR:=Lh (show valK vs o v=(montN (xa*xb) xc (limbN vs o.c)) % LB ^ L by
   unfold valK rawK
   simp only [ea,eb,ec]
   rw [←hL,hkd]
   rfl)
 have hlc:=limb_pos hvk hxc
 obtain ⟨Lc,hLc⟩:∃ L,L=limbN vs o.c:=⟨_,rfl⟩
 rw [←hLc] at HR hlc
 obtain ⟨vc,hvc⟩:∃ x,vs[pc]? = some x:=⟨_,List.getElem?_eq_getElem (by omega)⟩
 have hlimbc:vc.limbs=(Lc:Int):=by
   rw [←hlc.2.2];unfold limbsF;rw [hpc,Int.toNat_natCast,List.getD_eq_getElem?_getD,hvc];rfl
 obtain ⟨bv',ov',hAv',hbv',v0',_⟩:=KVarsAt.at_ hvl.vars hvc
 rw [hlimbc] at v0'
 rw [hAv] at hAv'
 simp only [Option.some.injEq,Addr.mk.injEq,and_true] at hAv'
 obtain ⟨e1',e2'⟩:=hAv'
 subst e1';subst e2'
 have HCL:=Lh (show ∀ w_,Below W.heap.size W w_→w_.cell? ⟨w.heap.size,0,none⟩=some (.slice (some ⟨bv,ov,none⟩) nv cv)∧w_.cell? ⟨w.heap.size+1,5,none⟩=some (.int .i64 pc)∧w_.cell? ⟨bv,ov+pc*3,none⟩=some (.int .i64 Lc) from fun w_ h=>⟨(h.cell (p:=⟨w.heap.size,0,none⟩) (by have:=hvl.lt;simp only;omega)).trans c0,(h.cell (p:=⟨w.heap.size+1,5,none⟩) hvl.lt).trans o5,(h.cell (p:=⟨bv,ov+pc*3,none⟩) hbv').trans v0'⟩)
 have j6c:(pc:Int) < (nv:Int):=by omega
 have HLC:=Lh hlc.2.1
 have HOD:=Lh (show xc % 2=1 from by
   have h:=hneed (aloneF 1 o.c) (by unfold needsF;rw [if_neg (by omega),if_neg (by omega),if_pos (by omega)];exact List.mem_cons_self)
   rw [holds_alone _ _ _ (.inl rfl),if_pos rfl,beq_iff_eq,hpc,getV_get hxxc] at h
   exact h)
 have HMU:=Lh (fun (w_:World) (h_:Below W.heap.size W w_)=>tMul (hnuma.num.next h_) (hnumb.num.next h_) (by have:=hnuma.le;have:=hnumb.le;omega))
 have HML:=Lh (show (limbsOf (xa*xb)).length≤40000 from by
   have h1:=hnuma.le
   have h2:=hnumb.le
   refine Nat.le_trans (limbs_len_le (k:=na+nb) ?_) (by omega)
   rw [Nat.pow_add]
   exact Nat.mul_lt_mul'' hnuma.num.lt hnumb.num.lt)
 clear hlc hLc hvc hlimbc hbv' v0'
 clear hp hd hvs l1 l3 hvd hlimb hvl hbW hW hnv hng hvlen hbv hk hv hvk h1 hok hkd hpd hL hpa hxa hxxa hnuma ea hpb hxb hxxb hnumb eb hpc hxc hxxc hnumc ec hneed
 subst hAv
 go_enter Tryz.func72,Tryz.ntmps72
 go_upto_region 1 with go_in
 rw [←HW.out]
 clear HW
 go_upto_region 36 with (first | go_in)
 have hS:=(Below.refl W.heap.size W).drew
 (refine wp_region_lines (Below W.heap.size W) (by kernel_rfl) (by kernel_rfl) ((Below.refl W.heap.size W).drew) ?_)
 (try simp only [])
 repeat (first | (refine runL_no (by rfl) ?_;(try simp only [Act.put,List.setIfInBounds_toArray,List.set_cons_zero,List.set_cons_succ])) | (refine runL_val (v:=?_) (by rfl) ?_ ?_;rotate_left;(focus (intro w_ hw_;obtain ⟨f0_,f1_,f2_⟩:=HCL.out w_ hw_;go_simp;(try with_reducible rfl);done));(try simp only [Act.put,List.setIfInBounds_toArray,List.set_cons_zero,List.set_cons_succ])) | (refine runL_call (f:=?_) (args:=?_) (w1:=?_) (by rfl) (by rfl) ?_ ?_;rotate_left 3;(focus (go_simp;refine ⟨⟨?_,?_⟩,?_⟩ <;> with_reducible rfl));(with_reducible refine (HMU.out _ hS).mono ?_);rintro e_ w5 ⟨A5,n5,c5,rfl,h1_,hn_,h3_,hb_⟩;have H5:=Lh h1_;have HN5:=Lh hn_;replace hS:=hS.trans (hb_.mono hS.size);clear h1_ hn_ h3_ hb_;refine ⟨_,rfl,.inr hS,?_⟩;(try simp only [Act.put,List.setIfInBounds_toArray,List.set_cons_zero,List.set_cons_succ])) | (refine runL_call (f:=?_) (args:=?_) (w1:=?_) (by rfl) (by rfl) ?_ ?_;rotate_left 3;(focus (go_simp;refine ⟨⟨?_,?_⟩,?_⟩ <;> with_reducible rfl));(with_reducible refine (tReduce Lc HLC.out H5.out (HNc.out.num.next hS) HOD.out (by rw [HN5.out];exact HML.out) (by have:=HNc.out.le;omega)).mono ?_);rintro e_ w6 ⟨A6,n6,c6,rfl,h1_,hn_,h3_,hb_⟩;have H6:=Lh h1_;replace hS:=hS.trans (hb_.mono hS.size);clear h1_ hn_ h3_ hb_;refine ⟨_,rfl,.inr hS,?_⟩;(try simp only [Act.put,List.setIfInBounds_toArray,List.set_cons_zero,List.set_cons_succ])))
 (refine runL_nil ?_)
 have HB6:=Lh (HB.out.trans (hS.mono HB.out.size))
 clear hS
 go_wp2_with (first
   | ((with_reducible refine (tLow H6.out L (by have:=H2.out;omega)).mono ?_);rintro e_ w9 h_;obtain ⟨A9,n9,c9,h1_,h2,h3,h4,hb⟩:=h_.from HB6.out;cases h1_;have H9:=Lh h2;have HN9:=Lh h3;have HO9:=Lh h4;have HB9:=Lh hb;clear h2 h3 h4 hb)
   )
 go_ret
 rw [HR.out]
 exact ⟨A9,n9,c9,rfl,H9.out,HN9.out,HO9.out,HB9.out⟩
theorem Value_any (Av Ao Ar:Option Addr) (nv cv no co nr cr:Nat) (vs:List KVar) (o:KOp) (g n:Nat) (v:List Nat) (w:World) (hk:KVarsAt w (fun k=>k < w.heap.size) (.slice Av nv cv) vs) (hv:ValsAt w g n v) (hvk:varsK vs=true) (h1:oneK vs o=true) (hok:ValOk vs v) (hkd:o.kind≤13) (hneed:∀ f∈needsF o,holdsF v f=true) (hko:KOpOk o) :
   Calls Tryz.prog 72 #[.agg #[.slice Av nv cv,.slice Ao no co,.slice Ar nr cr],.agg #[.int .i64 o.kind,.int .i64 o.d,.int .i64 o.e,.int .i64 o.a,.int .i64 o.b,.int .i64 o.c,.int .u64 o.imm],.slice (some ⟨g,0,none⟩) n n] w (Told (valK vs o v) w):=by
 have hp:=(oneK_parts h1).kind
 have h:o.kind=1∨o.kind=2∨o.kind=3∨o.kind=4∨o.kind=5∨o.kind=6∨o.kind=7∨o.kind=8∨o.kind=9∨o.kind=10∨o.kind=11∨o.kind=12∨o.kind=13:=by omega
 rcases h with h | h | h | h | h | h | h | h | h | h | h | h | h
 · exact Value_1 Av Ao Ar nv cv no co nr cr vs o g n v w hk hv hvk h1 hok h hko
 · exact Value_2 Av Ao Ar nv cv no co nr cr vs o g n v w hk hv hvk h1 hok h
 · exact Value_3 Av Ao Ar nv cv no co nr cr vs o g n v w hk hv hvk h1 hok h
 · exact Value_4 Av Ao Ar nv cv no co nr cr vs o g n v w hk hv hvk h1 hok h
 · exact Value_5 Av Ao Ar nv cv no co nr cr vs o g n v w hk hv hvk h1 hok h
 · exact Value_6 Av Ao Ar nv cv no co nr cr vs o g n v w hk hv hvk h1 hok h
 · exact Value_7 Av Ao Ar nv cv no co nr cr vs o g n v w hk hv hvk h1 hok h
 · exact Value_8 Av Ao Ar nv cv no co nr cr vs o g n v w hk hv hvk h1 hok h
 · exact Value_9 Av Ao Ar nv cv no co nr cr vs o g n v w hk hv hvk h1 hok h hneed
 · exact Value_10 Av Ao Ar nv cv no co nr cr vs o g n v w hk hv hvk h1 hok h hneed
 · exact Value_11 Av Ao Ar nv cv no co nr cr vs o g n v w hk hv hvk h1 hok h hneed
 · exact Value_12 Av Ao Ar nv cv no co nr cr vs o g n v w hk hv hvk h1 hok h hneed
 · exact Value_13 Av Ao Ar nv cv no co nr cr vs o g n v w hk hv hvk h1 hok h hneed
end Go.Proofs.YtjbabpnepjhllaaGreat
