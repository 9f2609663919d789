/- Part 15 of a claim; what it proves stands in its last text. -/
import Derived.Test.YtjbabpnepjhllaaGreatSx14
namespace Go.Proofs.YtjbabpnepjhllaaGreat
open Go.RowKit
set_option maxRecDepth 100000
theorem partsK_split {n:Nat} {o:KOp}:partsK n o=([partK n (kHasD o.kind) o.d,partK n (kHasE o.kind) o.e,partK n (kHasA o.kind) o.a,partK n (kHasB o.kind) o.b,partK n (kHasC o.kind) o.c]).all id:=by
 unfold partsK;simp
theorem shape_bits {k:Int} (h:1≤k∧k≤16):(shapeK k=0∨shapeK k=1∨shapeK k=5∨shapeK k=13∨shapeK k=19∨shapeK k=21∨shapeK k=29) ∧
   bitK (shapeK k) 0=kHasD k∧bitK (shapeK k) 1=kHasE k∧bitK (shapeK k) 2=kHasA k∧bitK (shapeK k) 3=kHasB k∧bitK (shapeK k) 4=kHasC k:=by
 rcases kinds16 h with rfl | rfl | rfl | rfl | rfl | rfl | rfl | rfl | rfl | rfl | rfl | rfl | rfl | rfl | rfl | rfl <;> decide
theorem part_in {n:Nat} {b:Bool} {x:Int} (h:partK n b x=true):(0≤x∧x < n)∨(b=false∧x = -1):=by
 unfold partK thereK at h
 cases b
 · right;exact ⟨rfl,by simpa using h⟩
 · left;simpa using h
theorem takes_in {n:Nat} {o:KOp} (h:partsK n o=true):∀ v∈takesK o,0≤v∧v < (n:Int):=by
 unfold partsK at h
 simp only [Bool.and_eq_true] at h
 obtain ⟨hd,he,ha,hb,hc⟩:=h
 intro v hv
 unfold takesK at hv
 rcases List.mem_append.1 hv with hv | hv
 · obtain ⟨h1,h2⟩:=List.mem_filter.1 hv
   simp only [decide_eq_true_eq] at h2
   simp only [List.mem_cons,List.not_mem_nil,or_false] at h1
   rcases h1 with rfl | rfl | rfl
   · have:=part_in ha;omega
   · have:=part_in hb;omega
   · have:=part_in hc;omega
 · split at hv
   · rename_i h14
     rw [h14] at hd he
     have h1:=part_in hd
     have h2:=part_in he
     simp only [show kHasD 14=true from rfl,show kHasE 14=true from rfl,Bool.true_eq_false,false_and,or_false] at h1 h2
     simp only [List.mem_cons,List.not_mem_nil,or_false] at hv
     rcases hv with rfl | rfl
     · exact h1
     · exact h2
   · cases hv
theorem alike_in {n:Nat} {o:KOp} (h:partsK n o=true):∀ v∈alikeK o,0≤v∧v < (n:Int):=by
 unfold partsK at h
 simp only [Bool.and_eq_true] at h
 obtain ⟨hd,he,ha,hb,hc⟩:=h
 have hd:=part_in hd
 have he:=part_in he
 have ha:=part_in ha
 have hb:=part_in hb
 have hc:=part_in hc
 unfold kHasD at hd
 unfold kHasE at he
 unfold kHasA at ha
 unfold kHasB at hb
 unfold kHasC at hc
 intro v hv
 unfold alikeK at hv
 split at hv
 · rename_i hk;rw [hk] at ha hb;simp at ha hb hv;rcases hv with rfl | rfl <;> assumption
 split at hv
 · rename_i hk;rw [hk] at hd he;simp at hd he hv;rcases hv with rfl | rfl <;> assumption
 split at hv
 · rename_i hk;rw [hk] at hd ha hb;simp at hd ha hb hv;rcases hv with rfl | rfl | rfl <;> assumption
 split at hv
 · rename_i hk;rw [hk] at hd hc;simp at hd hc hv;rcases hv with rfl | rfl <;> assumption
 split at hv
 · rename_i hk;rcases hk with hk | hk | hk <;> (rw [hk] at hd ha hb hc;simp at hd ha hb hc hv;rcases hv with rfl | rfl | rfl | rfl <;> assumption)
 split at hv
 · rename_i hk;rw [hk] at hd ha hc;simp at hd ha hc hv;rcases hv with rfl | rfl | rfl <;> assumption
 · cases hv
theorem all_next {l:List Bool} {k:Nat} {x:Bool} (h:(l.take k).all id=true) (hx:l[k]? = some x) (ht:x=true):(l.take (k+1)).all id=true:=by
 subst ht
 rw [List.take_add_one,hx]
 simp [h]
theorem all_stop {l:List Bool} {k:Nat} (hx:l[k]? = some false):l.all id=false:=by
 rw [List.all_eq_false]
 exact ⟨false,List.mem_of_getElem? hx,by simp⟩
def prtL (n:Nat) (o:KOp):List Bool:=[partK n (kHasD o.kind) o.d,partK n (kHasE o.kind) o.e,partK n (kHasA o.kind) o.a,partK n (kHasB o.kind) o.b,partK n (kHasC o.kind) o.c]
set_option maxHeartbeats 8000000 in
theorem one_any (Av:Option Addr) (nv cv:Nat) (vs:List KVar) (o:KOp) (w:World) (F:Nat→Prop) (hv:KVarsAt w F (.slice Av nv cv) vs) (hF:∀ k,F k→k < w.heap.size) (hok:KOpOk o) (hn:vs.length≤100000) :
   Calls Tryz.prog 63 #[.slice Av nv cv,.agg #[.int .i64 o.kind,.int .i64 o.d,.int .i64 o.e,.int .i64 o.a,.int .i64 o.b,.int .i64 o.c,.int .u64 o.imm]] w fun e w'=>e=.returned (.bool (oneK vs o))∧Below w.heap.size w w':=by
 have hnv:=(rows_len hv).1
 obtain ⟨W,hW⟩:∃ W,W=(w.alloc (.cells #[.slice Av nv cv] 22)).alloc (.cells #[.int .i64 o.kind,.int .i64 o.d,.int .i64 o.e,.int .i64 o.a,.int .i64 o.b,.int .i64 o.c,.int .u64 o.imm] 43):=⟨_,rfl⟩
 obtain ⟨hvo,hb,hz⟩:=vo_start w F Av nv cv vs o hv hF
 rw [show (w.alloc (.cells #[.slice Av nv cv] 22)).alloc (.cells (kopRow o).toArray 43)=W from hW.symm] at hvo hb hz
 have HW:=Lh hW
 have HV:=Lh hvo
 have HB:=Lh hb
 have HZ:=Lh hz
 have HNV:=Lh hnv
 have HOK:=Lh hok
 clear hW hvo hb hz hv hF hok
 by_cases h17:o.kind=17
 · have HX:=Lh (show oneK vs o=needK nv o by unfold oneK;rw [if_pos h17,hnv])
   have d17:(o.kind == 17)=true:=by rw [beq_iff_eq];exact h17
   have HND:=Lh (fun w1=>need_any Av nv cv o w1)
   clear hnv h17
   go_enter Tryz.func63,Tryz.ntmps63
   go_upto_region 1 with (first | go_in)
   rw [←HW.out]
   clear HW
   have c0:=HV.out.op.kind
   have c1:=HV.out.op.d
   have c2:=HV.out.op.e
   have c3:=HV.out.op.a
   have c4:=HV.out.op.b
   have c5:=HV.out.op.c
   have c6:=HV.out.op.imm
   have c7:=HV.out.hcv
   go_wp2_with (first | ((with_reducible refine (HND.out _).mono ?_);rintro e w1 ⟨rfl,hb1⟩;have HB1:=Lh hb1;clear hb1) | go_in)
   go_ret
   exact ⟨ret_bool HX.out.symm,HB.out.trans (HB1.out.mono HB.out.size)⟩
 have d17:(o.kind == 17)=false:=beq_eq_false_iff_ne.2 h17
 have hx:oneK vs o=(decide (1≤o.kind∧o.kind≤16) && (numK o && (partsK nv o && (intoK vs (secretK vs o) o.d && (intoK vs (secretK vs o) o.e && ((decide (o.e < 0) || !(o.d == o.e)) && agreeK vs o)))))):=by
   unfold oneK
   rw [if_neg h17,←hnv,←Bool.and_assoc,←Bool.decide_and]
 clear h17
 have HSH:=Lh (fun w1=>shape_any o.kind w1)
 by_cases h16:1≤o.kind∧o.kind≤16
 rotate_left
 · have HX:=Lh (show oneK vs o=false by rw [hx,decide_eq_false h16];rfl)
   rw [if_neg h16,decide_eq_false h16] at HSH
   clear hx hnv h16
   go_enter Tryz.func63,Tryz.ntmps63
   go_upto_region 1 with (first | go_in)
   rw [←HW.out]
   clear HW
   have c0:=HV.out.op.kind
   have c1:=HV.out.op.d
   have c2:=HV.out.op.e
   have c3:=HV.out.op.a
   have c4:=HV.out.op.b
   have c5:=HV.out.op.c
   have c6:=HV.out.op.imm
   have c7:=HV.out.hcv
   go_wp2_with (first | ((with_reducible refine (HSH.out _).mono ?_);rintro e w1 ⟨rfl,hw1⟩;subst w1) | go_in)
   go_ret
   exact ⟨ret_bool HX.out.symm,HB.out⟩
 rw [decide_eq_true h16,Bool.true_and] at hx
 rw [if_pos h16,decide_eq_true h16] at HSH
 have HSB:=Lh (shape_bits h16)
 have HNM:=Lh (fun w1=>number_any o w1)
 have HPT:=Lh (fun w1=>parts_any o w1)
 have HTK:=Lh (fun w1=>takes_any o w1)
 cases hnk:numK o
 · have HX:=Lh (show oneK vs o=false by rw [hx,hnk];rfl)
   rw [hnk] at HNM
   clear hx hnv h16 hnk
   go_enter Tryz.func63,Tryz.ntmps63
   go_upto_region 1 with (first | go_in)
   rw [←HW.out]
   clear HW
   have c0:=HV.out.op.kind
   have c1:=HV.out.op.d
   have c2:=HV.out.op.e
   have c3:=HV.out.op.a
   have c4:=HV.out.op.b
   have c5:=HV.out.op.c
   have c6:=HV.out.op.imm
   have c7:=HV.out.hcv
   go_wp2_with (first
     | ((with_reducible refine (HSH.out _).mono ?_);rintro e w1 ⟨rfl,hw1⟩;subst w1)
     | ((with_reducible refine (HNM.out _).mono ?_);rintro e w1 ⟨rfl,hb1⟩;have HB1:=Lh hb1;clear hb1)
     | go_in)
   go_ret
   exact ⟨ret_bool HX.out.symm,HB.out.trans (HB1.out.mono HB.out.size)⟩
 rw [hnk,Bool.true_and] at hx
 rw [hnk] at HNM
 have HX:=Lh hx
 clear hx hnv h16 hnk
 go_enter Tryz.func63,Tryz.ntmps63
 go_upto_region 1 with (first | go_in)
 rw [←HW.out]
 clear HW
 have c0:=HV.out.op.kind
 have c1:=HV.out.op.d
 have c2:=HV.out.op.e
 have c3:=HV.out.op.a
 have c4:=HV.out.op.b
 have c5:=HV.out.op.c
 have c6:=HV.out.op.imm
 have c7:=HV.out.hcv
 go_upto_region 6 with (first
   | ((with_reducible refine (HSH.out _).mono ?_);rintro e w1 ⟨rfl,hw1⟩;subst w1)
   | ((with_reducible refine (HNM.out _).mono ?_);rintro e w1 ⟨rfl,hb1⟩;have HV1:=Lh (HV.out.next hb1);have HB1:=Lh hb1;clear hb1)
   | go_in)
 clear c0 c1 c2 c3 c4 c5 c6 c7
 have c0:=HV1.out.op.kind
 have c1:=HV1.out.op.d
 have c2:=HV1.out.op.e
 have c3:=HV1.out.op.a
 have c4:=HV1.out.op.b
 have c5:=HV1.out.op.c
 have c6:=HV1.out.op.imm
 go_wp2_with (first
   | ((with_reducible refine (HPT.out _).mono ?_);rintro e w2 ⟨rfl,hb2⟩;have HB2:=Lh (HB1.out.trans (hb2.mono HB1.out.size));clear hb2)
   | go_in)
 clear c0 c1 c2 c3 c4 c5 c6
 go_loopw [34] (fun i wr=>∃ k:Nat,k≤5∧i=.int .i64 k∧Below W.heap.size W wr∧Hid (((prtL nv o).take k).all id=true)) (fun i _=>5 - (intOf i).toNat)
 case atStart=>exact ⟨0,by omega,rfl,HB2.out,Lh rfl⟩
 case round =>
   obtain ⟨k,hk5,rfl,hbr,HT⟩:=hrel
   have HBR:=Lh hbr
   have HVR:=Lh (HV.out.next hbr)
   have p0:=HVR.out.hcv
   clear hbr
   obtain rfl | rfl | rfl | rfl | rfl | rfl:k=0∨k=1∨k=2∨k=3∨k=4∨k=5:=by omega
   · clear hk5
     have hl:(prtL nv o)[0]? = some (partK nv (kHasD o.kind) o.d):=rfl
     have HL:=Lh hl
     clear hl
     have hi:∀ w_,(Instr.index 90 (.agg #[.int .i64 o.d,.int .i64 o.e,.int .i64 o.a,.int .i64 o.b,.int .i64 o.c]) (.int .i64 0)).run Tryz.prog w_=.ok (.int .i64 o.d) w_:=fun w_=>by kernel_rfl
     go_upto_region 9 with fail
     refine wp_code (c:=partR Tryz.f63 9) (by kernel_rfl) ?_
     refine one_r9 (s:=shapeK o.kind) (i:=0) _ _ HSB.out.1 (by omega) ?_
     intro a38 a39 a40 a41 a42
     rw [HSB.out.2.1]
     go_upto_region 10 with fail
     refine wp_code (c:=partR Tryz.f63 10) (by kernel_rfl) ?_
     refine one_r10 (n:=nv) (c:=cv) (A:=Av) (x:=o.d) (h:=kHasD o.kind) _ _ p0 ?_
     intro b43 b44 b45 b46 b47 b48 b49 b50 b51 b52 b53 b54 b55 b56 b57 b58 b59 b60
     cases hq:partK nv (kHasD o.kind) o.d
     · have HN:=Lh (all_stop (l:=prtL nv o) (k:=0) (by rw [HL.out,hq]))
       rw [show (!false)=true from rfl]
       clear hq
       go_wp2
       go_ret
       refine ⟨ret_bool ?_,HB.out.trans (HBR.out.mono HB.out.size)⟩
       rw [HX.out,partsK_split]
       rw [show ([partK nv (kHasD o.kind) o.d,partK nv (kHasE o.kind) o.e,partK nv (kHasA o.kind) o.a,partK nv (kHasB o.kind) o.b,partK nv (kHasC o.kind) o.c]:List Bool)=prtL nv o from rfl,HN.out]
       rfl
     · have HN:=Lh (all_next HT.out HL.out hq)
       rw [show (!true)=false from rfl]
       clear hq
       go_wp2
       go_roundw
       case rel=>exact ⟨0+1,by omega,rfl,HBR.out,HN⟩
       case measure=>simp [intOf]
   · clear hk5
     have hl:(prtL nv o)[1]? = some (partK nv (kHasE o.kind) o.e):=rfl
     have HL:=Lh hl
     clear hl
     have hi:∀ w_,(Instr.index 90 (.agg #[.int .i64 o.d,.int .i64 o.e,.int .i64 o.a,.int .i64 o.b,.int .i64 o.c]) (.int .i64 1)).run Tryz.prog w_=.ok (.int .i64 o.e) w_:=fun w_=>by kernel_rfl
     go_upto_region 9 with fail
     refine wp_code (c:=partR Tryz.f63 9) (by kernel_rfl) ?_
     refine one_r9 (s:=shapeK o.kind) (i:=1) _ _ HSB.out.1 (by omega) ?_
     intro a38 a39 a40 a41 a42
     rw [HSB.out.2.2.1]
     go_upto_region 10 with fail
     refine wp_code (c:=partR Tryz.f63 10) (by kernel_rfl) ?_
     refine one_r10 (n:=nv) (c:=cv) (A:=Av) (x:=o.e) (h:=kHasE o.kind) _ _ p0 ?_
     intro b43 b44 b45 b46 b47 b48 b49 b50 b51 b52 b53 b54 b55 b56 b57 b58 b59 b60
     cases hq:partK nv (kHasE o.kind) o.e
     · have HN:=Lh (all_stop (l:=prtL nv o) (k:=1) (by rw [HL.out,hq]))
       rw [show (!false)=true from rfl]
       clear hq
       go_wp2
       go_ret
       refine ⟨ret_bool ?_,HB.out.trans (HBR.out.mono HB.out.size)⟩
       rw [HX.out,partsK_split]
       rw [show ([partK nv (kHasD o.kind) o.d,partK nv (kHasE o.kind) o.e,partK nv (kHasA o.kind) o.a,partK nv (kHasB o.kind) o.b,partK nv (kHasC o.kind) o.c]:List Bool)=prtL nv o from rfl,HN.out]
       rfl
     · have HN:=Lh (all_next HT.out HL.out hq)
       rw [show (!true)=false from rfl]
       clear hq
       go_wp2
       go_roundw
       case rel=>exact ⟨1+1,by omega,rfl,HBR.out,HN⟩
       case measure=>simp [intOf]
   · clear hk5
     have hl:(prtL nv o)[2]? = some (partK nv (kHasA o.kind) o.a):=rfl
     have HL:=Lh hl
     clear hl
     have hi:∀ w_,(Instr.index 90 (.agg #[.int .i64 o.d,.int .i64 o.e,.int .i64 o.a,.int .i64 o.b,.int .i64 o.c]) (.int .i64 2)).run Tryz.prog w_=.ok (.int .i64 o.a) w_:=fun w_=>by kernel_rfl
     go_upto_region 9 with fail
     refine wp_code (c:=partR Tryz.f63 9) (by kernel_rfl) ?_
     refine one_r9 (s:=shapeK o.kind) (i:=2) _ _ HSB.out.1 (by omega) ?_
     intro a38 a39 a40 a41 a42
     rw [HSB.out.2.2.2.1]
     go_upto_region 10 with fail
     refine wp_code (c:=partR Tryz.f63 10) (by kernel_rfl) ?_
     refine one_r10 (n:=nv) (c:=cv) (A:=Av) (x:=o.a) (h:=kHasA o.kind) _ _ p0 ?_
     intro b43 b44 b45 b46 b47 b48 b49 b50 b51 b52 b53 b54 b55 b56 b57 b58 b59 b60
     cases hq:partK nv (kHasA o.kind) o.a
     · have HN:=Lh (all_stop (l:=prtL nv o) (k:=2) (by rw [HL.out,hq]))
       rw [show (!false)=true from rfl]
       clear hq
       go_wp2
       go_ret
       refine ⟨ret_bool ?_,HB.out.trans (HBR.out.mono HB.out.size)⟩
       rw [HX.out,partsK_split]
       rw [show ([partK nv (kHasD o.kind) o.d,partK nv (kHasE o.kind) o.e,partK nv (kHasA o.kind) o.a,partK nv (kHasB o.kind) o.b,partK nv (kHasC o.kind) o.c]:List Bool)=prtL nv o from rfl,HN.out]
       rfl
     · have HN:=Lh (all_next HT.out HL.out hq)
       rw [show (!true)=false from rfl]
       clear hq
       go_wp2
       go_roundw
       case rel=>exact ⟨2+1,by omega,rfl,HBR.out,HN⟩
       case measure=>simp [intOf]
   · clear hk5
     have hl:(prtL nv o)[3]? = some (partK nv (kHasB o.kind) o.b):=rfl
     have HL:=Lh hl
     clear hl
     have hi:∀ w_,(Instr.index 90 (.agg #[.int .i64 o.d,.int .i64 o.e,.int .i64 o.a,.int .i64 o.b,.int .i64 o.c]) (.int .i64 3)).run Tryz.prog w_=.ok (.int .i64 o.b) w_:=fun w_=>by kernel_rfl
     go_upto_region 9 with fail
     refine wp_code (c:=partR Tryz.f63 9) (by kernel_rfl) ?_
     refine one_r9 (s:=shapeK o.kind) (i:=3) _ _ HSB.out.1 (by omega) ?_
     intro a38 a39 a40 a41 a42
     rw [HSB.out.2.2.2.2.1]
     go_upto_region 10 with fail
     refine wp_code (c:=partR Tryz.f63 10) (by kernel_rfl) ?_
     refine one_r10 (n:=nv) (c:=cv) (A:=Av) (x:=o.b) (h:=kHasB o.kind) _ _ p0 ?_
     intro b43 b44 b45 b46 b47 b48 b49 b50 b51 b52 b53 b54 b55 b56 b57 b58 b59 b60
     cases hq:partK nv (kHasB o.kind) o.b
     · have HN:=Lh (all_stop (l:=prtL nv o) (k:=3) (by rw [HL.out,hq]))
       rw [show (!false)=true from rfl]
       clear hq
       go_wp2
       go_ret
       refine ⟨ret_bool ?_,HB.out.trans (HBR.out.mono HB.out.size)⟩
       rw [HX.out,partsK_split]
       rw [show ([partK nv (kHasD o.kind) o.d,partK nv (kHasE o.kind) o.e,partK nv (kHasA o.kind) o.a,partK nv (kHasB o.kind) o.b,partK nv (kHasC o.kind) o.c]:List Bool)=prtL nv o from rfl,HN.out]
       rfl
     · have HN:=Lh (all_next HT.out HL.out hq)
       rw [show (!true)=false from rfl]
       clear hq
       go_wp2
       go_roundw
       case rel=>exact ⟨3+1,by omega,rfl,HBR.out,HN⟩
       case measure=>simp [intOf]
   · clear hk5
     have hl:(prtL nv o)[4]? = some (partK nv (kHasC o.kind) o.c):=rfl
     have HL:=Lh hl
     clear hl
     have hi:∀ w_,(Instr.index 90 (.agg #[.int .i64 o.d,.int .i64 o.e,.int .i64 o.a,.int .i64 o.b,.int .i64 o.c]) (.int .i64 4)).run Tryz.prog w_=.ok (.int .i64 o.c) w_:=fun w_=>by kernel_rfl
     go_upto_region 9 with fail
     refine wp_code (c:=partR Tryz.f63 9) (by kernel_rfl) ?_
     refine one_r9 (s:=shapeK o.kind) (i:=4) _ _ HSB.out.1 (by omega) ?_
     intro a38 a39 a40 a41 a42
     rw [HSB.out.2.2.2.2.2]
     go_upto_region 10 with fail
     refine wp_code (c:=partR Tryz.f63 10) (by kernel_rfl) ?_
     refine one_r10 (n:=nv) (c:=cv) (A:=Av) (x:=o.c) (h:=kHasC o.kind) _ _ p0 ?_
     intro b43 b44 b45 b46 b47 b48 b49 b50 b51 b52 b53 b54 b55 b56 b57 b58 b59 b60
     cases hq:partK nv (kHasC o.kind) o.c
     · have HN:=Lh (all_stop (l:=prtL nv o) (k:=4) (by rw [HL.out,hq]))
       rw [show (!false)=true from rfl]
       clear hq
       go_wp2
       go_ret
       refine ⟨ret_bool ?_,HB.out.trans (HBR.out.mono HB.out.size)⟩
       rw [HX.out,partsK_split]
       rw [show ([partK nv (kHasD o.kind) o.d,partK nv (kHasE o.kind) o.e,partK nv (kHasA o.kind) o.a,partK nv (kHasB o.kind) o.b,partK nv (kHasC o.kind) o.c]:List Bool)=prtL nv o from rfl,HN.out]
       rfl
     · have HN:=Lh (all_next HT.out HL.out hq)
       rw [show (!true)=false from rfl]
       clear hq
       go_wp2
       go_roundw
       case rel=>exact ⟨4+1,by omega,rfl,HBR.out,HN⟩
       case measure=>simp [intOf]
   · clear hk5
     have hpt:partsK nv o=true:=by rw [partsK_split];exact HT.out
     have hx:=HX.out
     rw [hpt,Bool.true_and] at hx
     have HPS:=Lh hpt
     have HX:=Lh hx
     have hti:=takes_in hpt
     have hai:=alike_in hpt
     have hdx:o.d < (nv:Int)∧o.e < (nv:Int):=by
       unfold partsK at hpt
       simp only [Bool.and_eq_true] at hpt
       have h1:=part_in hpt.1
       have h2:=part_in hpt.2.1
       omega
     have HDX:=Lh hdx
     have c0:=HVR.out.op.kind
     have c1:=HVR.out.op.d
     have c2:=HVR.out.op.e
     have c3:=HVR.out.op.a
     have c4:=HVR.out.op.b
     have c5:=HVR.out.op.c
     have c6:=HVR.out.op.imm
     have HCF:=Lh (fun (w3:World) (A:Option Addr) (n c:Nat) (h3:Below wr.heap.size wr w3) (h4:NumsAt w3 (fun k=>k < w3.heap.size) (.slice A n c) (takesK o))=>ContainsFunc_Int (.slice A n c) 89 #[.pointer (some ⟨w.heap.size,0,none⟩)] w3 (fun k=>k < w3.heap.size) (takesK o) (fun v=>(varK vs v).secret) (by unfold takesK;rw [List.length_append];have:=List.length_filter_le (fun v:Int=>decide (0≤v)) [o.a,o.b,o.c];split <;> simp at * <;> omega) (enters_of Tryz.func89 (by kernel_rfl) rfl) h4 (fun k hk=>hk)
       (fun x hx w4 h5=>one1_any x vs Av nv cv w.heap.size w4 _ ((HVR.out.next h3).next h5).hcv ((HVR.out.next h3).next h5).vars (by have:=hti x hx;have:=HNV.out;omega)))
     have HAG:=Lh (fun (w3:World) (h3:Below W.heap.size W w3)=>agree_any Av nv cv vs o w3 _ (HV.out.next h3).vars (fun k hk=>hk) HOK.out.kind hn (fun v hv=>by have:=hai v hv;have:=HNV.out;omega))
     clear hpt hx hti hai hdx
     go_upto_region 14 with (first
       | ((with_reducible refine (HTK.out _).mono ?_);rintro e w3 ⟨A3,n3,e3,rfl,hn3,hb3⟩;have HN3:=Lh hn3;have HB3:=Lh hb3;clear hn3 hb3)
       | ((with_reducible refine (HCF.out w3 A3 n3 e3 HB3.out HN3.out).mono ?_);rintro e w4 ⟨rfl,hb4⟩;have HB4:=Lh (HB3.out.trans (hb4.mono HB3.out.size));clear hb4)
       | go_in)
     have HB5:=Lh (HBR.out.trans (HB4.out.mono HBR.out.size))
     have HV5:=Lh (HV.out.next HB5.out)
     rw [show ((takesK o).any fun v=>(varK vs v).secret)=secretK vs o from rfl]
     generalize hsec:secretK vs o=sec
     rw [hsec] at HX
     clear c0 c1 c2 c3 c4 c5 c6 p0 hsec
     have c1:=HV5.out.op.d
     have c2:=HV5.out.op.e
     have hw6:Below w4.heap.size w4 (w4.alloc (.cells #[.int .i64 o.d,.int .i64 o.e] 3)):=(Below.refl _ _).alloc (Nat.le_refl _) _
     have HB6:=Lh (HB5.out.trans (hw6.mono HB5.out.size))
     have HC6:=Lh (And.intro (cell_new w4 #[Value.int .i64 o.d,.int .i64 o.e] 3 (k:=0) rfl) (cell_new w4 #[Value.int .i64 o.d,.int .i64 o.e] 3 (k:=1) rfl))
     have HS6:=Lh (show (w4.alloc (.cells #[.int .i64 o.d,.int .i64 o.e] 3)).heap.size=w4.heap.size+1 by simp)
     clear hw6
     go_wp2
     generalize (w4.alloc (.cells #[.int .i64 o.d,.int .i64 o.e] 3))=W6 at HB6 HC6 HS6 ⊢
     go_loopw [73] (fun i wt=>∃ k:Nat,k≤2∧i=.int .i64 k∧Below W6.heap.size W6 wt∧Hid (([intoK vs sec o.d,intoK vs sec o.e].take k).all id=true)) (fun i _=>2 - (intOf i).toNat)
     case atStart=>exact ⟨0,by omega,rfl,Below.refl _ _,Lh rfl⟩
     case round =>
       obtain ⟨k,hk2,rfl,hbt,HT2⟩:=hrel
       have HBT:=Lh hbt
       have HBT2:=Lh (HB6.out.trans (hbt.mono HB6.out.size))
       have HVT:=Lh (HV.out.next HBT2.out)
       have g0:=(hbt.cell (p:=⟨w4.heap.size,0,none⟩) (show w4.heap.size < W6.heap.size by have:=HS6.out;omega)).trans HC6.out.1
       have g1:=(hbt.cell (p:=⟨w4.heap.size,1,none⟩) (show w4.heap.size < W6.heap.size by have:=HS6.out;omega)).trans HC6.out.2
       clear hbt c1 c2
       obtain rfl | rfl | rfl:k=0∨k=1∨k=2:=by omega
       · clear hk2
         go_upto_region 17 with fail
         refine wp_code (c:=partR Tryz.f63 17) (by kernel_rfl) ?_
         refine one_r17 (n:=nv) (c:=cv) (A:=Av) (x:=o.d) (sec:=sec) (vs:=vs) _ _ HVT.out.hcv HVT.out.lv HVT.out.vars (by have:=HDX.out.1;have:=HNV.out;omega) ?_
         intro c77 c78 c79 c80 c81 c82 c83 c84 c85 c86 c87 c88 c89 c90 c91 c92 c93 c94 c95 w8 hb8
         have HB8:=Lh hb8
         clear hb8
         cases hq:intoK vs sec o.d
         · have HN:=Lh (all_stop (l:=[intoK vs sec o.d,intoK vs sec o.e]) (k:=0) (by rw [←hq];rfl))
           rw [show (!false)=true from rfl]
           clear hq
           go_wp2
           go_ret
           refine ⟨ret_bool ?_,HB.out.trans ((HBT2.out.trans (HB8.out.mono HBT2.out.size)).mono HB.out.size)⟩
           rw [HX.out]
           have h1:=HN.out
           simp only [List.all_cons,List.all_nil,Bool.and_true,id] at h1
           rw [←Bool.and_assoc,h1]
           rfl
         · have HN:=Lh (all_next (x:=intoK vs sec o.d) HT2.out rfl hq)
           rw [show (!true)=false from rfl]
           clear hq
           go_wp2
           go_roundw
           case rel=>exact ⟨0+1,by omega,rfl,HBT.out.trans (HB8.out.mono HBT.out.size),HN⟩
           case measure=>simp [intOf]
       · clear hk2
         go_upto_region 17 with fail
         refine wp_code (c:=partR Tryz.f63 17) (by kernel_rfl) ?_
         refine one_r17 (n:=nv) (c:=cv) (A:=Av) (x:=o.e) (sec:=sec) (vs:=vs) _ _ HVT.out.hcv HVT.out.lv HVT.out.vars (by have:=HDX.out.2;have:=HNV.out;omega) ?_
         intro c77 c78 c79 c80 c81 c82 c83 c84 c85 c86 c87 c88 c89 c90 c91 c92 c93 c94 c95 w8 hb8
         have HB8:=Lh hb8
         clear hb8
         cases hq:intoK vs sec o.e
         · have HN:=Lh (all_stop (l:=[intoK vs sec o.d,intoK vs sec o.e]) (k:=1) (by rw [←hq];rfl))
           rw [show (!false)=true from rfl]
           clear hq
           go_wp2
           go_ret
           refine ⟨ret_bool ?_,HB.out.trans ((HBT2.out.trans (HB8.out.mono HBT2.out.size)).mono HB.out.size)⟩
           rw [HX.out]
           have h1:=HN.out
           simp only [List.all_cons,List.all_nil,Bool.and_true,id] at h1
           rw [←Bool.and_assoc,h1]
           rfl
         · have HN:=Lh (all_next (x:=intoK vs sec o.e) HT2.out rfl hq)
           rw [show (!true)=false from rfl]
           clear hq
           go_wp2
           go_roundw
           case rel=>exact ⟨1+1,by omega,rfl,HBT.out.trans (HB8.out.mono HBT.out.size),HN⟩
           case measure=>simp [intOf]
       · clear hk2 g0 g1
         have hi2:intoK vs sec o.d=true∧intoK vs sec o.e=true:=by
           have:=HT2.out
           simpa using this
         have hx:=HX.out
         rw [hi2.1,hi2.2,Bool.true_and,Bool.true_and] at hx
         have HX:=Lh hx
         have HAG:=Lh (HAG.out wr HBT2.out)
         have c0:=HVT.out.op.kind
         have c1:=HVT.out.op.d
         have c2:=HVT.out.op.e
         have c3:=HVT.out.op.a
         have c4:=HVT.out.op.b
         have c5:=HVT.out.op.c
         have c6:=HVT.out.op.imm
         have c7:=HVT.out.hcv
         clear hi2 hx
         cases d0:decide (o.e < 0)
         · cases d1:(o.d == o.e)
           · have d2:(o.d != o.e)=true:=by rw [bne,d1];rfl
             rw [d0,d1] at HX
             go_wp2_with (first | ((with_reducible refine HAG.out.mono ?_);rintro e w9 ⟨rfl,hb9⟩;have HB9:=Lh hb9;clear hb9) | go_in)
             go_ret
             refine ⟨ret_bool (by rw [HX.out];simp),HB.out.trans ((HBT2.out.trans (HB9.out.mono HBT2.out.size)).mono HB.out.size)⟩
           · have d2:(o.d != o.e)=false:=by rw [bne,d1];rfl
             rw [d0,d1] at HX
             go_wp2
             go_ret
             exact ⟨ret_bool (by rw [HX.out];rfl),HB.out.trans (HBT2.out.mono HB.out.size)⟩
         · rw [d0] at HX
           go_wp2_with (first | ((with_reducible refine HAG.out.mono ?_);rintro e w9 ⟨rfl,hb9⟩;have HB9:=Lh hb9;clear hb9) | go_in)
           go_ret
           refine ⟨ret_bool (by rw [HX.out];simp),HB.out.trans ((HBT2.out.trans (HB9.out.mono HBT2.out.size)).mono HB.out.size)⟩
end Go.Proofs.YtjbabpnepjhllaaGreat
namespace Go.Proofs.YtjbabpnepjhllaaGreat
open Go.RowKit
set_option maxRecDepth 100000
theorem varTo_none {vs:List KVar} {k:Nat} (h:varTo vs k=none):∀ m,k≤m→varTo vs m=none:=by
 intro m hm
 obtain ⟨d,rfl⟩:∃ d,m=k+d:=⟨m - k,by omega⟩
 induction d with
 | zero=>exact h
 | succ d ih =>
   show varTo vs (k+d+1)=none
   have:=ih (by omega)
   unfold varTo
   rw [this]
theorem varTo_le {vs:List KVar}:∀ {k n:Nat},varTo vs k=some n→n≤k:=by
 intro k
 induction k with
 | zero=>intro n h;cases h;exact Nat.le_refl _
 | succ k ih =>
   intro n h
   unfold varTo at h
   split at h
   · rename_i m v hm hv
     have:=ih hm
     split at h
     · cases h
     · split at h
       · cases h;omega
       · split at h
         · cases h
         · cases h;omega
   · cases h
theorem varTo_next {vs:List KVar} {k n:Nat} {v:KVar} (h:varTo vs k=some n) (hv:vs[k]? = some v):varTo vs (k+1)=if varOk v=false then none else if v.mode=0 then some n else if n < k∨v.secret≠!(v.mode == 1) then none else some (n+1):=by
 show (match varTo vs k,vs[k]? with | some n,some v=>if varOk v=false then none else if v.mode=0 then some n else if n < k∨v.secret≠!(v.mode == 1) then none else some (n+1) | _,_=>none)=_
 rw [h,hv]
theorem varsK_no {vs:List KVar} {k:Nat} (h:varTo vs k=none) (hk:k≤vs.length):varsK vs=false:=by
 unfold varsK;rw [varTo_none h _ hk]
set_option maxHeartbeats 4000000 in
theorem vars_any (A:Option Addr) (n c:Nat) (vs:List KVar) (w:World) (F:Nat→Prop) (hv:KVarsAt w F (.slice A n c) vs) (hF:∀ k,F k→k < w.heap.size) (hn:vs.length≤100000) :
   Calls Tryz.prog 59 #[.slice A n c] w fun e w'=>e=.returned (.bool (varsK vs))∧Below w.heap.size w w':=by
 have hnl:=(rows_len hv).1
 have HV:=Lh hv
 have HF:=Lh hF
 have HL:=Lh hnl
 have n5:n≤100000:=by omega
 clear hv hF hnl hn
 go_enter Tryz.func59,Tryz.ntmps59
 go_wp2
 go_loopw [3,4,5,8] (fun s3 _ _ s8 wr=>∃ k m:Nat,k≤n∧s8=.int .i64 k∧s3=.int .i64 m∧Hid (varTo vs k=some m)∧Below w.heap.size w wr) (fun _ _ _ s8 _=>n - (intOf s8).toNat)
 case atStart=>exact ⟨0,0,by omega,rfl,rfl,Lh rfl,Below.refl _ _⟩
 case round =>
   obtain ⟨k,m,hk,rfl,rfl,HT,hb⟩:=hrel
   have HB:=Lh hb
   have hmk:=varTo_le HT.out
   by_cases hlt:k < n
   · have d1:decide (k < n)=true:=decide_eq_true hlt
     obtain ⟨v,hv⟩:∃ v,vs[k]? = some v:=⟨_,List.getElem?_eq_getElem (by have:=HL.out;omega)⟩
     have HNX:=Lh (varTo_next HT.out hv)
     obtain ⟨g,off,rfl,hg,c0,c1,c2⟩:=KVarsAt.at_ (HV.out.keep (SameOn.of_below hb HF.out)) hv
     have i0:(0:Int)≤(k:Int):=by omega
     have i1:(k:Int) < (n:Int):=by omega
     have HB2:=Lh (hb.alloc hb.size (.cells #[.int .i64 v.limbs,.bool v.secret,.int .i64 v.mode] 60))
     clear hv hg hb
     cases d2:decide (v.limbs < 1)
     rotate_left
     · have HN:=Lh (varsK_no (k:=k+1) (by rw [HNX.out,if_pos (by unfold varOk;rw [decide_eq_false (p:=1≤v.limbs) (by have:=of_decide_eq_true d2;omega)];rfl)]) (by have:=HL.out;omega))
       go_wp2
       go_ret
       exact ⟨ret_bool HN.out.symm,HB2.out⟩
     cases d3:decide (512 < v.limbs)
     rotate_left
     · have HN:=Lh (varsK_no (k:=k+1) (by rw [HNX.out,if_pos (by unfold varOk;rw [decide_eq_false (p:=v.limbs≤512) (by have:=of_decide_eq_true d3;omega)];simp)]) (by have:=HL.out;omega))
       go_wp2
       go_ret
       exact ⟨ret_bool HN.out.symm,HB2.out⟩
     cases d4:decide (v.mode < 0)
     rotate_left
     · have HN:=Lh (varsK_no (k:=k+1) (by rw [HNX.out,if_pos (by unfold varOk;rw [decide_eq_false (p:=0≤v.mode) (by have:=of_decide_eq_true d4;omega)];simp)]) (by have:=HL.out;omega))
       go_wp2
       go_ret
       exact ⟨ret_bool HN.out.symm,HB2.out⟩
     cases d5:decide (3 < v.mode)
     rotate_left
     · have HN:=Lh (varsK_no (k:=k+1) (by rw [HNX.out,if_pos (by unfold varOk;rw [decide_eq_false (p:=v.mode≤3) (by have:=of_decide_eq_true d5;omega)];simp)]) (by have:=HL.out;omega))
       go_wp2
       go_ret
       exact ⟨ret_bool HN.out.symm,HB2.out⟩
     have hok:varOk v=true:=by
       have:=of_decide_eq_false d2
       have:=of_decide_eq_false d3
       have:=of_decide_eq_false d4
       have:=of_decide_eq_false d5
       unfold varOk
       rw [decide_eq_true (p:=1≤v.limbs) (by omega),decide_eq_true (p:=v.limbs≤512) (by omega),decide_eq_true (p:=0≤v.mode) (by omega),decide_eq_true (p:=v.mode≤3) (by omega)];rfl
     have hnx:=HNX.out
     rw [if_neg (by rw [hok];simp)] at hnx
     have HNX:=Lh hnx
     clear hnx hok
     cases d6:(v.mode == 0)
     rotate_left
     · have HN:=Lh (show varTo vs (k+1)=some m by rw [HNX.out,if_pos (by simpa using d6)])
       go_wp2
       go_roundw
       case rel=>exact ⟨k+1,m,hlt,by go_num,rfl,HN,HB2.out⟩
       case measure=>simp [intOf];omega
     have hnx:=HNX.out
     rw [if_neg (by simpa using d6)] at hnx
     have HNX:=Lh hnx
     clear hnx
     cases d7:decide (m < k)
     rotate_left
     · have HN:=Lh (varsK_no (k:=k+1) (by rw [HNX.out,if_pos (by left;simpa using d7)]) (by have:=HL.out;omega))
       go_wp2
       go_ret
       exact ⟨ret_bool HN.out.symm,HB2.out⟩
     cases d8:(v.mode == 1)
     · have d9:(v.mode != 1)=true:=by rw [bne,d8];rfl
       cases hs:v.secret
       · rw [hs] at c1 HNX HB2
         have HN:=Lh (varsK_no (k:=k+1) (by rw [HNX.out,if_pos (by right;rw [d8];decide)]) (by have:=HL.out;omega))
         go_wp2
         go_ret
         exact ⟨ret_bool HN.out.symm,HB2.out⟩
       · rw [hs] at c1 HNX HB2
         have HN:=Lh (show varTo vs (k+1)=some (m+1) by rw [HNX.out,if_neg (by rw [d8];simpa using d7)])
         go_wp2
         go_roundw
         case rel=>exact ⟨k+1,m+1,hlt,by go_num,by go_num,HN,HB2.out⟩
         case measure=>simp [intOf];omega
     · have d9:(v.mode != 1)=false:=by rw [bne,d8];rfl
       cases hs:v.secret
       · rw [hs] at c1 HNX HB2
         have HN:=Lh (show varTo vs (k+1)=some (m+1) by rw [HNX.out,if_neg (by rw [d8];simpa using d7)])
         go_wp2
         go_roundw
         case rel=>exact ⟨k+1,m+1,hlt,by go_num,by go_num,HN,HB2.out⟩
         case measure=>simp [intOf];omega
       · rw [hs] at c1 HNX HB2
         have HN:=Lh (varsK_no (k:=k+1) (by rw [HNX.out,if_pos (by right;rw [d8];decide)]) (by have:=HL.out;omega))
         go_wp2
         go_ret
         exact ⟨ret_bool HN.out.symm,HB2.out⟩
   · have d1:decide (k < n)=false:=decide_eq_false hlt
     have e:k=n:=by omega
     subst e
     have HX:=Lh (show varsK vs=(decide (1≤k) && (decide (k≤256) && decide (m≤12))) by
       have:=HT.out
       unfold varsK
       rw [←HL.out,this])
     clear hb
     go_wp2
     all_goals
       go_ret
       refine ⟨ret_bool ?_,HB.out⟩
       rw [HX.out,Bool.eq_iff_iff]
       simp
       omega
end Go.Proofs.YtjbabpnepjhllaaGreat
namespace Go.Proofs.YtjbabpnepjhllaaGreat
open Go.RowKit
def findB (n:Nat):Code→Option Code
 | .block id c=>if id=n then some (.block id c) else findB n c
 | .seq a b=>match findB n a with
   | some c=>some c
   | none=>findB n b
 | .cond _ a b=>match findB n a with
   | some c=>some c
   | none=>findB n b
 | .loop c=>findB n c
 | .scope c=>findB n c
 | .rangeFunc _ _ a b=>match findB n a with
   | some c=>some c
   | none=>findB n b
 | _=>none
noncomputable def partL (f:Func) (n:Nat):Code:=match f.body.bind (findB n) with | some (.block _ c)=>c | _=>.skip
theorem alls_next {T:Type} {p:T→Bool} {l:List T} {k:Nat} {x:T} (h:(l.take k).all p=true) (hx:l[k]? = some x) (hp:p x=true):(l.take (k+1)).all p=true:=by
 rw [List.take_add_one,hx,List.all_append,h]
 simp [hp]
theorem alls_whole {T:Type} {p:T→Bool} {l:List T} {k:Nat} (h:(l.take k).all p=true) (hk:l.length≤k):l.all p=true:=by rwa [List.take_of_length_le hk] at h
theorem alls_here {T:Type} {p:T→Bool} {l:List T} {k:Nat} {x:T} (hx:l[k]? = some x) (hp:p x=false):l.all p=false:=List.all_eq_false.2 ⟨x,List.mem_of_getElem? hx,by rw [hp];decide⟩
end Go.Proofs.YtjbabpnepjhllaaGreat
namespace Go.Proofs.YtjbabpnepjhllaaGreat
open Go.RowKit
set_option maxRecDepth 100000
variable {aD aG aH aI aJ u8 aK aL aM aN aO aP aQ aR aS aT aU aV aW aX aY aZ a7 a8 bA bB bC bD bG bH bI bJ bK bL bM bN bO bP bQ bR bS bT bU bV bW bX bY bZ b9 cA cB cC cD cE cF cG cH cI u64 cJ cK cL cM cN cO cP cQ cR cS cT cU cV cW cX cY cZ dA dB dC dD dE dF dG dH dI dJ dK dL dM dN dO dP dQ dR dS dT dU dV dW dX dY dZ eA eB eC eD eE fV fW fX fY fZ f7 f8 f9 gA gB gC gD gE gF gG gH gI gJ gK gL gM gN gO gP gQ : Value}
structure KBox (W:World) (b:Nat) (Av:Option Addr) (nv cv:Nat) (Ao:Option Addr) (no co:Nat) (Ar:Option Addr) (nr cr:Nat) (k:Krn):Prop where
 c0:W.cell? ⟨b,0,none⟩=some (.slice Av nv cv)
 c1:W.cell? ⟨b,1,none⟩=some (.slice Ao no co)
 c2:W.cell? ⟨b,2,none⟩=some (.slice Ar nr cr)
 lt:b < W.heap.size
 vars:KVarsAt W (fun k=>k < W.heap.size) (.slice Av nv cv) k.vars
 ops:KOpsAt W (fun k=>k < W.heap.size) (.slice Ao no co) k.ops
 reqs:KOpsAt W (fun k=>k < W.heap.size) (.slice Ar nr cr) k.reqs
theorem KBox.next {W w':World} {b:Nat} {Av:Option Addr} {nv cv:Nat} {Ao:Option Addr} {no co:Nat} {Ar:Option Addr} {nr cr:Nat} {k:Krn} (h:KBox W b Av nv cv Ao no co Ar nr cr k) (hb:Below W.heap.size W w'):KBox w' b Av nv cv Ao no co Ar nr cr k :=
 ⟨(hb.cell (p:=⟨b,0,none⟩) h.lt).trans h.c0,(hb.cell (p:=⟨b,1,none⟩) h.lt).trans h.c1,(hb.cell (p:=⟨b,2,none⟩) h.lt).trans h.c2,Nat.lt_of_lt_of_le h.lt hb.size,rows_next h.vars hb,rows_next h.ops hb,rows_next h.reqs hb⟩
theorem KBox.nv {W:World} {b:Nat} {Av:Option Addr} {nv cv:Nat} {Ao:Option Addr} {no co:Nat} {Ar:Option Addr} {nr cr:Nat} {k:Krn} (h:KBox W b Av nv cv Ao no co Ar nr cr k):nv=k.vars.length∧no=k.ops.length∧nr=k.reqs.length:=⟨(rows_len h.vars).1,(rows_len h.ops).1,(rows_len h.reqs).1⟩
set_option maxHeartbeats 4000000 in
theorem chk1_any (x:Int) (vs:List KVar) (A:Option Addr) (n c B:Nat) (w:World) (F:Nat→Prop) (hc:w.cell? ⟨B,0,none⟩=some (.slice A n c)) (hv:KVarsAt w F (.slice A n c) vs) (hx:x < (vs.length:Int)) :
   Calls Tryz.prog 60 #[.int .i64 x,.pointer (some ⟨B,0,none⟩)] w fun e w'=>e=.returned (.bool (outK vs x))∧Below w.heap.size w w':=by
 by_cases h0:0≤x
 rotate_left
 · have d0:decide (0≤x)=false:=decide_eq_false h0
   have HX:=Lh (show outK vs x=false by unfold outK;rw [d0];rfl)
   go_enter Tryz.func60,Tryz.ntmps60
   go_wp2
   go_ret
   exact ⟨ret_bool HX.out.symm,Below.refl _ _⟩
 have d0:decide (0≤x)=true:=decide_eq_true h0
 obtain ⟨m,hm⟩:∃ m:Nat,x=m:=⟨x.toNat,by omega⟩
 obtain ⟨v,hvv⟩:∃ v,vs[m]? = some v:=⟨_,List.getElem?_eq_getElem (by omega)⟩
 have hvk:varK vs x=v:=by rw [hm];exact varK_at hvv
 have HX:=Lh (show outK vs x=(v.mode == 3) by unfold outK;rw [d0,hvk];rfl)
 obtain ⟨g,off,rfl,hg,f0,f1,f2⟩:=hv.at_ hvv
 have hn:=(rows_len hv).1
 rw [HX.out]
 subst hm
 have i1:(m:Int) < (n:Int):=by omega
 have i0:(0:Int)≤(m:Int):=by omega
 clear hvv hvk hv hx HX
 go_enter Tryz.func60,Tryz.ntmps60
 go_wp2
 go_ret
 exact ⟨rfl,Below.refl _ _⟩
set_option maxHeartbeats 4000000 in
theorem chk2_any (x:Int) (made:List Bool) (A:Option Addr) (n c B:Nat) (w:World) (F:Nat→Prop) (hc:w.cell? ⟨B,0,none⟩=some (.slice A n c)) (hv:BitsAt w F (.slice A n c) made) (hx:0≤x∧x < (made.length:Int)) :
   Calls Tryz.prog 66 #[.int .i64 x,.pointer (some ⟨B,0,none⟩)] w fun e w'=>e=.returned (.bool (!(made.getD x.toNat false)))∧Below w.heap.size w w':=by
 obtain ⟨m,hm⟩:∃ m:Nat,x=m:=⟨x.toNat,by omega⟩
 obtain ⟨v,hvv⟩:∃ v,made[m]? = some v:=⟨_,List.getElem?_eq_getElem (by omega)⟩
 have hvk:made.getD x.toNat false=v:=by rw [hm,Int.toNat_natCast,List.getD_eq_getElem?_getD,hvv];rfl
 rw [hvk]
 obtain ⟨g,off,rfl,hg,f0⟩:=hv.at_ hvv
 have hn:=(rows_len hv).1
 subst hm
 have i1:(m:Int) < (n:Int):=by omega
 have i0:(0:Int)≤(m:Int):=by omega
 clear hvv hvk hv hx
 go_enter Tryz.func66,Tryz.ntmps66
 go_wp2
 go_ret
 exact ⟨rfl,Below.refl _ _⟩
theorem need_in {n:Nat} {o:KOp} (h:needK n o=true):(0≤o.a∧o.a < (n:Int))∧((0≤o.b∧o.b < (n:Int))∨o.b = -1):=by
 unfold needK thereK at h
 simp only [Bool.and_eq_true,decide_eq_true_eq] at h
 refine ⟨h.2.2.2.1,?_⟩
 have h1:=h.2.2.2.2
 split at h1
 · exact .inl (by simpa using h1)
 · split at h1
   · exact .inr (by simpa using h1)
   · cases h1
set_option maxHeartbeats 8000000 in
theorem chk_l0 {Av Ao Ar:Option Addr} {nv cv no co nr cr b0:Nat} {k:Krn} (w:World) (Q:Exit→Act→World→Prop) (hk:KBox w b0 Av nv cv Ao no co Ar nr cr k) (hok:k.reqs.length≤4096∧k.vars.length≤100000)
   (k1:k.reqs.all (reqK k.vars)=true→∀ (aB gR gS gT gU gV eF eG eH eI eJ eK eL eM eN eO eP eQ eR eS eT eU eV eW eX eY eZ fA:Value) (w':World),Below w.heap.size w w'→Q ((.exit 0)) ⟨#[aD,.pointer (some ⟨b0,0,none⟩),.int .i64 0,.func (.func 60) #[] #[.pointer (some ⟨b0,0,none⟩)],aG,aB,aI,aJ,u8,aK,aL,aM,aN,aO,aP,aQ,aR,aS,aT,aU,aV,aW,aX,aY,aZ,a7,a8,bA,bB,bC,bD,.slice Ar nr cr,.int .i64 (nr:Nat),gR,gS,gT,gU,gV,eF,eG,eH,eI,eJ,eK,eL,eM,eN,eO,eP,eQ,eR,eS,eT,eU,eV,eW,eX,eY,eZ,fA,cF,cG,cH,cI,u64,cJ,cK,cL,cM,cN,cO,cP,cQ,cR,cS,cT,cU,cV,cW,cX,cY,cZ,dA,dB,dC,dD,dE,dF,dG,dH,dI,dJ,dK,dL,dM,dN,dO,dP,dQ,dR,dS,dT,dU,dV,dW,dX,dY,dZ,eA,eB,eC,eD,eE,fV,fW,fX,fY,fZ,f7,f8,f9,gA,gB,gC,gD,gE,gF,gG,gH,gI,gJ,gK,gL,gM,gN,gO,gP,gQ],[]⟩ w') (k2:k.reqs.all (reqK k.vars)=false→∀ (aB gR gS gT gU gV eF eG eH eI eJ eK eL eM eN eO eP eQ eR eS eT eU eV eW eX eY eZ fA:Value) (w':World),Below w.heap.size w w'→Q (.ret) ⟨#[aD,.pointer (some ⟨b0,0,none⟩),.int .i64 2,.func (.func 60) #[] #[.pointer (some ⟨b0,0,none⟩)],aG,aB,aI,aJ,u8,aK,aL,aM,aN,aO,aP,aQ,aR,aS,aT,aU,aV,aW,aX,aY,aZ,a7,a8,bA,bB,bC,bD,.slice Ar nr cr,.int .i64 (nr:Nat),gR,gS,gT,gU,gV,eF,eG,eH,eI,eJ,eK,eL,eM,eN,eO,eP,eQ,eR,eS,eT,eU,eV,eW,eX,eY,eZ,fA,cF,cG,cH,cI,u64,cJ,cK,cL,cM,cN,cO,cP,cQ,cR,cS,cT,cU,cV,cW,cX,cY,cZ,dA,dB,dC,dD,dE,dF,dG,dH,dI,dJ,dK,dL,dM,dN,dO,dP,dQ,dR,dS,dT,dU,dV,dW,dX,dY,dZ,eA,eB,eC,eD,eE,fV,fW,fX,fY,fZ,f7,f8,f9,gA,gB,gC,gD,gE,gF,gG,gH,gI,gJ,gK,gL,gM,gN,gO,gP,gQ],[]⟩ w'):(partL Tryz.f37 0).wp Tryz.prog Q ⟨#[aD,.pointer (some ⟨b0,0,none⟩),.int .i64 0,.func (.func 60) #[] #[.pointer (some ⟨b0,0,none⟩)],aG,aH,aI,aJ,u8,aK,aL,aM,aN,aO,aP,aQ,aR,aS,aT,aU,aV,aW,aX,aY,aZ,a7,a8,bA,bB,bC,bD,.slice Ar nr cr,.int .i64 (nr:Nat),.int .i64 0,bG,bH,bI,bJ,bK,bL,bM,bN,bO,bP,bQ,bR,bS,bT,bU,bV,bW,bX,bY,bZ,b9,cA,cB,cC,cD,cE,cF,cG,cH,cI,u64,cJ,cK,cL,cM,cN,cO,cP,cQ,cR,cS,cT,cU,cV,cW,cX,cY,cZ,dA,dB,dC,dD,dE,dF,dG,dH,dI,dJ,dK,dL,dM,dN,dO,dP,dQ,dR,dS,dT,dU,dV,dW,dX,dY,dZ,eA,eB,eC,eD,eE,fV,fW,fX,fY,fZ,f7,f8,f9,gA,gB,gC,gD,gE,gF,gG,gH,gI,gJ,gK,gL,gM,gN,gO,gP,gQ],[]⟩ w:=by
 have HK:=Lh hk
 have HOK:=Lh hok
 have K1:=Lh k1
 have K2:=Lh k2
 have HNR:=Lh hk.nv.2.2
 have HNV:=Lh hk.nv.1
 have hnr:nr≤100000:=by have:=hk.nv.2.2;omega
 clear hk hok k1 k2
 conv=>arg 2;whnf
 go_wp2
 go_loopw [2,5,33] (fun s2 _ i wr=>∃ j:Nat,j≤nr∧i=.int .i64 j∧s2=.int .i64 0∧Below w.heap.size w wr∧Hid ((k.reqs.take j).all (reqK k.vars)=true)) (fun _ _ i _=>nr - (intOf i).toNat)
 case atStart=>exact ⟨0,by omega,rfl,rfl,Below.refl _ _,Lh rfl⟩
 case round =>
   obtain ⟨j,hj,rfl,rfl,hb,HT⟩:=hrel
   have HB:=Lh hb
   have HKR:=Lh (HK.out.next hb)
   by_cases hlt:j < nr
   · have d1:decide (j < nr)=true:=decide_eq_true hlt
     obtain ⟨o,hx⟩:∃ o,k.reqs[j]? = some o:=⟨_,List.getElem?_eq_getElem (by have:=HNR.out;omega)⟩
     obtain ⟨g,off,hA,hg,x0,x1,x2,x3,x4,x5,x6⟩:=HKR.out.reqs.at_ hx
     subst hA
     have i0:(0:Int)≤(j:Int):=by omega
     have i1:(j:Int) < (nr:Int):=by omega
     have HX:=Lh hx
     clear hb hg hx
     go_upto_region 7 with (first | go_in)
     obtain ⟨WO,hWO⟩:∃ W,W=wr.alloc (.cells #[.int .i64 o.kind,.int .i64 o.d,.int .i64 o.e,.int .i64 o.a,.int .i64 o.b,.int .i64 o.c,.int .u64 o.imm] 43):=⟨_,rfl⟩
     rw [←hWO]
     have hbo:Below wr.heap.size wr WO:=by rw [hWO];exact (Below.refl _ _).alloc (Nat.le_refl _) _
     have hob:OpBox WO wr.heap.size o:=OpBox.of (t:=43) (fr:=(0,0)) (by rw [hWO];exact heap_alloc_new wr _)
     have hz:WO.heap.size=wr.heap.size+1:=by rw [hWO];simp
     have HO:=Lh hob
     have HBO:=Lh (HB.out.trans (hbo.mono HB.out.size))
     have HKO:=Lh (HKR.out.next hbo)
     have HND:=Lh (fun w1=>need_any Av nv cv o w1)
     have HZ:=Lh hz
     obtain ⟨bo,hbo2⟩:∃ b,b=wr.heap.size:=⟨_,rfl⟩
     rw [←hbo2] at HO HZ ⊢
     have y0:=HO.out.kind
     have y1:=HO.out.d
     have y2:=HO.out.e
     have y3:=HO.out.a
     have y4:=HO.out.b
     have y5:=HO.out.c
     have y6:=HO.out.imm
     have p0:=HKO.out.c0
     clear hWO hbo hob hz x0 x1 x2 x3 x4 x5 x6 hbo2
     cases d2:(o.kind == 17)
     · have d3:(o.kind != 17)=true:=by rw [bne,d2];rfl
       have HN:=Lh (alls_here (p:=reqK k.vars) HX.out (by unfold reqK;rw [d2];rfl))
       go_wp2
       exact K2.out HN.out _ _ _ _ _ _ _ _ _ _ _ _ _ _ _ _ _ _ _ _ _ _ _ _ _ _ _ _ _ HBO.out
     have d3:(o.kind != 17)=false:=by rw [bne,d2];rfl
     cases d4:needK nv o
     · have HN:=Lh (alls_here (p:=reqK k.vars) HX.out (by unfold reqK;rw [d2,←HNV.out,d4];rfl))
       rw [d4] at HND
       clear d2 d4
       go_wp2_with (first | ((with_reducible refine (HND.out _).mono ?_);rintro e w1 ⟨rfl,hb1⟩;have HB1:=Lh (HBO.out.trans (hb1.mono HBO.out.size));clear hb1) | go_in)
       exact K2.out HN.out _ _ _ _ _ _ _ _ _ _ _ _ _ _ _ _ _ _ _ _ _ _ _ _ _ _ _ _ _ HB1.out
     have hin:=need_in d4
     have HIN:=Lh hin
     rw [d4] at HND
     have HQ:=Lh (show reqK k.vars o=(!outK k.vars o.a && !outK k.vars o.b) by unfold reqK;rw [d2,←HNV.out,d4];rfl)
     have HC1:=Lh (fun (w1:World) (h1:Below WO.heap.size WO w1)=>chk1_any o.a k.vars Av nv cv b0 w1 _ (HKO.out.next h1).c0 (HKO.out.next h1).vars (by have:=HIN.out.1;have:=HNV.out;omega))
     have HC2:=Lh (fun (w1:World) (h1:Below WO.heap.size WO w1)=>chk1_any o.b k.vars Av nv cv b0 w1 _ (HKO.out.next h1).c0 (HKO.out.next h1).vars (by have:=HIN.out.2;have:=HIN.out.1;have:=HNV.out;omega))
     clear d2 d4 hin
     generalize hqa:outK k.vars o.a=qa at HC1 HQ
     generalize hqb:outK k.vars o.b=qb at HC2 HQ
     clear hqa hqb
     cases qa
     · cases qb
       · have HN:=Lh (alls_next HT.out HX.out HQ.out)
         go_wp2_with (first
           | ((with_reducible refine (HND.out _).mono ?_);rintro e w1 ⟨rfl,hb1⟩;have HB1:=Lh hb1;have y3:=(hb1.cell (p:=⟨bo,3,none⟩) (by have:=HZ.out;simp only;omega)).trans HO.out.a;clear hb1)
           | ((with_reducible refine (HC1.out w1 HB1.out).mono ?_);rintro e w2 ⟨rfl,hb2⟩;have HB2:=Lh (HB1.out.trans (hb2.mono HB1.out.size));have y4:=(HB2.out.cell (p:=⟨bo,4,none⟩) (by have:=HZ.out;simp only;omega)).trans HO.out.b;clear hb2)
           | ((with_reducible refine (HC2.out w2 HB2.out).mono ?_);rintro e w3 ⟨rfl,hb3⟩)
           | go_in)
         go_roundw
         case rel=>exact ⟨j+1,hlt,by go_num,rfl,HBO.out.trans ((HB2.out.trans (hb3.mono HB2.out.size)).mono HBO.out.size),HN⟩
         case measure=>simp [intOf];omega
       · have HN:=Lh (alls_here (p:=reqK k.vars) HX.out HQ.out)
         go_wp2_with (first
           | ((with_reducible refine (HND.out _).mono ?_);rintro e w1 ⟨rfl,hb1⟩;have HB1:=Lh hb1;have y3:=(hb1.cell (p:=⟨bo,3,none⟩) (by have:=HZ.out;simp only;omega)).trans HO.out.a;clear hb1)
           | ((with_reducible refine (HC1.out w1 HB1.out).mono ?_);rintro e w2 ⟨rfl,hb2⟩;have HB2:=Lh (HB1.out.trans (hb2.mono HB1.out.size));have y4:=(HB2.out.cell (p:=⟨bo,4,none⟩) (by have:=HZ.out;simp only;omega)).trans HO.out.b;clear hb2)
           | ((with_reducible refine (HC2.out w2 HB2.out).mono ?_);rintro e w3 ⟨rfl,hb3⟩)
           | go_in)
         exact K2.out HN.out _ _ _ _ _ _ _ _ _ _ _ _ _ _ _ _ _ _ _ _ _ _ _ _ _ _ _ _ _ (HBO.out.trans ((HB2.out.trans (hb3.mono HB2.out.size)).mono HBO.out.size))
     · have HN:=Lh (alls_here (p:=reqK k.vars) HX.out HQ.out)
       go_wp2_with (first
         | ((with_reducible refine (HND.out _).mono ?_);rintro e w1 ⟨rfl,hb1⟩;have HB1:=Lh hb1;have y3:=(hb1.cell (p:=⟨bo,3,none⟩) (by have:=HZ.out;simp only;omega)).trans HO.out.a;clear hb1)
         | ((with_reducible refine (HC1.out w1 HB1.out).mono ?_);rintro e w2 ⟨rfl,hb2⟩;have HB2:=Lh (HB1.out.trans (hb2.mono HB1.out.size));have y4:=(HB2.out.cell (p:=⟨bo,4,none⟩) (by have:=HZ.out;simp only;omega)).trans HO.out.b;clear hb2)
         | ((with_reducible refine (HC2.out w2 HB2.out).mono ?_);rintro e w3 ⟨rfl,hb3⟩)
         | go_in)
       exact K2.out HN.out _ _ _ _ _ _ _ _ _ _ _ _ _ _ _ _ _ _ _ _ _ _ _ _ _ _ _ _ _ (HBO.out.trans (HB2.out.mono HBO.out.size))
   · have d1:decide (j < nr)=false:=decide_eq_false hlt
     have HN:=Lh (alls_whole HT.out (by have:=HNR.out;omega))
     clear hb
     go_wp2
     exact K1.out HN.out _ _ _ _ _ _ _ _ _ _ _ _ _ _ _ _ _ _ _ _ _ _ _ _ _ _ _ _ _ HB.out
end Go.Proofs.YtjbabpnepjhllaaGreat
