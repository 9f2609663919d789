/- Part 7 of a claim; what it proves stands in its last text. -/
import Derived.Test.YtppoiahhaclleaaDoorAr2
namespace Go.Proofs.YtppoiahhaclleaaDoor
open Go.RowKit
set_option maxRecDepth 100000
set_option maxHeartbeats 8000000 in
theorem Rfields_1 (p:LP) (Ab Ao:Option Addr) (nb cb no co:Nat) (o:LOp) (w:World) (hk:o.kind=1) :
   Calls Tryd.prog 27 #[.agg #[.int .i64 p.regs,.slice Ab nb cb,.slice Ao no co],.agg (opRow o).toArray] w fun e w'=>e=.returned (.bool (fieldsF p o))∧Below w.heap.size w w':=by
 obtain ⟨W,hW,hbW,hzW,kp,ko⟩:=two_rows w [.int .i64 p.regs,.slice Ab nb cb,.slice Ao no co] o 25 47
 have HW:=Lh hW
 have HB:=Lh hbW
 have KP:=Lh kp
 have KO:=Lh ko
 have L1:=Lh (show w.heap.size+1 < W.heap.size by omega)
 have c0:W.cell? ⟨w.heap.size+1,0,none⟩=some (.int .i64 o.kind):=by simp only [World.cell?,ko];rfl
 have c6:W.cell? ⟨w.heap.size+1,6,none⟩=some (.int .i64 o.buf):=by simp only [World.cell?,ko];rfl
 have c7:W.cell? ⟨w.heap.size+1,7,none⟩=some (.int .u64 o.imm):=by simp only [World.cell?,ko];rfl
 clear hW hbW hzW kp ko
 rw [hk] at c0
 obtain ⟨m,hm⟩:∃ m,o.imm=m:=⟨_,rfl⟩
 obtain ⟨z,hz⟩:∃ z,o.buf=z:=⟨_,rfl⟩
 obtain ⟨X,hX⟩:∃ X,(regIs p o.d true && (regIs p o.e false && ((regIs p o.a false || (false && o.a == -1)) && (regIs p o.b false && (regIs p o.c false && !(false && o.d == o.e))))))=X:=⟨_,rfl⟩
 have hf:fieldsF p o=(X && (z == 0 && true)):=by
   rw [fields_split (by omega) (by omega),←hX,←hz]
   unfold regsB bufOk numOk
   rw [hk]
   rfl
 obtain ⟨R,hR⟩:∃ R,fieldsF p o=R:=⟨_,rfl⟩
 rw [hR]
 rw [hR] at hf
 have HR:=Lh hf
 clear hR
 rw [hm] at c7
 rw [hz] at c6
 have HX:=Lh hX
 have C67:=Lh (And.intro c6 c7)
 clear hf hm hz hX hk c6 c7
 go_enter Tryd.func27,Tryd.ntmps27
 go_upto_region 1 with fail
 rw [←HW.out]
 go_upto_region 10 with fail
 refine wp_code (c:=partR Tryd.f27 10) (by kernel_rfl) ?_
 refine rfields_r10 p Ab Ao nb cb no co o _ _ false true false false false false _ _ _ _ _ _ _ _ _ _ _ _ _ _ _ _ _ _ _ _ _ _ _ _ _ _ _ _ _ _ _ _ _ _ _ _ _ _ _ _ _ _ _ _ _ _ _ _ _ _ _ _ _ _ _ _ _ _ _ _ _ _ _ _ _ _ _ _ _ _ _ _ _ _ _ _ _ _ _ _ _ _ _ _ _ _ _ _ _ _ _ _ _ _ _ _ _ _ _ _ _ _ _ _ _ _ _ _ _ _ _ _ _ _ _ _ _ _ _ _ _ _ _ _ _ _ _ _ _ _ _ _ _ _ _ _ _ _ _ _ _ _ _ _ _ _ _ _ _ _ _ _ _ _ _ _ _ _ _ _ _ _ _ _ _ _ _ _ _ _ _ _ _ _ _ _ _ _ _ _ _ _ _ _ _ _ _ _ _ _ _ _ _ _ _ _ _ _ _ _ _ _ _ _ _ _ KP.out KO.out ?_
 intro _ _ _ _ _ _ _ _ _ _ _ _ _ _ _ _ _ _ _ _ _ _ _ _ _ _ _ _ _ _ _ _ _ _ _ _ _ _ _ _ _ _ _ _ _ _ _ _ _ _ _ _ _ _ _ _ w2 hb2
 rw [HX.out]
 have c6:=(hb2.cell (p:=⟨w.heap.size+1,6,none⟩) L1.out).trans C67.out.1
 have c7:=(hb2.cell (p:=⟨w.heap.size+1,7,none⟩) L1.out).trans C67.out.2
 have HB2:=Lh hb2
 clear hb2 c0
 cases X
 · go_wp2
   go_ret
   refine ⟨ret_bool ?_,HB.out.trans (HB2.out.mono HB.out.size)⟩
   rw [HR.out]
   skip
   rfl
 cases hz0:(z == 0)
 · have hz1:(z != 0)=true:=by simpa using hz0
   have HZ:=Lh hz0
   go_wp2
   go_ret
   refine ⟨ret_bool ?_,HB.out.trans (HB2.out.mono HB.out.size)⟩
   rw [HR.out]
   rw [HZ.out]
   rfl
 · have hz1:(z != 0)=false:=by simpa using hz0
   have HZ:=Lh hz0
   go_wp2
   go_ret
   refine ⟨ret_bool ?_,HB.out.trans (HB2.out.mono HB.out.size)⟩
   rw [HR.out]
   rw [HZ.out]
   rfl
set_option maxHeartbeats 8000000 in
theorem Rfields_2 (p:LP) (Ab Ao:Option Addr) (nb cb no co:Nat) (o:LOp) (w:World) (hk:o.kind=2) :
   Calls Tryd.prog 27 #[.agg #[.int .i64 p.regs,.slice Ab nb cb,.slice Ao no co],.agg (opRow o).toArray] w fun e w'=>e=.returned (.bool (fieldsF p o))∧Below w.heap.size w w':=by
 obtain ⟨W,hW,hbW,hzW,kp,ko⟩:=two_rows w [.int .i64 p.regs,.slice Ab nb cb,.slice Ao no co] o 25 47
 have HW:=Lh hW
 have HB:=Lh hbW
 have KP:=Lh kp
 have KO:=Lh ko
 have L1:=Lh (show w.heap.size+1 < W.heap.size by omega)
 have c0:W.cell? ⟨w.heap.size+1,0,none⟩=some (.int .i64 o.kind):=by simp only [World.cell?,ko];rfl
 have c6:W.cell? ⟨w.heap.size+1,6,none⟩=some (.int .i64 o.buf):=by simp only [World.cell?,ko];rfl
 have c7:W.cell? ⟨w.heap.size+1,7,none⟩=some (.int .u64 o.imm):=by simp only [World.cell?,ko];rfl
 clear hW hbW hzW kp ko
 rw [hk] at c0
 obtain ⟨m,hm⟩:∃ m,o.imm=m:=⟨_,rfl⟩
 obtain ⟨z,hz⟩:∃ z,o.buf=z:=⟨_,rfl⟩
 obtain ⟨X,hX⟩:∃ X,(regIs p o.d true && (regIs p o.e false && ((regIs p o.a true || (false && o.a == -1)) && (regIs p o.b false && (regIs p o.c false && !(false && o.d == o.e))))))=X:=⟨_,rfl⟩
 have hf:fieldsF p o=(X && (z == 0 && decide (m=0))):=by
   rw [fields_split (by omega) (by omega),←hX,←hm,←hz]
   unfold regsB bufOk numOk
   rw [hk]
   rfl
 obtain ⟨R,hR⟩:∃ R,fieldsF p o=R:=⟨_,rfl⟩
 rw [hR]
 rw [hR] at hf
 have HR:=Lh hf
 clear hR
 rw [hm] at c7
 rw [hz] at c6
 have HX:=Lh hX
 have C67:=Lh (And.intro c6 c7)
 clear hf hm hz hX hk c6 c7
 go_enter Tryd.func27,Tryd.ntmps27
 go_upto_region 1 with fail
 rw [←HW.out]
 go_upto_region 10 with fail
 refine wp_code (c:=partR Tryd.f27 10) (by kernel_rfl) ?_
 refine rfields_r10 p Ab Ao nb cb no co o _ _ false true false true false false _ _ _ _ _ _ _ _ _ _ _ _ _ _ _ _ _ _ _ _ _ _ _ _ _ _ _ _ _ _ _ _ _ _ _ _ _ _ _ _ _ _ _ _ _ _ _ _ _ _ _ _ _ _ _ _ _ _ _ _ _ _ _ _ _ _ _ _ _ _ _ _ _ _ _ _ _ _ _ _ _ _ _ _ _ _ _ _ _ _ _ _ _ _ _ _ _ _ _ _ _ _ _ _ _ _ _ _ _ _ _ _ _ _ _ _ _ _ _ _ _ _ _ _ _ _ _ _ _ _ _ _ _ _ _ _ _ _ _ _ _ _ _ _ _ _ _ _ _ _ _ _ _ _ _ _ _ _ _ _ _ _ _ _ _ _ _ _ _ _ _ _ _ _ _ _ _ _ _ _ _ _ _ _ _ _ _ _ _ _ _ _ _ _ _ _ _ _ _ _ _ _ _ _ _ _ KP.out KO.out ?_
 intro _ _ _ _ _ _ _ _ _ _ _ _ _ _ _ _ _ _ _ _ _ _ _ _ _ _ _ _ _ _ _ _ _ _ _ _ _ _ _ _ _ _ _ _ _ _ _ _ _ _ _ _ _ _ _ _ w2 hb2
 rw [HX.out]
 have c6:=(hb2.cell (p:=⟨w.heap.size+1,6,none⟩) L1.out).trans C67.out.1
 have c7:=(hb2.cell (p:=⟨w.heap.size+1,7,none⟩) L1.out).trans C67.out.2
 have HB2:=Lh hb2
 clear hb2 c0
 cases X
 · go_wp2
   go_ret
   refine ⟨ret_bool ?_,HB.out.trans (HB2.out.mono HB.out.size)⟩
   rw [HR.out]
   skip
   rfl
 cases hz0:(z == 0)
 · have hz1:(z != 0)=true:=by simpa using hz0
   have HZ:=Lh hz0
   go_wp2
   go_ret
   refine ⟨ret_bool ?_,HB.out.trans (HB2.out.mono HB.out.size)⟩
   rw [HR.out]
   rw [HZ.out]
   rfl
 · have hz1:(z != 0)=false:=by simpa using hz0
   have HZ:=Lh hz0
   by_cases m0:m=0
   · have d0:((m:Int) == 0)=true:=by simpa using m0
     have M0:=Lh m0
     clear m0
     go_wp2
     go_ret
     refine ⟨ret_bool ?_,HB.out.trans (HB2.out.mono HB.out.size)⟩
     rw [HR.out]
     rw [HZ.out,decide_eq_true M0.out]
     rfl
   · have d0:((m:Int) == 0)=false:=by simpa using m0
     have M0:=Lh m0
     clear m0
     go_wp2
     go_ret
     refine ⟨ret_bool ?_,HB.out.trans (HB2.out.mono HB.out.size)⟩
     rw [HR.out]
     rw [HZ.out,decide_eq_false M0.out]
     rfl
set_option maxHeartbeats 8000000 in
theorem Rfields_3 (p:LP) (Ab Ao:Option Addr) (nb cb no co:Nat) (o:LOp) (w:World) (hk:o.kind=3) :
   Calls Tryd.prog 27 #[.agg #[.int .i64 p.regs,.slice Ab nb cb,.slice Ao no co],.agg (opRow o).toArray] w fun e w'=>e=.returned (.bool (fieldsF p o))∧Below w.heap.size w w':=by
 obtain ⟨W,hW,hbW,hzW,kp,ko⟩:=two_rows w [.int .i64 p.regs,.slice Ab nb cb,.slice Ao no co] o 25 47
 have HW:=Lh hW
 have HB:=Lh hbW
 have KP:=Lh kp
 have KO:=Lh ko
 have L1:=Lh (show w.heap.size+1 < W.heap.size by omega)
 have c0:W.cell? ⟨w.heap.size+1,0,none⟩=some (.int .i64 o.kind):=by simp only [World.cell?,ko];rfl
 have c6:W.cell? ⟨w.heap.size+1,6,none⟩=some (.int .i64 o.buf):=by simp only [World.cell?,ko];rfl
 have c7:W.cell? ⟨w.heap.size+1,7,none⟩=some (.int .u64 o.imm):=by simp only [World.cell?,ko];rfl
 clear hW hbW hzW kp ko
 rw [hk] at c0
 obtain ⟨m,hm⟩:∃ m,o.imm=m:=⟨_,rfl⟩
 obtain ⟨z,hz⟩:∃ z,o.buf=z:=⟨_,rfl⟩
 obtain ⟨X,hX⟩:∃ X,(regIs p o.d true && (regIs p o.e false && ((regIs p o.a true || (false && o.a == -1)) && (regIs p o.b true && (regIs p o.c false && !(false && o.d == o.e))))))=X:=⟨_,rfl⟩
 have hf:fieldsF p o=(X && (z == 0 && decide (m=0))):=by
   rw [fields_split (by omega) (by omega),←hX,←hm,←hz]
   unfold regsB bufOk numOk
   rw [hk]
   rfl
 obtain ⟨R,hR⟩:∃ R,fieldsF p o=R:=⟨_,rfl⟩
 rw [hR]
 rw [hR] at hf
 have HR:=Lh hf
 clear hR
 rw [hm] at c7
 rw [hz] at c6
 have HX:=Lh hX
 have C67:=Lh (And.intro c6 c7)
 clear hf hm hz hX hk c6 c7
 go_enter Tryd.func27,Tryd.ntmps27
 go_upto_region 1 with fail
 rw [←HW.out]
 go_upto_region 10 with fail
 refine wp_code (c:=partR Tryd.f27 10) (by kernel_rfl) ?_
 refine rfields_r10 p Ab Ao nb cb no co o _ _ false true false true true false _ _ _ _ _ _ _ _ _ _ _ _ _ _ _ _ _ _ _ _ _ _ _ _ _ _ _ _ _ _ _ _ _ _ _ _ _ _ _ _ _ _ _ _ _ _ _ _ _ _ _ _ _ _ _ _ _ _ _ _ _ _ _ _ _ _ _ _ _ _ _ _ _ _ _ _ _ _ _ _ _ _ _ _ _ _ _ _ _ _ _ _ _ _ _ _ _ _ _ _ _ _ _ _ _ _ _ _ _ _ _ _ _ _ _ _ _ _ _ _ _ _ _ _ _ _ _ _ _ _ _ _ _ _ _ _ _ _ _ _ _ _ _ _ _ _ _ _ _ _ _ _ _ _ _ _ _ _ _ _ _ _ _ _ _ _ _ _ _ _ _ _ _ _ _ _ _ _ _ _ _ _ _ _ _ _ _ _ _ _ _ _ _ _ _ _ _ _ _ _ _ _ _ _ _ _ KP.out KO.out ?_
 intro _ _ _ _ _ _ _ _ _ _ _ _ _ _ _ _ _ _ _ _ _ _ _ _ _ _ _ _ _ _ _ _ _ _ _ _ _ _ _ _ _ _ _ _ _ _ _ _ _ _ _ _ _ _ _ _ w2 hb2
 rw [HX.out]
 have c6:=(hb2.cell (p:=⟨w.heap.size+1,6,none⟩) L1.out).trans C67.out.1
 have c7:=(hb2.cell (p:=⟨w.heap.size+1,7,none⟩) L1.out).trans C67.out.2
 have HB2:=Lh hb2
 clear hb2 c0
 cases X
 · go_wp2
   go_ret
   refine ⟨ret_bool ?_,HB.out.trans (HB2.out.mono HB.out.size)⟩
   rw [HR.out]
   skip
   rfl
 cases hz0:(z == 0)
 · have hz1:(z != 0)=true:=by simpa using hz0
   have HZ:=Lh hz0
   go_wp2
   go_ret
   refine ⟨ret_bool ?_,HB.out.trans (HB2.out.mono HB.out.size)⟩
   rw [HR.out]
   rw [HZ.out]
   rfl
 · have hz1:(z != 0)=false:=by simpa using hz0
   have HZ:=Lh hz0
   by_cases m0:m=0
   · have d0:((m:Int) == 0)=true:=by simpa using m0
     have M0:=Lh m0
     clear m0
     go_wp2
     go_ret
     refine ⟨ret_bool ?_,HB.out.trans (HB2.out.mono HB.out.size)⟩
     rw [HR.out]
     rw [HZ.out,decide_eq_true M0.out]
     rfl
   · have d0:((m:Int) == 0)=false:=by simpa using m0
     have M0:=Lh m0
     clear m0
     go_wp2
     go_ret
     refine ⟨ret_bool ?_,HB.out.trans (HB2.out.mono HB.out.size)⟩
     rw [HR.out]
     rw [HZ.out,decide_eq_false M0.out]
     rfl
set_option maxHeartbeats 8000000 in
theorem Rfields_4 (p:LP) (Ab Ao:Option Addr) (nb cb no co:Nat) (o:LOp) (w:World) (hk:o.kind=4) :
   Calls Tryd.prog 27 #[.agg #[.int .i64 p.regs,.slice Ab nb cb,.slice Ao no co],.agg (opRow o).toArray] w fun e w'=>e=.returned (.bool (fieldsF p o))∧Below w.heap.size w w':=by
 obtain ⟨W,hW,hbW,hzW,kp,ko⟩:=two_rows w [.int .i64 p.regs,.slice Ab nb cb,.slice Ao no co] o 25 47
 have HW:=Lh hW
 have HB:=Lh hbW
 have KP:=Lh kp
 have KO:=Lh ko
 have L1:=Lh (show w.heap.size+1 < W.heap.size by omega)
 have c0:W.cell? ⟨w.heap.size+1,0,none⟩=some (.int .i64 o.kind):=by simp only [World.cell?,ko];rfl
 have c6:W.cell? ⟨w.heap.size+1,6,none⟩=some (.int .i64 o.buf):=by simp only [World.cell?,ko];rfl
 have c7:W.cell? ⟨w.heap.size+1,7,none⟩=some (.int .u64 o.imm):=by simp only [World.cell?,ko];rfl
 clear hW hbW hzW kp ko
 rw [hk] at c0
 obtain ⟨m,hm⟩:∃ m,o.imm=m:=⟨_,rfl⟩
 obtain ⟨z,hz⟩:∃ z,o.buf=z:=⟨_,rfl⟩
 obtain ⟨X,hX⟩:∃ X,(regIs p o.d true && (regIs p o.e false && ((regIs p o.a true || (false && o.a == -1)) && (regIs p o.b true && (regIs p o.c false && !(false && o.d == o.e))))))=X:=⟨_,rfl⟩
 have hf:fieldsF p o=(X && (z == 0 && decide (m=0))):=by
   rw [fields_split (by omega) (by omega),←hX,←hm,←hz]
   unfold regsB bufOk numOk
   rw [hk]
   rfl
 obtain ⟨R,hR⟩:∃ R,fieldsF p o=R:=⟨_,rfl⟩
 rw [hR]
 rw [hR] at hf
 have HR:=Lh hf
 clear hR
 rw [hm] at c7
 rw [hz] at c6
 have HX:=Lh hX
 have C67:=Lh (And.intro c6 c7)
 clear hf hm hz hX hk c6 c7
 go_enter Tryd.func27,Tryd.ntmps27
 go_upto_region 1 with fail
 rw [←HW.out]
 go_upto_region 10 with fail
 refine wp_code (c:=partR Tryd.f27 10) (by kernel_rfl) ?_
 refine rfields_r10 p Ab Ao nb cb no co o _ _ false true false true true false _ _ _ _ _ _ _ _ _ _ _ _ _ _ _ _ _ _ _ _ _ _ _ _ _ _ _ _ _ _ _ _ _ _ _ _ _ _ _ _ _ _ _ _ _ _ _ _ _ _ _ _ _ _ _ _ _ _ _ _ _ _ _ _ _ _ _ _ _ _ _ _ _ _ _ _ _ _ _ _ _ _ _ _ _ _ _ _ _ _ _ _ _ _ _ _ _ _ _ _ _ _ _ _ _ _ _ _ _ _ _ _ _ _ _ _ _ _ _ _ _ _ _ _ _ _ _ _ _ _ _ _ _ _ _ _ _ _ _ _ _ _ _ _ _ _ _ _ _ _ _ _ _ _ _ _ _ _ _ _ _ _ _ _ _ _ _ _ _ _ _ _ _ _ _ _ _ _ _ _ _ _ _ _ _ _ _ _ _ _ _ _ _ _ _ _ _ _ _ _ _ _ _ _ _ _ KP.out KO.out ?_
 intro _ _ _ _ _ _ _ _ _ _ _ _ _ _ _ _ _ _ _ _ _ _ _ _ _ _ _ _ _ _ _ _ _ _ _ _ _ _ _ _ _ _ _ _ _ _ _ _ _ _ _ _ _ _ _ _ w2 hb2
 rw [HX.out]
 have c6:=(hb2.cell (p:=⟨w.heap.size+1,6,none⟩) L1.out).trans C67.out.1
 have c7:=(hb2.cell (p:=⟨w.heap.size+1,7,none⟩) L1.out).trans C67.out.2
 have HB2:=Lh hb2
 clear hb2 c0
 cases X
 · go_wp2
   go_ret
   refine ⟨ret_bool ?_,HB.out.trans (HB2.out.mono HB.out.size)⟩
   rw [HR.out]
   skip
   rfl
 cases hz0:(z == 0)
 · have hz1:(z != 0)=true:=by simpa using hz0
   have HZ:=Lh hz0
   go_wp2
   go_ret
   refine ⟨ret_bool ?_,HB.out.trans (HB2.out.mono HB.out.size)⟩
   rw [HR.out]
   rw [HZ.out]
   rfl
 · have hz1:(z != 0)=false:=by simpa using hz0
   have HZ:=Lh hz0
   by_cases m0:m=0
   · have d0:((m:Int) == 0)=true:=by simpa using m0
     have M0:=Lh m0
     clear m0
     go_wp2
     go_ret
     refine ⟨ret_bool ?_,HB.out.trans (HB2.out.mono HB.out.size)⟩
     rw [HR.out]
     rw [HZ.out,decide_eq_true M0.out]
     rfl
   · have d0:((m:Int) == 0)=false:=by simpa using m0
     have M0:=Lh m0
     clear m0
     go_wp2
     go_ret
     refine ⟨ret_bool ?_,HB.out.trans (HB2.out.mono HB.out.size)⟩
     rw [HR.out]
     rw [HZ.out,decide_eq_false M0.out]
     rfl
set_option maxHeartbeats 8000000 in
theorem Rfields_5 (p:LP) (Ab Ao:Option Addr) (nb cb no co:Nat) (o:LOp) (w:World) (hk:o.kind=5) :
   Calls Tryd.prog 27 #[.agg #[.int .i64 p.regs,.slice Ab nb cb,.slice Ao no co],.agg (opRow o).toArray] w fun e w'=>e=.returned (.bool (fieldsF p o))∧Below w.heap.size w w':=by
 obtain ⟨W,hW,hbW,hzW,kp,ko⟩:=two_rows w [.int .i64 p.regs,.slice Ab nb cb,.slice Ao no co] o 25 47
 have HW:=Lh hW
 have HB:=Lh hbW
 have KP:=Lh kp
 have KO:=Lh ko
 have L1:=Lh (show w.heap.size+1 < W.heap.size by omega)
 have c0:W.cell? ⟨w.heap.size+1,0,none⟩=some (.int .i64 o.kind):=by simp only [World.cell?,ko];rfl
 have c6:W.cell? ⟨w.heap.size+1,6,none⟩=some (.int .i64 o.buf):=by simp only [World.cell?,ko];rfl
 have c7:W.cell? ⟨w.heap.size+1,7,none⟩=some (.int .u64 o.imm):=by simp only [World.cell?,ko];rfl
 clear hW hbW hzW kp ko
 rw [hk] at c0
 obtain ⟨m,hm⟩:∃ m,o.imm=m:=⟨_,rfl⟩
 obtain ⟨z,hz⟩:∃ z,o.buf=z:=⟨_,rfl⟩
 obtain ⟨X,hX⟩:∃ X,(regIs p o.d true && (regIs p o.e false && ((regIs p o.a true || (false && o.a == -1)) && (regIs p o.b true && (regIs p o.c false && !(false && o.d == o.e))))))=X:=⟨_,rfl⟩
 have hf:fieldsF p o=(X && (z == 0 && decide (m=0))):=by
   rw [fields_split (by omega) (by omega),←hX,←hm,←hz]
   unfold regsB bufOk numOk
   rw [hk]
   rfl
 obtain ⟨R,hR⟩:∃ R,fieldsF p o=R:=⟨_,rfl⟩
 rw [hR]
 rw [hR] at hf
 have HR:=Lh hf
 clear hR
 rw [hm] at c7
 rw [hz] at c6
 have HX:=Lh hX
 have C67:=Lh (And.intro c6 c7)
 clear hf hm hz hX hk c6 c7
 go_enter Tryd.func27,Tryd.ntmps27
 go_upto_region 1 with fail
 rw [←HW.out]
 go_upto_region 10 with fail
 refine wp_code (c:=partR Tryd.f27 10) (by kernel_rfl) ?_
 refine rfields_r10 p Ab Ao nb cb no co o _ _ false true false true true false _ _ _ _ _ _ _ _ _ _ _ _ _ _ _ _ _ _ _ _ _ _ _ _ _ _ _ _ _ _ _ _ _ _ _ _ _ _ _ _ _ _ _ _ _ _ _ _ _ _ _ _ _ _ _ _ _ _ _ _ _ _ _ _ _ _ _ _ _ _ _ _ _ _ _ _ _ _ _ _ _ _ _ _ _ _ _ _ _ _ _ _ _ _ _ _ _ _ _ _ _ _ _ _ _ _ _ _ _ _ _ _ _ _ _ _ _ _ _ _ _ _ _ _ _ _ _ _ _ _ _ _ _ _ _ _ _ _ _ _ _ _ _ _ _ _ _ _ _ _ _ _ _ _ _ _ _ _ _ _ _ _ _ _ _ _ _ _ _ _ _ _ _ _ _ _ _ _ _ _ _ _ _ _ _ _ _ _ _ _ _ _ _ _ _ _ _ _ _ _ _ _ _ _ _ _ KP.out KO.out ?_
 intro _ _ _ _ _ _ _ _ _ _ _ _ _ _ _ _ _ _ _ _ _ _ _ _ _ _ _ _ _ _ _ _ _ _ _ _ _ _ _ _ _ _ _ _ _ _ _ _ _ _ _ _ _ _ _ _ w2 hb2
 rw [HX.out]
 have c6:=(hb2.cell (p:=⟨w.heap.size+1,6,none⟩) L1.out).trans C67.out.1
 have c7:=(hb2.cell (p:=⟨w.heap.size+1,7,none⟩) L1.out).trans C67.out.2
 have HB2:=Lh hb2
 clear hb2 c0
 cases X
 · go_wp2
   go_ret
   refine ⟨ret_bool ?_,HB.out.trans (HB2.out.mono HB.out.size)⟩
   rw [HR.out]
   skip
   rfl
 cases hz0:(z == 0)
 · have hz1:(z != 0)=true:=by simpa using hz0
   have HZ:=Lh hz0
   go_wp2
   go_ret
   refine ⟨ret_bool ?_,HB.out.trans (HB2.out.mono HB.out.size)⟩
   rw [HR.out]
   rw [HZ.out]
   rfl
 · have hz1:(z != 0)=false:=by simpa using hz0
   have HZ:=Lh hz0
   by_cases m0:m=0
   · have d0:((m:Int) == 0)=true:=by simpa using m0
     have M0:=Lh m0
     clear m0
     go_wp2
     go_ret
     refine ⟨ret_bool ?_,HB.out.trans (HB2.out.mono HB.out.size)⟩
     rw [HR.out]
     rw [HZ.out,decide_eq_true M0.out]
     rfl
   · have d0:((m:Int) == 0)=false:=by simpa using m0
     have M0:=Lh m0
     clear m0
     go_wp2
     go_ret
     refine ⟨ret_bool ?_,HB.out.trans (HB2.out.mono HB.out.size)⟩
     rw [HR.out]
     rw [HZ.out,decide_eq_false M0.out]
     rfl
set_option maxHeartbeats 8000000 in
theorem Rfields_6 (p:LP) (Ab Ao:Option Addr) (nb cb no co:Nat) (o:LOp) (w:World) (hk:o.kind=6) :
   Calls Tryd.prog 27 #[.agg #[.int .i64 p.regs,.slice Ab nb cb,.slice Ao no co],.agg (opRow o).toArray] w fun e w'=>e=.returned (.bool (fieldsF p o))∧Below w.heap.size w w':=by
 obtain ⟨W,hW,hbW,hzW,kp,ko⟩:=two_rows w [.int .i64 p.regs,.slice Ab nb cb,.slice Ao no co] o 25 47
 have HW:=Lh hW
 have HB:=Lh hbW
 have KP:=Lh kp
 have KO:=Lh ko
 have L1:=Lh (show w.heap.size+1 < W.heap.size by omega)
 have c0:W.cell? ⟨w.heap.size+1,0,none⟩=some (.int .i64 o.kind):=by simp only [World.cell?,ko];rfl
 have c6:W.cell? ⟨w.heap.size+1,6,none⟩=some (.int .i64 o.buf):=by simp only [World.cell?,ko];rfl
 have c7:W.cell? ⟨w.heap.size+1,7,none⟩=some (.int .u64 o.imm):=by simp only [World.cell?,ko];rfl
 clear hW hbW hzW kp ko
 rw [hk] at c0
 obtain ⟨m,hm⟩:∃ m,o.imm=m:=⟨_,rfl⟩
 obtain ⟨z,hz⟩:∃ z,o.buf=z:=⟨_,rfl⟩
 obtain ⟨X,hX⟩:∃ X,(regIs p o.d true && (regIs p o.e false && ((regIs p o.a true || (false && o.a == -1)) && (regIs p o.b true && (regIs p o.c false && !(false && o.d == o.e))))))=X:=⟨_,rfl⟩
 have hf:fieldsF p o=(X && (z == 0 && decide (m=0))):=by
   rw [fields_split (by omega) (by omega),←hX,←hm,←hz]
   unfold regsB bufOk numOk
   rw [hk]
   rfl
 obtain ⟨R,hR⟩:∃ R,fieldsF p o=R:=⟨_,rfl⟩
 rw [hR]
 rw [hR] at hf
 have HR:=Lh hf
 clear hR
 rw [hm] at c7
 rw [hz] at c6
 have HX:=Lh hX
 have C67:=Lh (And.intro c6 c7)
 clear hf hm hz hX hk c6 c7
 go_enter Tryd.func27,Tryd.ntmps27
 go_upto_region 1 with fail
 rw [←HW.out]
 go_upto_region 10 with fail
 refine wp_code (c:=partR Tryd.f27 10) (by kernel_rfl) ?_
 refine rfields_r10 p Ab Ao nb cb no co o _ _ false true false true true false _ _ _ _ _ _ _ _ _ _ _ _ _ _ _ _ _ _ _ _ _ _ _ _ _ _ _ _ _ _ _ _ _ _ _ _ _ _ _ _ _ _ _ _ _ _ _ _ _ _ _ _ _ _ _ _ _ _ _ _ _ _ _ _ _ _ _ _ _ _ _ _ _ _ _ _ _ _ _ _ _ _ _ _ _ _ _ _ _ _ _ _ _ _ _ _ _ _ _ _ _ _ _ _ _ _ _ _ _ _ _ _ _ _ _ _ _ _ _ _ _ _ _ _ _ _ _ _ _ _ _ _ _ _ _ _ _ _ _ _ _ _ _ _ _ _ _ _ _ _ _ _ _ _ _ _ _ _ _ _ _ _ _ _ _ _ _ _ _ _ _ _ _ _ _ _ _ _ _ _ _ _ _ _ _ _ _ _ _ _ _ _ _ _ _ _ _ _ _ _ _ _ _ _ _ _ KP.out KO.out ?_
 intro _ _ _ _ _ _ _ _ _ _ _ _ _ _ _ _ _ _ _ _ _ _ _ _ _ _ _ _ _ _ _ _ _ _ _ _ _ _ _ _ _ _ _ _ _ _ _ _ _ _ _ _ _ _ _ _ w2 hb2
 rw [HX.out]
 have c6:=(hb2.cell (p:=⟨w.heap.size+1,6,none⟩) L1.out).trans C67.out.1
 have c7:=(hb2.cell (p:=⟨w.heap.size+1,7,none⟩) L1.out).trans C67.out.2
 have HB2:=Lh hb2
 clear hb2 c0
 cases X
 · go_wp2
   go_ret
   refine ⟨ret_bool ?_,HB.out.trans (HB2.out.mono HB.out.size)⟩
   rw [HR.out]
   skip
   rfl
 cases hz0:(z == 0)
 · have hz1:(z != 0)=true:=by simpa using hz0
   have HZ:=Lh hz0
   go_wp2
   go_ret
   refine ⟨ret_bool ?_,HB.out.trans (HB2.out.mono HB.out.size)⟩
   rw [HR.out]
   rw [HZ.out]
   rfl
 · have hz1:(z != 0)=false:=by simpa using hz0
   have HZ:=Lh hz0
   by_cases m0:m=0
   · have d0:((m:Int) == 0)=true:=by simpa using m0
     have M0:=Lh m0
     clear m0
     go_wp2
     go_ret
     refine ⟨ret_bool ?_,HB.out.trans (HB2.out.mono HB.out.size)⟩
     rw [HR.out]
     rw [HZ.out,decide_eq_true M0.out]
     rfl
   · have d0:((m:Int) == 0)=false:=by simpa using m0
     have M0:=Lh m0
     clear m0
     go_wp2
     go_ret
     refine ⟨ret_bool ?_,HB.out.trans (HB2.out.mono HB.out.size)⟩
     rw [HR.out]
     rw [HZ.out,decide_eq_false M0.out]
     rfl
set_option maxHeartbeats 8000000 in
theorem Rfields_7 (p:LP) (Ab Ao:Option Addr) (nb cb no co:Nat) (o:LOp) (w:World) (hk:o.kind=7) :
   Calls Tryd.prog 27 #[.agg #[.int .i64 p.regs,.slice Ab nb cb,.slice Ao no co],.agg (opRow o).toArray] w fun e w'=>e=.returned (.bool (fieldsF p o))∧Below w.heap.size w w':=by
 obtain ⟨W,hW,hbW,hzW,kp,ko⟩:=two_rows w [.int .i64 p.regs,.slice Ab nb cb,.slice Ao no co] o 25 47
 have HW:=Lh hW
 have HB:=Lh hbW
 have KP:=Lh kp
 have KO:=Lh ko
 have L1:=Lh (show w.heap.size+1 < W.heap.size by omega)
 have c0:W.cell? ⟨w.heap.size+1,0,none⟩=some (.int .i64 o.kind):=by simp only [World.cell?,ko];rfl
 have c6:W.cell? ⟨w.heap.size+1,6,none⟩=some (.int .i64 o.buf):=by simp only [World.cell?,ko];rfl
 have c7:W.cell? ⟨w.heap.size+1,7,none⟩=some (.int .u64 o.imm):=by simp only [World.cell?,ko];rfl
 clear hW hbW hzW kp ko
 rw [hk] at c0
 obtain ⟨m,hm⟩:∃ m,o.imm=m:=⟨_,rfl⟩
 obtain ⟨z,hz⟩:∃ z,o.buf=z:=⟨_,rfl⟩
 obtain ⟨X,hX⟩:∃ X,(regIs p o.d true && (regIs p o.e false && ((regIs p o.a true || (false && o.a == -1)) && (regIs p o.b true && (regIs p o.c false && !(false && o.d == o.e))))))=X:=⟨_,rfl⟩
 have hf:fieldsF p o=(X && (z == 0 && decide (m=0))):=by
   rw [fields_split (by omega) (by omega),←hX,←hm,←hz]
   unfold regsB bufOk numOk
   rw [hk]
   rfl
 obtain ⟨R,hR⟩:∃ R,fieldsF p o=R:=⟨_,rfl⟩
 rw [hR]
 rw [hR] at hf
 have HR:=Lh hf
 clear hR
 rw [hm] at c7
 rw [hz] at c6
 have HX:=Lh hX
 have C67:=Lh (And.intro c6 c7)
 clear hf hm hz hX hk c6 c7
 go_enter Tryd.func27,Tryd.ntmps27
 go_upto_region 1 with fail
 rw [←HW.out]
 go_upto_region 10 with fail
 refine wp_code (c:=partR Tryd.f27 10) (by kernel_rfl) ?_
 refine rfields_r10 p Ab Ao nb cb no co o _ _ false true false true true false _ _ _ _ _ _ _ _ _ _ _ _ _ _ _ _ _ _ _ _ _ _ _ _ _ _ _ _ _ _ _ _ _ _ _ _ _ _ _ _ _ _ _ _ _ _ _ _ _ _ _ _ _ _ _ _ _ _ _ _ _ _ _ _ _ _ _ _ _ _ _ _ _ _ _ _ _ _ _ _ _ _ _ _ _ _ _ _ _ _ _ _ _ _ _ _ _ _ _ _ _ _ _ _ _ _ _ _ _ _ _ _ _ _ _ _ _ _ _ _ _ _ _ _ _ _ _ _ _ _ _ _ _ _ _ _ _ _ _ _ _ _ _ _ _ _ _ _ _ _ _ _ _ _ _ _ _ _ _ _ _ _ _ _ _ _ _ _ _ _ _ _ _ _ _ _ _ _ _ _ _ _ _ _ _ _ _ _ _ _ _ _ _ _ _ _ _ _ _ _ _ _ _ _ _ _ KP.out KO.out ?_
 intro _ _ _ _ _ _ _ _ _ _ _ _ _ _ _ _ _ _ _ _ _ _ _ _ _ _ _ _ _ _ _ _ _ _ _ _ _ _ _ _ _ _ _ _ _ _ _ _ _ _ _ _ _ _ _ _ w2 hb2
 rw [HX.out]
 have c6:=(hb2.cell (p:=⟨w.heap.size+1,6,none⟩) L1.out).trans C67.out.1
 have c7:=(hb2.cell (p:=⟨w.heap.size+1,7,none⟩) L1.out).trans C67.out.2
 have HB2:=Lh hb2
 clear hb2 c0
 cases X
 · go_wp2
   go_ret
   refine ⟨ret_bool ?_,HB.out.trans (HB2.out.mono HB.out.size)⟩
   rw [HR.out]
   skip
   rfl
 cases hz0:(z == 0)
 · have hz1:(z != 0)=true:=by simpa using hz0
   have HZ:=Lh hz0
   go_wp2
   go_ret
   refine ⟨ret_bool ?_,HB.out.trans (HB2.out.mono HB.out.size)⟩
   rw [HR.out]
   rw [HZ.out]
   rfl
 · have hz1:(z != 0)=false:=by simpa using hz0
   have HZ:=Lh hz0
   by_cases m0:m=0
   · have d0:((m:Int) == 0)=true:=by simpa using m0
     have M0:=Lh m0
     clear m0
     go_wp2
     go_ret
     refine ⟨ret_bool ?_,HB.out.trans (HB2.out.mono HB.out.size)⟩
     rw [HR.out]
     rw [HZ.out,decide_eq_true M0.out]
     rfl
   · have d0:((m:Int) == 0)=false:=by simpa using m0
     have M0:=Lh m0
     clear m0
     go_wp2
     go_ret
     refine ⟨ret_bool ?_,HB.out.trans (HB2.out.mono HB.out.size)⟩
     rw [HR.out]
     rw [HZ.out,decide_eq_false M0.out]
     rfl
set_option maxHeartbeats 8000000 in
theorem Rfields_8 (p:LP) (Ab Ao:Option Addr) (nb cb no co:Nat) (o:LOp) (w:World) (hk:o.kind=8) :
   Calls Tryd.prog 27 #[.agg #[.int .i64 p.regs,.slice Ab nb cb,.slice Ao no co],.agg (opRow o).toArray] w fun e w'=>e=.returned (.bool (fieldsF p o))∧Below w.heap.size w w':=by
 obtain ⟨W,hW,hbW,hzW,kp,ko⟩:=two_rows w [.int .i64 p.regs,.slice Ab nb cb,.slice Ao no co] o 25 47
 have HW:=Lh hW
 have HB:=Lh hbW
 have KP:=Lh kp
 have KO:=Lh ko
 have L1:=Lh (show w.heap.size+1 < W.heap.size by omega)
 have c0:W.cell? ⟨w.heap.size+1,0,none⟩=some (.int .i64 o.kind):=by simp only [World.cell?,ko];rfl
 have c6:W.cell? ⟨w.heap.size+1,6,none⟩=some (.int .i64 o.buf):=by simp only [World.cell?,ko];rfl
 have c7:W.cell? ⟨w.heap.size+1,7,none⟩=some (.int .u64 o.imm):=by simp only [World.cell?,ko];rfl
 clear hW hbW hzW kp ko
 rw [hk] at c0
 obtain ⟨m,hm⟩:∃ m,o.imm=m:=⟨_,rfl⟩
 obtain ⟨z,hz⟩:∃ z,o.buf=z:=⟨_,rfl⟩
 obtain ⟨X,hX⟩:∃ X,(regIs p o.d true && (regIs p o.e false && ((regIs p o.a true || (false && o.a == -1)) && (regIs p o.b false && (regIs p o.c false && !(false && o.d == o.e))))))=X:=⟨_,rfl⟩
 have hf:fieldsF p o=(X && (z == 0 && (decide (1≤m) && decide (m≤63)))):=by
   rw [fields_split (by omega) (by omega),←hX,←hm,←hz]
   unfold regsB bufOk numOk
   rw [hk]
   rfl
 obtain ⟨R,hR⟩:∃ R,fieldsF p o=R:=⟨_,rfl⟩
 rw [hR]
 rw [hR] at hf
 have HR:=Lh hf
 clear hR
 rw [hm] at c7
 rw [hz] at c6
 have HX:=Lh hX
 have C67:=Lh (And.intro c6 c7)
 clear hf hm hz hX hk c6 c7
 go_enter Tryd.func27,Tryd.ntmps27
 go_upto_region 1 with fail
 rw [←HW.out]
 go_upto_region 10 with fail
 refine wp_code (c:=partR Tryd.f27 10) (by kernel_rfl) ?_
 refine rfields_r10 p Ab Ao nb cb no co o _ _ false true false true false false _ _ _ _ _ _ _ _ _ _ _ _ _ _ _ _ _ _ _ _ _ _ _ _ _ _ _ _ _ _ _ _ _ _ _ _ _ _ _ _ _ _ _ _ _ _ _ _ _ _ _ _ _ _ _ _ _ _ _ _ _ _ _ _ _ _ _ _ _ _ _ _ _ _ _ _ _ _ _ _ _ _ _ _ _ _ _ _ _ _ _ _ _ _ _ _ _ _ _ _ _ _ _ _ _ _ _ _ _ _ _ _ _ _ _ _ _ _ _ _ _ _ _ _ _ _ _ _ _ _ _ _ _ _ _ _ _ _ _ _ _ _ _ _ _ _ _ _ _ _ _ _ _ _ _ _ _ _ _ _ _ _ _ _ _ _ _ _ _ _ _ _ _ _ _ _ _ _ _ _ _ _ _ _ _ _ _ _ _ _ _ _ _ _ _ _ _ _ _ _ _ _ _ _ _ _ KP.out KO.out ?_
 intro _ _ _ _ _ _ _ _ _ _ _ _ _ _ _ _ _ _ _ _ _ _ _ _ _ _ _ _ _ _ _ _ _ _ _ _ _ _ _ _ _ _ _ _ _ _ _ _ _ _ _ _ _ _ _ _ w2 hb2
 rw [HX.out]
 have c6:=(hb2.cell (p:=⟨w.heap.size+1,6,none⟩) L1.out).trans C67.out.1
 have c7:=(hb2.cell (p:=⟨w.heap.size+1,7,none⟩) L1.out).trans C67.out.2
 have HB2:=Lh hb2
 clear hb2 c0
 cases X
 · go_wp2
   go_ret
   refine ⟨ret_bool ?_,HB.out.trans (HB2.out.mono HB.out.size)⟩
   rw [HR.out]
   skip
   rfl
 cases hz0:(z == 0)
 · have hz1:(z != 0)=true:=by simpa using hz0
   have HZ:=Lh hz0
   go_wp2
   go_ret
   refine ⟨ret_bool ?_,HB.out.trans (HB2.out.mono HB.out.size)⟩
   rw [HR.out]
   rw [HZ.out]
   rfl
 · have hz1:(z != 0)=false:=by simpa using hz0
   have HZ:=Lh hz0
   by_cases m1:1≤m
   · have d1:decide ((1:Int)≤(m:Int))=true:=decide_eq_true (by omega)
     by_cases m2:m≤63
     · have d2:decide ((m:Int)≤63)=true:=decide_eq_true (by omega)
       go_wp2
       go_ret
       refine ⟨ret_bool ?_,HB.out.trans (HB2.out.mono HB.out.size)⟩
       rw [HR.out]
       rw [HZ.out,decide_eq_true m1,decide_eq_true m2]
       rfl
     · have d2:decide ((m:Int)≤63)=false:=decide_eq_false (by omega)
       go_wp2
       go_ret
       refine ⟨ret_bool ?_,HB.out.trans (HB2.out.mono HB.out.size)⟩
       rw [HR.out]
       rw [HZ.out,decide_eq_true m1,decide_eq_false m2]
       rfl
   · have d1:decide ((1:Int)≤(m:Int))=false:=decide_eq_false (by omega)
     go_wp2
     go_ret
     refine ⟨ret_bool ?_,HB.out.trans (HB2.out.mono HB.out.size)⟩
     rw [HR.out]
     rw [HZ.out,decide_eq_false m1]
     rfl
set_option maxHeartbeats 8000000 in
theorem Rfields_9 (p:LP) (Ab Ao:Option Addr) (nb cb no co:Nat) (o:LOp) (w:World) (hk:o.kind=9) :
   Calls Tryd.prog 27 #[.agg #[.int .i64 p.regs,.slice Ab nb cb,.slice Ao no co],.agg (opRow o).toArray] w fun e w'=>e=.returned (.bool (fieldsF p o))∧Below w.heap.size w w':=by
 obtain ⟨W,hW,hbW,hzW,kp,ko⟩:=two_rows w [.int .i64 p.regs,.slice Ab nb cb,.slice Ao no co] o 25 47
 have HW:=Lh hW
 have HB:=Lh hbW
 have KP:=Lh kp
 have KO:=Lh ko
 have L1:=Lh (show w.heap.size+1 < W.heap.size by omega)
 have c0:W.cell? ⟨w.heap.size+1,0,none⟩=some (.int .i64 o.kind):=by simp only [World.cell?,ko];rfl
 have c6:W.cell? ⟨w.heap.size+1,6,none⟩=some (.int .i64 o.buf):=by simp only [World.cell?,ko];rfl
 have c7:W.cell? ⟨w.heap.size+1,7,none⟩=some (.int .u64 o.imm):=by simp only [World.cell?,ko];rfl
 clear hW hbW hzW kp ko
 rw [hk] at c0
 obtain ⟨m,hm⟩:∃ m,o.imm=m:=⟨_,rfl⟩
 obtain ⟨z,hz⟩:∃ z,o.buf=z:=⟨_,rfl⟩
 obtain ⟨X,hX⟩:∃ X,(regIs p o.d true && (regIs p o.e false && ((regIs p o.a true || (false && o.a == -1)) && (regIs p o.b false && (regIs p o.c false && !(false && o.d == o.e))))))=X:=⟨_,rfl⟩
 have hf:fieldsF p o=(X && (z == 0 && (decide (1≤m) && decide (m≤63)))):=by
   rw [fields_split (by omega) (by omega),←hX,←hm,←hz]
   unfold regsB bufOk numOk
   rw [hk]
   rfl
 obtain ⟨R,hR⟩:∃ R,fieldsF p o=R:=⟨_,rfl⟩
 rw [hR]
 rw [hR] at hf
 have HR:=Lh hf
 clear hR
 rw [hm] at c7
 rw [hz] at c6
 have HX:=Lh hX
 have C67:=Lh (And.intro c6 c7)
 clear hf hm hz hX hk c6 c7
 go_enter Tryd.func27,Tryd.ntmps27
 go_upto_region 1 with fail
 rw [←HW.out]
 go_upto_region 10 with fail
 refine wp_code (c:=partR Tryd.f27 10) (by kernel_rfl) ?_
 refine rfields_r10 p Ab Ao nb cb no co o _ _ false true false true false false _ _ _ _ _ _ _ _ _ _ _ _ _ _ _ _ _ _ _ _ _ _ _ _ _ _ _ _ _ _ _ _ _ _ _ _ _ _ _ _ _ _ _ _ _ _ _ _ _ _ _ _ _ _ _ _ _ _ _ _ _ _ _ _ _ _ _ _ _ _ _ _ _ _ _ _ _ _ _ _ _ _ _ _ _ _ _ _ _ _ _ _ _ _ _ _ _ _ _ _ _ _ _ _ _ _ _ _ _ _ _ _ _ _ _ _ _ _ _ _ _ _ _ _ _ _ _ _ _ _ _ _ _ _ _ _ _ _ _ _ _ _ _ _ _ _ _ _ _ _ _ _ _ _ _ _ _ _ _ _ _ _ _ _ _ _ _ _ _ _ _ _ _ _ _ _ _ _ _ _ _ _ _ _ _ _ _ _ _ _ _ _ _ _ _ _ _ _ _ _ _ _ _ _ _ _ KP.out KO.out ?_
 intro _ _ _ _ _ _ _ _ _ _ _ _ _ _ _ _ _ _ _ _ _ _ _ _ _ _ _ _ _ _ _ _ _ _ _ _ _ _ _ _ _ _ _ _ _ _ _ _ _ _ _ _ _ _ _ _ w2 hb2
 rw [HX.out]
 have c6:=(hb2.cell (p:=⟨w.heap.size+1,6,none⟩) L1.out).trans C67.out.1
 have c7:=(hb2.cell (p:=⟨w.heap.size+1,7,none⟩) L1.out).trans C67.out.2
 have HB2:=Lh hb2
 clear hb2 c0
 cases X
 · go_wp2
   go_ret
   refine ⟨ret_bool ?_,HB.out.trans (HB2.out.mono HB.out.size)⟩
   rw [HR.out]
   skip
   rfl
 cases hz0:(z == 0)
 · have hz1:(z != 0)=true:=by simpa using hz0
   have HZ:=Lh hz0
   go_wp2
   go_ret
   refine ⟨ret_bool ?_,HB.out.trans (HB2.out.mono HB.out.size)⟩
   rw [HR.out]
   rw [HZ.out]
   rfl
 · have hz1:(z != 0)=false:=by simpa using hz0
   have HZ:=Lh hz0
   by_cases m1:1≤m
   · have d1:decide ((1:Int)≤(m:Int))=true:=decide_eq_true (by omega)
     by_cases m2:m≤63
     · have d2:decide ((m:Int)≤63)=true:=decide_eq_true (by omega)
       go_wp2
       go_ret
       refine ⟨ret_bool ?_,HB.out.trans (HB2.out.mono HB.out.size)⟩
       rw [HR.out]
       rw [HZ.out,decide_eq_true m1,decide_eq_true m2]
       rfl
     · have d2:decide ((m:Int)≤63)=false:=decide_eq_false (by omega)
       go_wp2
       go_ret
       refine ⟨ret_bool ?_,HB.out.trans (HB2.out.mono HB.out.size)⟩
       rw [HR.out]
       rw [HZ.out,decide_eq_true m1,decide_eq_false m2]
       rfl
   · have d1:decide ((1:Int)≤(m:Int))=false:=decide_eq_false (by omega)
     go_wp2
     go_ret
     refine ⟨ret_bool ?_,HB.out.trans (HB2.out.mono HB.out.size)⟩
     rw [HR.out]
     rw [HZ.out,decide_eq_false m1]
     rfl
set_option maxHeartbeats 8000000 in
theorem Rfields_10 (p:LP) (Ab Ao:Option Addr) (nb cb no co:Nat) (o:LOp) (w:World) (hk:o.kind=10) :
   Calls Tryd.prog 27 #[.agg #[.int .i64 p.regs,.slice Ab nb cb,.slice Ao no co],.agg (opRow o).toArray] w fun e w'=>e=.returned (.bool (fieldsF p o))∧Below w.heap.size w w':=by
 obtain ⟨W,hW,hbW,hzW,kp,ko⟩:=two_rows w [.int .i64 p.regs,.slice Ab nb cb,.slice Ao no co] o 25 47
 have HW:=Lh hW
 have HB:=Lh hbW
 have KP:=Lh kp
 have KO:=Lh ko
 have L1:=Lh (show w.heap.size+1 < W.heap.size by omega)
 have c0:W.cell? ⟨w.heap.size+1,0,none⟩=some (.int .i64 o.kind):=by simp only [World.cell?,ko];rfl
 have c6:W.cell? ⟨w.heap.size+1,6,none⟩=some (.int .i64 o.buf):=by simp only [World.cell?,ko];rfl
 have c7:W.cell? ⟨w.heap.size+1,7,none⟩=some (.int .u64 o.imm):=by simp only [World.cell?,ko];rfl
 clear hW hbW hzW kp ko
 rw [hk] at c0
 obtain ⟨m,hm⟩:∃ m,o.imm=m:=⟨_,rfl⟩
 obtain ⟨z,hz⟩:∃ z,o.buf=z:=⟨_,rfl⟩
 obtain ⟨X,hX⟩:∃ X,(regIs p o.d true && (regIs p o.e true && ((regIs p o.a true || (false && o.a == -1)) && (regIs p o.b true && (regIs p o.c false && !(true && o.d == o.e))))))=X:=⟨_,rfl⟩
 have hf:fieldsF p o=(X && (z == 0 && decide (m=0))):=by
   rw [fields_split (by omega) (by omega),←hX,←hm,←hz]
   unfold regsB bufOk numOk
   rw [hk]
   rfl
 obtain ⟨R,hR⟩:∃ R,fieldsF p o=R:=⟨_,rfl⟩
 rw [hR]
 rw [hR] at hf
 have HR:=Lh hf
 clear hR
 rw [hm] at c7
 rw [hz] at c6
 have HX:=Lh hX
 have C67:=Lh (And.intro c6 c7)
 clear hf hm hz hX hk c6 c7
 go_enter Tryd.func27,Tryd.ntmps27
 go_upto_region 1 with fail
 rw [←HW.out]
 go_upto_region 10 with fail
 refine wp_code (c:=partR Tryd.f27 10) (by kernel_rfl) ?_
 refine rfields_r10 p Ab Ao nb cb no co o _ _ false true true true true false _ _ _ _ _ _ _ _ _ _ _ _ _ _ _ _ _ _ _ _ _ _ _ _ _ _ _ _ _ _ _ _ _ _ _ _ _ _ _ _ _ _ _ _ _ _ _ _ _ _ _ _ _ _ _ _ _ _ _ _ _ _ _ _ _ _ _ _ _ _ _ _ _ _ _ _ _ _ _ _ _ _ _ _ _ _ _ _ _ _ _ _ _ _ _ _ _ _ _ _ _ _ _ _ _ _ _ _ _ _ _ _ _ _ _ _ _ _ _ _ _ _ _ _ _ _ _ _ _ _ _ _ _ _ _ _ _ _ _ _ _ _ _ _ _ _ _ _ _ _ _ _ _ _ _ _ _ _ _ _ _ _ _ _ _ _ _ _ _ _ _ _ _ _ _ _ _ _ _ _ _ _ _ _ _ _ _ _ _ _ _ _ _ _ _ _ _ _ _ _ _ _ _ _ _ _ KP.out KO.out ?_
 intro _ _ _ _ _ _ _ _ _ _ _ _ _ _ _ _ _ _ _ _ _ _ _ _ _ _ _ _ _ _ _ _ _ _ _ _ _ _ _ _ _ _ _ _ _ _ _ _ _ _ _ _ _ _ _ _ w2 hb2
 rw [HX.out]
 have c6:=(hb2.cell (p:=⟨w.heap.size+1,6,none⟩) L1.out).trans C67.out.1
 have c7:=(hb2.cell (p:=⟨w.heap.size+1,7,none⟩) L1.out).trans C67.out.2
 have HB2:=Lh hb2
 clear hb2 c0
 cases X
 · go_wp2
   go_ret
   refine ⟨ret_bool ?_,HB.out.trans (HB2.out.mono HB.out.size)⟩
   rw [HR.out]
   skip
   rfl
 cases hz0:(z == 0)
 · have hz1:(z != 0)=true:=by simpa using hz0
   have HZ:=Lh hz0
   go_wp2
   go_ret
   refine ⟨ret_bool ?_,HB.out.trans (HB2.out.mono HB.out.size)⟩
   rw [HR.out]
   rw [HZ.out]
   rfl
 · have hz1:(z != 0)=false:=by simpa using hz0
   have HZ:=Lh hz0
   by_cases m0:m=0
   · have d0:((m:Int) == 0)=true:=by simpa using m0
     have M0:=Lh m0
     clear m0
     go_wp2
     go_ret
     refine ⟨ret_bool ?_,HB.out.trans (HB2.out.mono HB.out.size)⟩
     rw [HR.out]
     rw [HZ.out,decide_eq_true M0.out]
     rfl
   · have d0:((m:Int) == 0)=false:=by simpa using m0
     have M0:=Lh m0
     clear m0
     go_wp2
     go_ret
     refine ⟨ret_bool ?_,HB.out.trans (HB2.out.mono HB.out.size)⟩
     rw [HR.out]
     rw [HZ.out,decide_eq_false M0.out]
     rfl
set_option maxHeartbeats 8000000 in
theorem Rfields_11 (p:LP) (Ab Ao:Option Addr) (nb cb no co:Nat) (o:LOp) (w:World) (hk:o.kind=11) :
   Calls Tryd.prog 27 #[.agg #[.int .i64 p.regs,.slice Ab nb cb,.slice Ao no co],.agg (opRow o).toArray] w fun e w'=>e=.returned (.bool (fieldsF p o))∧Below w.heap.size w w':=by
 obtain ⟨W,hW,hbW,hzW,kp,ko⟩:=two_rows w [.int .i64 p.regs,.slice Ab nb cb,.slice Ao no co] o 25 47
 have HW:=Lh hW
 have HB:=Lh hbW
 have KP:=Lh kp
 have KO:=Lh ko
 have L1:=Lh (show w.heap.size+1 < W.heap.size by omega)
 have c0:W.cell? ⟨w.heap.size+1,0,none⟩=some (.int .i64 o.kind):=by simp only [World.cell?,ko];rfl
 have c6:W.cell? ⟨w.heap.size+1,6,none⟩=some (.int .i64 o.buf):=by simp only [World.cell?,ko];rfl
 have c7:W.cell? ⟨w.heap.size+1,7,none⟩=some (.int .u64 o.imm):=by simp only [World.cell?,ko];rfl
 clear hW hbW hzW kp ko
 rw [hk] at c0
 obtain ⟨m,hm⟩:∃ m,o.imm=m:=⟨_,rfl⟩
 obtain ⟨z,hz⟩:∃ z,o.buf=z:=⟨_,rfl⟩
 obtain ⟨X,hX⟩:∃ X,(regIs p o.d true && (regIs p o.e true && ((regIs p o.a true || (false && o.a == -1)) && (regIs p o.b true && (regIs p o.c true && !(true && o.d == o.e))))))=X:=⟨_,rfl⟩
 have hf:fieldsF p o=(X && (z == 0 && decide (m=0))):=by
   rw [fields_split (by omega) (by omega),←hX,←hm,←hz]
   unfold regsB bufOk numOk
   rw [hk]
   rfl
 obtain ⟨R,hR⟩:∃ R,fieldsF p o=R:=⟨_,rfl⟩
 rw [hR]
 rw [hR] at hf
 have HR:=Lh hf
 clear hR
 rw [hm] at c7
 rw [hz] at c6
 have HX:=Lh hX
 have C67:=Lh (And.intro c6 c7)
 clear hf hm hz hX hk c6 c7
 go_enter Tryd.func27,Tryd.ntmps27
 go_upto_region 1 with fail
 rw [←HW.out]
 go_upto_region 10 with fail
 refine wp_code (c:=partR Tryd.f27 10) (by kernel_rfl) ?_
 refine rfields_r10 p Ab Ao nb cb no co o _ _ false true true true true true _ _ _ _ _ _ _ _ _ _ _ _ _ _ _ _ _ _ _ _ _ _ _ _ _ _ _ _ _ _ _ _ _ _ _ _ _ _ _ _ _ _ _ _ _ _ _ _ _ _ _ _ _ _ _ _ _ _ _ _ _ _ _ _ _ _ _ _ _ _ _ _ _ _ _ _ _ _ _ _ _ _ _ _ _ _ _ _ _ _ _ _ _ _ _ _ _ _ _ _ _ _ _ _ _ _ _ _ _ _ _ _ _ _ _ _ _ _ _ _ _ _ _ _ _ _ _ _ _ _ _ _ _ _ _ _ _ _ _ _ _ _ _ _ _ _ _ _ _ _ _ _ _ _ _ _ _ _ _ _ _ _ _ _ _ _ _ _ _ _ _ _ _ _ _ _ _ _ _ _ _ _ _ _ _ _ _ _ _ _ _ _ _ _ _ _ _ _ _ _ _ _ _ _ _ _ KP.out KO.out ?_
 intro _ _ _ _ _ _ _ _ _ _ _ _ _ _ _ _ _ _ _ _ _ _ _ _ _ _ _ _ _ _ _ _ _ _ _ _ _ _ _ _ _ _ _ _ _ _ _ _ _ _ _ _ _ _ _ _ w2 hb2
 rw [HX.out]
 have c6:=(hb2.cell (p:=⟨w.heap.size+1,6,none⟩) L1.out).trans C67.out.1
 have c7:=(hb2.cell (p:=⟨w.heap.size+1,7,none⟩) L1.out).trans C67.out.2
 have HB2:=Lh hb2
 clear hb2 c0
 cases X
 · go_wp2
   go_ret
   refine ⟨ret_bool ?_,HB.out.trans (HB2.out.mono HB.out.size)⟩
   rw [HR.out]
   skip
   rfl
 cases hz0:(z == 0)
 · have hz1:(z != 0)=true:=by simpa using hz0
   have HZ:=Lh hz0
   go_wp2
   go_ret
   refine ⟨ret_bool ?_,HB.out.trans (HB2.out.mono HB.out.size)⟩
   rw [HR.out]
   rw [HZ.out]
   rfl
 · have hz1:(z != 0)=false:=by simpa using hz0
   have HZ:=Lh hz0
   by_cases m0:m=0
   · have d0:((m:Int) == 0)=true:=by simpa using m0
     have M0:=Lh m0
     clear m0
     go_wp2
     go_ret
     refine ⟨ret_bool ?_,HB.out.trans (HB2.out.mono HB.out.size)⟩
     rw [HR.out]
     rw [HZ.out,decide_eq_true M0.out]
     rfl
   · have d0:((m:Int) == 0)=false:=by simpa using m0
     have M0:=Lh m0
     clear m0
     go_wp2
     go_ret
     refine ⟨ret_bool ?_,HB.out.trans (HB2.out.mono HB.out.size)⟩
     rw [HR.out]
     rw [HZ.out,decide_eq_false M0.out]
     rfl
set_option maxHeartbeats 8000000 in
theorem Rfields_12 (p:LP) (Ab Ao:Option Addr) (nb cb no co:Nat) (o:LOp) (w:World) (hk:o.kind=12) :
   Calls Tryd.prog 27 #[.agg #[.int .i64 p.regs,.slice Ab nb cb,.slice Ao no co],.agg (opRow o).toArray] w fun e w'=>e=.returned (.bool (fieldsF p o))∧Below w.heap.size w w':=by
 obtain ⟨W,hW,hbW,hzW,kp,ko⟩:=two_rows w [.int .i64 p.regs,.slice Ab nb cb,.slice Ao no co] o 25 47
 have HW:=Lh hW
 have HB:=Lh hbW
 have KP:=Lh kp
 have KO:=Lh ko
 have L1:=Lh (show w.heap.size+1 < W.heap.size by omega)
 have c0:W.cell? ⟨w.heap.size+1,0,none⟩=some (.int .i64 o.kind):=by simp only [World.cell?,ko];rfl
 have c6:W.cell? ⟨w.heap.size+1,6,none⟩=some (.int .i64 o.buf):=by simp only [World.cell?,ko];rfl
 have c7:W.cell? ⟨w.heap.size+1,7,none⟩=some (.int .u64 o.imm):=by simp only [World.cell?,ko];rfl
 clear hW hbW hzW kp ko
 rw [hk] at c0
 obtain ⟨m,hm⟩:∃ m,o.imm=m:=⟨_,rfl⟩
 obtain ⟨z,hz⟩:∃ z,o.buf=z:=⟨_,rfl⟩
 obtain ⟨X,hX⟩:∃ X,(regIs p o.d true && (regIs p o.e true && ((regIs p o.a true || (false && o.a == -1)) && (regIs p o.b true && (regIs p o.c true && !(true && o.d == o.e))))))=X:=⟨_,rfl⟩
 have hf:fieldsF p o=(X && (z == 0 && decide (m=0))):=by
   rw [fields_split (by omega) (by omega),←hX,←hm,←hz]
   unfold regsB bufOk numOk
   rw [hk]
   rfl
 obtain ⟨R,hR⟩:∃ R,fieldsF p o=R:=⟨_,rfl⟩
 rw [hR]
 rw [hR] at hf
 have HR:=Lh hf
 clear hR
 rw [hm] at c7
 rw [hz] at c6
 have HX:=Lh hX
 have C67:=Lh (And.intro c6 c7)
 clear hf hm hz hX hk c6 c7
 go_enter Tryd.func27,Tryd.ntmps27
 go_upto_region 1 with fail
 rw [←HW.out]
 go_upto_region 10 with fail
 refine wp_code (c:=partR Tryd.f27 10) (by kernel_rfl) ?_
 refine rfields_r10 p Ab Ao nb cb no co o _ _ false true true true true true _ _ _ _ _ _ _ _ _ _ _ _ _ _ _ _ _ _ _ _ _ _ _ _ _ _ _ _ _ _ _ _ _ _ _ _ _ _ _ _ _ _ _ _ _ _ _ _ _ _ _ _ _ _ _ _ _ _ _ _ _ _ _ _ _ _ _ _ _ _ _ _ _ _ _ _ _ _ _ _ _ _ _ _ _ _ _ _ _ _ _ _ _ _ _ _ _ _ _ _ _ _ _ _ _ _ _ _ _ _ _ _ _ _ _ _ _ _ _ _ _ _ _ _ _ _ _ _ _ _ _ _ _ _ _ _ _ _ _ _ _ _ _ _ _ _ _ _ _ _ _ _ _ _ _ _ _ _ _ _ _ _ _ _ _ _ _ _ _ _ _ _ _ _ _ _ _ _ _ _ _ _ _ _ _ _ _ _ _ _ _ _ _ _ _ _ _ _ _ _ _ _ _ _ _ _ KP.out KO.out ?_
 intro _ _ _ _ _ _ _ _ _ _ _ _ _ _ _ _ _ _ _ _ _ _ _ _ _ _ _ _ _ _ _ _ _ _ _ _ _ _ _ _ _ _ _ _ _ _ _ _ _ _ _ _ _ _ _ _ w2 hb2
 rw [HX.out]
 have c6:=(hb2.cell (p:=⟨w.heap.size+1,6,none⟩) L1.out).trans C67.out.1
 have c7:=(hb2.cell (p:=⟨w.heap.size+1,7,none⟩) L1.out).trans C67.out.2
 have HB2:=Lh hb2
 clear hb2 c0
 cases X
 · go_wp2
   go_ret
   refine ⟨ret_bool ?_,HB.out.trans (HB2.out.mono HB.out.size)⟩
   rw [HR.out]
   skip
   rfl
 cases hz0:(z == 0)
 · have hz1:(z != 0)=true:=by simpa using hz0
   have HZ:=Lh hz0
   go_wp2
   go_ret
   refine ⟨ret_bool ?_,HB.out.trans (HB2.out.mono HB.out.size)⟩
   rw [HR.out]
   rw [HZ.out]
   rfl
 · have hz1:(z != 0)=false:=by simpa using hz0
   have HZ:=Lh hz0
   by_cases m0:m=0
   · have d0:((m:Int) == 0)=true:=by simpa using m0
     have M0:=Lh m0
     clear m0
     go_wp2
     go_ret
     refine ⟨ret_bool ?_,HB.out.trans (HB2.out.mono HB.out.size)⟩
     rw [HR.out]
     rw [HZ.out,decide_eq_true M0.out]
     rfl
   · have d0:((m:Int) == 0)=false:=by simpa using m0
     have M0:=Lh m0
     clear m0
     go_wp2
     go_ret
     refine ⟨ret_bool ?_,HB.out.trans (HB2.out.mono HB.out.size)⟩
     rw [HR.out]
     rw [HZ.out,decide_eq_false M0.out]
     rfl
set_option maxHeartbeats 8000000 in
theorem Rfields_13 (p:LP) (Ab Ao:Option Addr) (nb cb no co:Nat) (o:LOp) (w:World) (hk:o.kind=13) :
   Calls Tryd.prog 27 #[.agg #[.int .i64 p.regs,.slice Ab nb cb,.slice Ao no co],.agg (opRow o).toArray] w fun e w'=>e=.returned (.bool (fieldsF p o))∧Below w.heap.size w w':=by
 obtain ⟨W,hW,hbW,hzW,kp,ko⟩:=two_rows w [.int .i64 p.regs,.slice Ab nb cb,.slice Ao no co] o 25 47
 have HW:=Lh hW
 have HB:=Lh hbW
 have KP:=Lh kp
 have KO:=Lh ko
 have L1:=Lh (show w.heap.size+1 < W.heap.size by omega)
 have c0:W.cell? ⟨w.heap.size+1,0,none⟩=some (.int .i64 o.kind):=by simp only [World.cell?,ko];rfl
 have c6:W.cell? ⟨w.heap.size+1,6,none⟩=some (.int .i64 o.buf):=by simp only [World.cell?,ko];rfl
 have c7:W.cell? ⟨w.heap.size+1,7,none⟩=some (.int .u64 o.imm):=by simp only [World.cell?,ko];rfl
 clear hW hbW hzW kp ko
 rw [hk] at c0
 obtain ⟨m,hm⟩:∃ m,o.imm=m:=⟨_,rfl⟩
 obtain ⟨z,hz⟩:∃ z,o.buf=z:=⟨_,rfl⟩
 obtain ⟨X,hX⟩:∃ X,(regIs p o.d true && (regIs p o.e false && ((regIs p o.a true || (false && o.a == -1)) && (regIs p o.b true && (regIs p o.c true && !(false && o.d == o.e))))))=X:=⟨_,rfl⟩
 have hf:fieldsF p o=(X && (z == 0 && decide (m=0))):=by
   rw [fields_split (by omega) (by omega),←hX,←hm,←hz]
   unfold regsB bufOk numOk
   rw [hk]
   rfl
 obtain ⟨R,hR⟩:∃ R,fieldsF p o=R:=⟨_,rfl⟩
 rw [hR]
 rw [hR] at hf
 have HR:=Lh hf
 clear hR
 rw [hm] at c7
 rw [hz] at c6
 have HX:=Lh hX
 have C67:=Lh (And.intro c6 c7)
 clear hf hm hz hX hk c6 c7
 go_enter Tryd.func27,Tryd.ntmps27
 go_upto_region 1 with fail
 rw [←HW.out]
 go_upto_region 10 with fail
 refine wp_code (c:=partR Tryd.f27 10) (by kernel_rfl) ?_
 refine rfields_r10 p Ab Ao nb cb no co o _ _ false true false true true true _ _ _ _ _ _ _ _ _ _ _ _ _ _ _ _ _ _ _ _ _ _ _ _ _ _ _ _ _ _ _ _ _ _ _ _ _ _ _ _ _ _ _ _ _ _ _ _ _ _ _ _ _ _ _ _ _ _ _ _ _ _ _ _ _ _ _ _ _ _ _ _ _ _ _ _ _ _ _ _ _ _ _ _ _ _ _ _ _ _ _ _ _ _ _ _ _ _ _ _ _ _ _ _ _ _ _ _ _ _ _ _ _ _ _ _ _ _ _ _ _ _ _ _ _ _ _ _ _ _ _ _ _ _ _ _ _ _ _ _ _ _ _ _ _ _ _ _ _ _ _ _ _ _ _ _ _ _ _ _ _ _ _ _ _ _ _ _ _ _ _ _ _ _ _ _ _ _ _ _ _ _ _ _ _ _ _ _ _ _ _ _ _ _ _ _ _ _ _ _ _ _ _ _ _ _ KP.out KO.out ?_
 intro _ _ _ _ _ _ _ _ _ _ _ _ _ _ _ _ _ _ _ _ _ _ _ _ _ _ _ _ _ _ _ _ _ _ _ _ _ _ _ _ _ _ _ _ _ _ _ _ _ _ _ _ _ _ _ _ w2 hb2
 rw [HX.out]
 have c6:=(hb2.cell (p:=⟨w.heap.size+1,6,none⟩) L1.out).trans C67.out.1
 have c7:=(hb2.cell (p:=⟨w.heap.size+1,7,none⟩) L1.out).trans C67.out.2
 have HB2:=Lh hb2
 clear hb2 c0
 cases X
 · go_wp2
   go_ret
   refine ⟨ret_bool ?_,HB.out.trans (HB2.out.mono HB.out.size)⟩
   rw [HR.out]
   skip
   rfl
 cases hz0:(z == 0)
 · have hz1:(z != 0)=true:=by simpa using hz0
   have HZ:=Lh hz0
   go_wp2
   go_ret
   refine ⟨ret_bool ?_,HB.out.trans (HB2.out.mono HB.out.size)⟩
   rw [HR.out]
   rw [HZ.out]
   rfl
 · have hz1:(z != 0)=false:=by simpa using hz0
   have HZ:=Lh hz0
   by_cases m0:m=0
   · have d0:((m:Int) == 0)=true:=by simpa using m0
     have M0:=Lh m0
     clear m0
     go_wp2
     go_ret
     refine ⟨ret_bool ?_,HB.out.trans (HB2.out.mono HB.out.size)⟩
     rw [HR.out]
     rw [HZ.out,decide_eq_true M0.out]
     rfl
   · have d0:((m:Int) == 0)=false:=by simpa using m0
     have M0:=Lh m0
     clear m0
     go_wp2
     go_ret
     refine ⟨ret_bool ?_,HB.out.trans (HB2.out.mono HB.out.size)⟩
     rw [HR.out]
     rw [HZ.out,decide_eq_false M0.out]
     rfl
set_option maxHeartbeats 8000000 in
theorem Rfields_16 (p:LP) (Ab Ao:Option Addr) (nb cb no co:Nat) (o:LOp) (w:World) (hk:o.kind=16) :
   Calls Tryd.prog 27 #[.agg #[.int .i64 p.regs,.slice Ab nb cb,.slice Ao no co],.agg (opRow o).toArray] w fun e w'=>e=.returned (.bool (fieldsF p o))∧Below w.heap.size w w':=by
 obtain ⟨W,hW,hbW,hzW,kp,ko⟩:=two_rows w [.int .i64 p.regs,.slice Ab nb cb,.slice Ao no co] o 25 47
 have HW:=Lh hW
 have HB:=Lh hbW
 have KP:=Lh kp
 have KO:=Lh ko
 have L1:=Lh (show w.heap.size+1 < W.heap.size by omega)
 have c0:W.cell? ⟨w.heap.size+1,0,none⟩=some (.int .i64 o.kind):=by simp only [World.cell?,ko];rfl
 have c6:W.cell? ⟨w.heap.size+1,6,none⟩=some (.int .i64 o.buf):=by simp only [World.cell?,ko];rfl
 have c7:W.cell? ⟨w.heap.size+1,7,none⟩=some (.int .u64 o.imm):=by simp only [World.cell?,ko];rfl
 clear hW hbW hzW kp ko
 rw [hk] at c0
 obtain ⟨m,hm⟩:∃ m,o.imm=m:=⟨_,rfl⟩
 obtain ⟨z,hz⟩:∃ z,o.buf=z:=⟨_,rfl⟩
 obtain ⟨X,hX⟩:∃ X,(regIs p o.d true && (regIs p o.e false && ((regIs p o.a false || (false && o.a == -1)) && (regIs p o.b false && (regIs p o.c false && !(false && o.d == o.e))))))=X:=⟨_,rfl⟩
 have hf:fieldsF p o=(X && (z == 0 && (decide (1≤m) && decide (m≤1048576)))):=by
   rw [fields_split (by omega) (by omega),←hX,←hm,←hz]
   unfold regsB bufOk numOk
   rw [hk]
   rfl
 obtain ⟨R,hR⟩:∃ R,fieldsF p o=R:=⟨_,rfl⟩
 rw [hR]
 rw [hR] at hf
 have HR:=Lh hf
 clear hR
 rw [hm] at c7
 rw [hz] at c6
 have HX:=Lh hX
 have C67:=Lh (And.intro c6 c7)
 clear hf hm hz hX hk c6 c7
 go_enter Tryd.func27,Tryd.ntmps27
 go_upto_region 1 with fail
 rw [←HW.out]
 go_upto_region 10 with fail
 refine wp_code (c:=partR Tryd.f27 10) (by kernel_rfl) ?_
 refine rfields_r10 p Ab Ao nb cb no co o _ _ false true false false false false _ _ _ _ _ _ _ _ _ _ _ _ _ _ _ _ _ _ _ _ _ _ _ _ _ _ _ _ _ _ _ _ _ _ _ _ _ _ _ _ _ _ _ _ _ _ _ _ _ _ _ _ _ _ _ _ _ _ _ _ _ _ _ _ _ _ _ _ _ _ _ _ _ _ _ _ _ _ _ _ _ _ _ _ _ _ _ _ _ _ _ _ _ _ _ _ _ _ _ _ _ _ _ _ _ _ _ _ _ _ _ _ _ _ _ _ _ _ _ _ _ _ _ _ _ _ _ _ _ _ _ _ _ _ _ _ _ _ _ _ _ _ _ _ _ _ _ _ _ _ _ _ _ _ _ _ _ _ _ _ _ _ _ _ _ _ _ _ _ _ _ _ _ _ _ _ _ _ _ _ _ _ _ _ _ _ _ _ _ _ _ _ _ _ _ _ _ _ _ _ _ _ _ _ _ _ KP.out KO.out ?_
 intro _ _ _ _ _ _ _ _ _ _ _ _ _ _ _ _ _ _ _ _ _ _ _ _ _ _ _ _ _ _ _ _ _ _ _ _ _ _ _ _ _ _ _ _ _ _ _ _ _ _ _ _ _ _ _ _ w2 hb2
 rw [HX.out]
 have c6:=(hb2.cell (p:=⟨w.heap.size+1,6,none⟩) L1.out).trans C67.out.1
 have c7:=(hb2.cell (p:=⟨w.heap.size+1,7,none⟩) L1.out).trans C67.out.2
 have HB2:=Lh hb2
 clear hb2 c0
 cases X
 · go_wp2
   go_ret
   refine ⟨ret_bool ?_,HB.out.trans (HB2.out.mono HB.out.size)⟩
   rw [HR.out]
   skip
   rfl
 cases hz0:(z == 0)
 · have hz1:(z != 0)=true:=by simpa using hz0
   have HZ:=Lh hz0
   go_wp2
   go_ret
   refine ⟨ret_bool ?_,HB.out.trans (HB2.out.mono HB.out.size)⟩
   rw [HR.out]
   rw [HZ.out]
   rfl
 · have hz1:(z != 0)=false:=by simpa using hz0
   have HZ:=Lh hz0
   by_cases m1:1≤m
   · have d1:decide ((1:Int)≤(m:Int))=true:=decide_eq_true (by omega)
     by_cases m2:m≤1048576
     · have d2:decide ((m:Int)≤1048576)=true:=decide_eq_true (by omega)
       go_wp2
       go_ret
       refine ⟨ret_bool ?_,HB.out.trans (HB2.out.mono HB.out.size)⟩
       rw [HR.out]
       rw [HZ.out,decide_eq_true m1,decide_eq_true m2]
       rfl
     · have d2:decide ((m:Int)≤1048576)=false:=decide_eq_false (by omega)
       go_wp2
       go_ret
       refine ⟨ret_bool ?_,HB.out.trans (HB2.out.mono HB.out.size)⟩
       rw [HR.out]
       rw [HZ.out,decide_eq_true m1,decide_eq_false m2]
       rfl
   · have d1:decide ((1:Int)≤(m:Int))=false:=decide_eq_false (by omega)
     go_wp2
     go_ret
     refine ⟨ret_bool ?_,HB.out.trans (HB2.out.mono HB.out.size)⟩
     rw [HR.out]
     rw [HZ.out,decide_eq_false m1]
     rfl
set_option maxHeartbeats 8000000 in
theorem Rfields_17 (p:LP) (Ab Ao:Option Addr) (nb cb no co:Nat) (o:LOp) (w:World) (hk:o.kind=17) :
   Calls Tryd.prog 27 #[.agg #[.int .i64 p.regs,.slice Ab nb cb,.slice Ao no co],.agg (opRow o).toArray] w fun e w'=>e=.returned (.bool (fieldsF p o))∧Below w.heap.size w w':=by
 obtain ⟨W,hW,hbW,hzW,kp,ko⟩:=two_rows w [.int .i64 p.regs,.slice Ab nb cb,.slice Ao no co] o 25 47
 have HW:=Lh hW
 have HB:=Lh hbW
 have KP:=Lh kp
 have KO:=Lh ko
 have L1:=Lh (show w.heap.size+1 < W.heap.size by omega)
 have c0:W.cell? ⟨w.heap.size+1,0,none⟩=some (.int .i64 o.kind):=by simp only [World.cell?,ko];rfl
 have c6:W.cell? ⟨w.heap.size+1,6,none⟩=some (.int .i64 o.buf):=by simp only [World.cell?,ko];rfl
 have c7:W.cell? ⟨w.heap.size+1,7,none⟩=some (.int .u64 o.imm):=by simp only [World.cell?,ko];rfl
 clear hW hbW hzW kp ko
 rw [hk] at c0
 obtain ⟨m,hm⟩:∃ m,o.imm=m:=⟨_,rfl⟩
 obtain ⟨z,hz⟩:∃ z,o.buf=z:=⟨_,rfl⟩
 obtain ⟨X,hX⟩:∃ X,(regIs p o.d false && (regIs p o.e false && ((regIs p o.a false || (false && o.a == -1)) && (regIs p o.b false && (regIs p o.c false && !(false && o.d == o.e))))))=X:=⟨_,rfl⟩
 have hf:fieldsF p o=(X && (z == 0 && decide (m=0))):=by
   rw [fields_split (by omega) (by omega),←hX,←hm,←hz]
   unfold regsB bufOk numOk
   rw [hk]
   rfl
 obtain ⟨R,hR⟩:∃ R,fieldsF p o=R:=⟨_,rfl⟩
 rw [hR]
 rw [hR] at hf
 have HR:=Lh hf
 clear hR
 rw [hm] at c7
 rw [hz] at c6
 have HX:=Lh hX
 have C67:=Lh (And.intro c6 c7)
 clear hf hm hz hX hk c6 c7
 go_enter Tryd.func27,Tryd.ntmps27
 go_upto_region 1 with fail
 rw [←HW.out]
 go_upto_region 10 with fail
 refine wp_code (c:=partR Tryd.f27 10) (by kernel_rfl) ?_
 refine rfields_r10 p Ab Ao nb cb no co o _ _ false false false false false false _ _ _ _ _ _ _ _ _ _ _ _ _ _ _ _ _ _ _ _ _ _ _ _ _ _ _ _ _ _ _ _ _ _ _ _ _ _ _ _ _ _ _ _ _ _ _ _ _ _ _ _ _ _ _ _ _ _ _ _ _ _ _ _ _ _ _ _ _ _ _ _ _ _ _ _ _ _ _ _ _ _ _ _ _ _ _ _ _ _ _ _ _ _ _ _ _ _ _ _ _ _ _ _ _ _ _ _ _ _ _ _ _ _ _ _ _ _ _ _ _ _ _ _ _ _ _ _ _ _ _ _ _ _ _ _ _ _ _ _ _ _ _ _ _ _ _ _ _ _ _ _ _ _ _ _ _ _ _ _ _ _ _ _ _ _ _ _ _ _ _ _ _ _ _ _ _ _ _ _ _ _ _ _ _ _ _ _ _ _ _ _ _ _ _ _ _ _ _ _ _ _ _ _ _ _ KP.out KO.out ?_
 intro _ _ _ _ _ _ _ _ _ _ _ _ _ _ _ _ _ _ _ _ _ _ _ _ _ _ _ _ _ _ _ _ _ _ _ _ _ _ _ _ _ _ _ _ _ _ _ _ _ _ _ _ _ _ _ _ w2 hb2
 rw [HX.out]
 have c6:=(hb2.cell (p:=⟨w.heap.size+1,6,none⟩) L1.out).trans C67.out.1
 have c7:=(hb2.cell (p:=⟨w.heap.size+1,7,none⟩) L1.out).trans C67.out.2
 have HB2:=Lh hb2
 clear hb2 c0
 cases X
 · go_wp2
   go_ret
   refine ⟨ret_bool ?_,HB.out.trans (HB2.out.mono HB.out.size)⟩
   rw [HR.out]
   skip
   rfl
 cases hz0:(z == 0)
 · have hz1:(z != 0)=true:=by simpa using hz0
   have HZ:=Lh hz0
   go_wp2
   go_ret
   refine ⟨ret_bool ?_,HB.out.trans (HB2.out.mono HB.out.size)⟩
   rw [HR.out]
   rw [HZ.out]
   rfl
 · have hz1:(z != 0)=false:=by simpa using hz0
   have HZ:=Lh hz0
   by_cases m0:m=0
   · have d0:((m:Int) == 0)=true:=by simpa using m0
     have M0:=Lh m0
     clear m0
     go_wp2
     go_ret
     refine ⟨ret_bool ?_,HB.out.trans (HB2.out.mono HB.out.size)⟩
     rw [HR.out]
     rw [HZ.out,decide_eq_true M0.out]
     rfl
   · have d0:((m:Int) == 0)=false:=by simpa using m0
     have M0:=Lh m0
     clear m0
     go_wp2
     go_ret
     refine ⟨ret_bool ?_,HB.out.trans (HB2.out.mono HB.out.size)⟩
     rw [HR.out]
     rw [HZ.out,decide_eq_false M0.out]
     rfl
end Go.Proofs.YtppoiahhaclleaaDoor
