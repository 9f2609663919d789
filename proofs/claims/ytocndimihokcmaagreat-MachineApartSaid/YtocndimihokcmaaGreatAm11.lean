/- Part 11 of a claim; what it proves stands in its last text. -/
import Derived.Test.YtocndimihokcmaaGreatAm10
import Derived.Test.YtocndimihokcmaaGreatAm5
namespace Go.Proofs.YtocndimihokcmaaGreat
open Go.RowKit
set_option maxRecDepth 100000
variable {w:World} {base b:Nat} {x:Stp} {evs:List Ev}
theorem values1 (w:World):Calls Tryz.prog 124 #[.int .i64 1] w fun e w'=>e=.returned (.tuple #[.func (.func 146) #[] #[],.bool true])∧w=w':=by
 go_enter Tryz.func124,Tryz.ntmps124
 go_wp2
 go_ret2
 exact ⟨rfl,rfl⟩
theorem hasS1 (w:World):Calls Tryz.prog 125 #[.int .i64 1] w fun e w'=>e=.returned (.bool true)∧w=w':=by
 go_enter Tryz.func125,Tryz.ntmps125
 go_wp2
 go_ret
 exact ⟨rfl,rfl⟩
set_option linter.unusedVariables false in
set_option maxHeartbeats 1600000 in
theorem over1 (h:Run w base b x evs) (hop:x.i.op=1) (D:Nat) (hD:x.i.d=D) (d:Nat) (hd:x.st.regs[D]? = some d) (S:Nat) (hS:x.i.s=S) (bb:Nat) (hb:x.st.regs[S]? = some bb) :
   Calls Tryz.prog 92 #[.pointer (some ⟨b,0,none⟩)] w fun e w'=>e=.returned (.bool true)∧Below base w w'∧Run w' base b { x with st:={ ((x.st,bb)).1 with regs:=((x.st,bb)).1.regs.set D ((x.st,bb)).2 } } evs:=by
 have hd64:d < 18446744073709551616:=h.ok.regs _ (List.mem_of_getElem? hd)
 have hDl:D < 16:=by have:=(List.getElem?_eq_some_iff.1 hd).1;rw [h.ok.len] at this;exact this
 have hb64:bb < 18446744073709551616:=h.ok.regs _ (List.mem_of_getElem? hb)
 have hSl:S < 16:=by have:=(List.getElem?_eq_some_iff.1 hb).1;rw [h.ok.len] at this;exact this
 obtain ⟨_,_,_,_,c20,c21,c22,_,_,_,_,_,c28,_⟩:=h.cells
 rw [hop] at c20
 rw [hD] at c21
 rw [hS] at c22
 have cS:=h.reg hb
 have j0:(0:Int)≤(S:Int):=by omega
 have j1:(S:Int) < 16:=by omega
 have cD:=h.reg hd
 have i0:(0:Int)≤(D:Int):=by omega
 have i1:(D:Int) < 16:=by omega
 have H:=Lh h
 have HD:=Lh hd
 have HDD:=Lh hD
 have HOP:=Lh hop
 have HLT:=Lh (And.intro hd64 hb64)
 have HDL:=Lh hDl
 clear h hop hD hd hb hd64 hb64 hDl hS
 go_enter Tryz.func92,Tryz.ntmps92
 go_wp2_with fail
 refine (values1 w).mono ?_
 rintro e w1 ⟨rfl,rfl⟩
 go_wp2_with fail
 refine (hasS1 w).mono ?_
 rintro e w1 ⟨rfl,rfl⟩
 go_wp2
 go_region
 have H2:=Lh (H.out.next ((Below.refl _ _).drew))
 have e0:Below base w w.drew:=(Below.refl _ _).drew
 have HB0:=Lh e0
 replace c20:w.drew.cell? ⟨b,20,none⟩=_:=c20
 replace c21:w.drew.cell? ⟨b,21,none⟩=_:=c21
 replace cD:w.drew.cell? ⟨b,D,none⟩=_:=cD
 clear e0 cS c22 c28 H
 generalize w.drew=w0 at *
 go_wp2
 (refine wp_region_lines (fun w_=>w_.cell? ⟨b,21,none⟩=some (.int .i64 D)∧w_.cell? ⟨b,D,none⟩=some (.int .u64 d)) (by kernel_rfl) (by kernel_rfl) ⟨c21,cD⟩ ?_)
 (try simp only [])
 repeat (first | (refine runL_no (by rfl) ?_;(try simp only [Act.put,List.setIfInBounds_toArray,List.set_cons_zero,List.set_cons_succ])) | (refine runL_val (v:=?_) (by rfl) ?_ ?_;rotate_left;(focus (intro w_ hw_;obtain ⟨f1,f2⟩:=hw_;go_simp;(try with_reducible rfl);done));(try simp only [Act.put,List.setIfInBounds_toArray,List.set_cons_zero,List.set_cons_succ])) | (refine runL_call (f:=?_) (args:=?_) (w1:=?_) (by rfl) (by rfl) ?_ ?_;rotate_left 3;(focus (go_simp;refine ⟨⟨?_,?_⟩,?_⟩ <;> with_reducible rfl));refine (val1 (H2.out.next ((Below.refl _ _).drew)) d bb HLT.out.1 HLT.out.2).mono ?_;rintro e w1 ⟨rfl,hb1,hr1⟩;have HR:=Lh hr1;have HB:=Lh (HB0.out.trans ((show Below base w0 w0.drew from (Below.refl _ _).drew).trans hb1));have c21':w1.cell? ⟨b,21,none⟩=some (.int .i64 D):=(hr1.cells.2.2.2.2.2.1).trans (by rw [HDD.out]);have cD':=hr1.reg (k:=D) (r:=d) HD.out;have c20':w1.cell? ⟨b,20,none⟩=_:=hr1.cells.2.2.2.2.1;clear hb1 hr1;refine ⟨_,rfl,.inr ⟨c21',cD'⟩,?_⟩;(try simp only [Act.put,List.setIfInBounds_toArray,List.set_cons_zero,List.set_cons_succ])))
 (refine runL_nil ?_)
 clear c21 cD c20
 have c20:=c20'
 have f0:=HR.out.frozen D
 rw [show (_:Int)=1 from HOP.out] at c20
 clear c20'
 go_wp2
 go_region
 go_wp2
 go_ret
 exact ⟨rfl,(HB.out.setCell HR.out.le _).drew,(HR.out.setReg HDL.out (HLT.out.2)).next ((Below.refl _ _).drew)⟩
theorem values7 (w:World):Calls Tryz.prog 124 #[.int .i64 7] w fun e w'=>e=.returned (.tuple #[.func (.func 149) #[] #[],.bool true])∧w=w':=by
 go_enter Tryz.func124,Tryz.ntmps124
 go_wp2
 go_ret2
 exact ⟨rfl,rfl⟩
theorem hasS7 (w:World):Calls Tryz.prog 125 #[.int .i64 7] w fun e w'=>e=.returned (.bool true)∧w=w':=by
 go_enter Tryz.func125,Tryz.ntmps125
 go_wp2
 go_ret
 exact ⟨rfl,rfl⟩
set_option linter.unusedVariables false in
set_option maxHeartbeats 1600000 in
theorem over7 (h:Run w base b x evs) (hop:x.i.op=7) (D:Nat) (hD:x.i.d=D) (d:Nat) (hd:x.st.regs[D]? = some d) (S:Nat) (hS:x.i.s=S) (bb:Nat) (hb:x.st.regs[S]? = some bb) :
   Calls Tryz.prog 92 #[.pointer (some ⟨b,0,none⟩)] w fun e w'=>e=.returned (.bool true)∧Below base w w'∧Run w' base b { x with st:={ (valueF.sumS x.st d bb x.st.cf).1 with regs:=(valueF.sumS x.st d bb x.st.cf).1.regs.set D (valueF.sumS x.st d bb x.st.cf).2 } } evs:=by
 have hd64:d < 18446744073709551616:=h.ok.regs _ (List.mem_of_getElem? hd)
 have hDl:D < 16:=by have:=(List.getElem?_eq_some_iff.1 hd).1;rw [h.ok.len] at this;exact this
 have hb64:bb < 18446744073709551616:=h.ok.regs _ (List.mem_of_getElem? hb)
 have hSl:S < 16:=by have:=(List.getElem?_eq_some_iff.1 hb).1;rw [h.ok.len] at this;exact this
 obtain ⟨_,_,_,_,c20,c21,c22,_,_,_,_,_,c28,_⟩:=h.cells
 rw [hop] at c20
 rw [hD] at c21
 rw [hS] at c22
 have cS:=h.reg hb
 have j0:(0:Int)≤(S:Int):=by omega
 have j1:(S:Int) < 16:=by omega
 have cD:=h.reg hd
 have i0:(0:Int)≤(D:Int):=by omega
 have i1:(D:Int) < 16:=by omega
 have H:=Lh h
 have HD:=Lh hd
 have HDD:=Lh hD
 have HOP:=Lh hop
 have HLT:=Lh (And.intro hd64 hb64)
 have HDL:=Lh hDl
 clear h hop hD hd hb hd64 hb64 hDl hS
 go_enter Tryz.func92,Tryz.ntmps92
 go_wp2_with fail
 refine (values7 w).mono ?_
 rintro e w1 ⟨rfl,rfl⟩
 go_wp2_with fail
 refine (hasS7 w).mono ?_
 rintro e w1 ⟨rfl,rfl⟩
 go_wp2
 go_region
 have H2:=Lh (H.out.next ((Below.refl _ _).drew))
 have e0:Below base w w.drew:=(Below.refl _ _).drew
 have HB0:=Lh e0
 replace c20:w.drew.cell? ⟨b,20,none⟩=_:=c20
 replace c21:w.drew.cell? ⟨b,21,none⟩=_:=c21
 replace cD:w.drew.cell? ⟨b,D,none⟩=_:=cD
 clear e0 cS c22 c28 H
 generalize w.drew=w0 at *
 go_wp2
 (refine wp_region_lines (fun w_=>w_.cell? ⟨b,21,none⟩=some (.int .i64 D)∧w_.cell? ⟨b,D,none⟩=some (.int .u64 d)) (by kernel_rfl) (by kernel_rfl) ⟨c21,cD⟩ ?_)
 (try simp only [])
 repeat (first | (refine runL_no (by rfl) ?_;(try simp only [Act.put,List.setIfInBounds_toArray,List.set_cons_zero,List.set_cons_succ])) | (refine runL_val (v:=?_) (by rfl) ?_ ?_;rotate_left;(focus (intro w_ hw_;obtain ⟨f1,f2⟩:=hw_;go_simp;(try with_reducible rfl);done));(try simp only [Act.put,List.setIfInBounds_toArray,List.set_cons_zero,List.set_cons_succ])) | (refine runL_call (f:=?_) (args:=?_) (w1:=?_) (by rfl) (by rfl) ?_ ?_;rotate_left 3;(focus (go_simp;refine ⟨⟨?_,?_⟩,?_⟩ <;> with_reducible rfl));refine (val3 (H2.out.next ((Below.refl _ _).drew)) d bb HLT.out.1 HLT.out.2).mono ?_;rintro e w1 ⟨rfl,hb1,hr1⟩;have HR:=Lh hr1;have HB:=Lh (HB0.out.trans ((show Below base w0 w0.drew from (Below.refl _ _).drew).trans hb1));have c21':w1.cell? ⟨b,21,none⟩=some (.int .i64 D):=(hr1.cells.2.2.2.2.2.1).trans (by rw [HDD.out]);have cD':=hr1.reg (k:=D) (r:=d) HD.out;have c20':w1.cell? ⟨b,20,none⟩=_:=hr1.cells.2.2.2.2.1;clear hb1 hr1;refine ⟨_,rfl,.inr ⟨c21',cD'⟩,?_⟩;(try simp only [Act.put,List.setIfInBounds_toArray,List.set_cons_zero,List.set_cons_succ])))
 (refine runL_nil ?_)
 clear c21 cD c20
 have c20:=c20'
 have f0:=HR.out.frozen D
 rw [show (_:Int)=7 from HOP.out] at c20
 clear c20'
 go_wp2
 go_region
 go_wp2
 go_ret
 exact ⟨rfl,(HB.out.setCell HR.out.le _).drew,(HR.out.setReg HDL.out (addF_lt _ _ _)).next ((Below.refl _ _).drew)⟩
theorem values10 (w:World):Calls Tryz.prog 124 #[.int .i64 10] w fun e w'=>e=.returned (.tuple #[.func (.func 153) #[] #[],.bool true])∧w=w':=by
 go_enter Tryz.func124,Tryz.ntmps124
 go_wp2
 go_ret2
 exact ⟨rfl,rfl⟩
theorem hasS10 (w:World):Calls Tryz.prog 125 #[.int .i64 10] w fun e w'=>e=.returned (.bool true)∧w=w':=by
 go_enter Tryz.func125,Tryz.ntmps125
 go_wp2
 go_ret
 exact ⟨rfl,rfl⟩
set_option linter.unusedVariables false in
set_option maxHeartbeats 1600000 in
theorem over10 (h:Run w base b x evs) (hop:x.i.op=10) (D:Nat) (hD:x.i.d=D) (d:Nat) (hd:x.st.regs[D]? = some d) (S:Nat) (hS:x.i.s=S) (bb:Nat) (hb:x.st.regs[S]? = some bb) :
   Calls Tryz.prog 92 #[.pointer (some ⟨b,0,none⟩)] w fun e w'=>e=.returned (.bool true)∧Below base w w'∧Run w' base b { x with st:={ (valueF.plainS x.st (d &&& bb)).1 with regs:=(valueF.plainS x.st (d &&& bb)).1.regs.set D (valueF.plainS x.st (d &&& bb)).2 } } evs:=by
 have hd64:d < 18446744073709551616:=h.ok.regs _ (List.mem_of_getElem? hd)
 have hDl:D < 16:=by have:=(List.getElem?_eq_some_iff.1 hd).1;rw [h.ok.len] at this;exact this
 have hb64:bb < 18446744073709551616:=h.ok.regs _ (List.mem_of_getElem? hb)
 have hSl:S < 16:=by have:=(List.getElem?_eq_some_iff.1 hb).1;rw [h.ok.len] at this;exact this
 obtain ⟨_,_,_,_,c20,c21,c22,_,_,_,_,_,c28,_⟩:=h.cells
 rw [hop] at c20
 rw [hD] at c21
 rw [hS] at c22
 have cS:=h.reg hb
 have j0:(0:Int)≤(S:Int):=by omega
 have j1:(S:Int) < 16:=by omega
 have cD:=h.reg hd
 have i0:(0:Int)≤(D:Int):=by omega
 have i1:(D:Int) < 16:=by omega
 have H:=Lh h
 have HD:=Lh hd
 have HDD:=Lh hD
 have HOP:=Lh hop
 have HLT:=Lh (And.intro hd64 hb64)
 have HDL:=Lh hDl
 clear h hop hD hd hb hd64 hb64 hDl hS
 go_enter Tryz.func92,Tryz.ntmps92
 go_wp2_with fail
 refine (values10 w).mono ?_
 rintro e w1 ⟨rfl,rfl⟩
 go_wp2_with fail
 refine (hasS10 w).mono ?_
 rintro e w1 ⟨rfl,rfl⟩
 go_wp2
 go_region
 have H2:=Lh (H.out.next ((Below.refl _ _).drew))
 have e0:Below base w w.drew:=(Below.refl _ _).drew
 have HB0:=Lh e0
 replace c20:w.drew.cell? ⟨b,20,none⟩=_:=c20
 replace c21:w.drew.cell? ⟨b,21,none⟩=_:=c21
 replace cD:w.drew.cell? ⟨b,D,none⟩=_:=cD
 clear e0 cS c22 c28 H
 generalize w.drew=w0 at *
 go_wp2
 (refine wp_region_lines (fun w_=>w_.cell? ⟨b,21,none⟩=some (.int .i64 D)∧w_.cell? ⟨b,D,none⟩=some (.int .u64 d)) (by kernel_rfl) (by kernel_rfl) ⟨c21,cD⟩ ?_)
 (try simp only [])
 repeat (first | (refine runL_no (by rfl) ?_;(try simp only [Act.put,List.setIfInBounds_toArray,List.set_cons_zero,List.set_cons_succ])) | (refine runL_val (v:=?_) (by rfl) ?_ ?_;rotate_left;(focus (intro w_ hw_;obtain ⟨f1,f2⟩:=hw_;go_simp;(try with_reducible rfl);done));(try simp only [Act.put,List.setIfInBounds_toArray,List.set_cons_zero,List.set_cons_succ])) | (refine runL_call (f:=?_) (args:=?_) (w1:=?_) (by rfl) (by rfl) ?_ ?_;rotate_left 3;(focus (go_simp;refine ⟨⟨?_,?_⟩,?_⟩ <;> with_reducible rfl));refine (val6 (H2.out.next ((Below.refl _ _).drew)) d bb HLT.out.1 HLT.out.2).mono ?_;rintro e w1 ⟨rfl,hb1,hr1⟩;have HR:=Lh hr1;have HB:=Lh (HB0.out.trans ((show Below base w0 w0.drew from (Below.refl _ _).drew).trans hb1));have c21':w1.cell? ⟨b,21,none⟩=some (.int .i64 D):=(hr1.cells.2.2.2.2.2.1).trans (by rw [HDD.out]);have cD':=hr1.reg (k:=D) (r:=d) HD.out;have c20':w1.cell? ⟨b,20,none⟩=_:=hr1.cells.2.2.2.2.1;clear hb1 hr1;refine ⟨_,rfl,.inr ⟨c21',cD'⟩,?_⟩;(try simp only [Act.put,List.setIfInBounds_toArray,List.set_cons_zero,List.set_cons_succ])))
 (refine runL_nil ?_)
 clear c21 cD c20
 have c20:=c20'
 have f0:=HR.out.frozen D
 rw [show (_:Int)=10 from HOP.out] at c20
 clear c20'
 go_wp2
 go_region
 go_wp2
 go_ret
 exact ⟨rfl,(HB.out.setCell HR.out.le _).drew,(HR.out.setReg HDL.out (and_lt HLT.out.1)).next ((Below.refl _ _).drew)⟩
theorem values13 (w:World):Calls Tryz.prog 124 #[.int .i64 13] w fun e w'=>e=.returned (.tuple #[.func (.func 150) #[] #[],.bool true])∧w=w':=by
 go_enter Tryz.func124,Tryz.ntmps124
 go_wp2
 go_ret2
 exact ⟨rfl,rfl⟩
theorem hasS13 (w:World):Calls Tryz.prog 125 #[.int .i64 13] w fun e w'=>e=.returned (.bool true)∧w=w':=by
 go_enter Tryz.func125,Tryz.ntmps125
 go_wp2
 go_ret
 exact ⟨rfl,rfl⟩
set_option linter.unusedVariables false in
set_option maxHeartbeats 1600000 in
theorem over13 (h:Run w base b x evs) (hop:x.i.op=13) (D:Nat) (hD:x.i.d=D) (d:Nat) (hd:x.st.regs[D]? = some d) (S:Nat) (hS:x.i.s=S) (bb:Nat) (hb:x.st.regs[S]? = some bb) :
   Calls Tryz.prog 92 #[.pointer (some ⟨b,0,none⟩)] w fun e w'=>e=.returned (.bool true)∧Below base w w'∧Run w' base b { x with st:=(valueF.restS x.st d bb false).1 } evs:=by
 have hd64:d < 18446744073709551616:=h.ok.regs _ (List.mem_of_getElem? hd)
 have hDl:D < 16:=by have:=(List.getElem?_eq_some_iff.1 hd).1;rw [h.ok.len] at this;exact this
 have hb64:bb < 18446744073709551616:=h.ok.regs _ (List.mem_of_getElem? hb)
 have hSl:S < 16:=by have:=(List.getElem?_eq_some_iff.1 hb).1;rw [h.ok.len] at this;exact this
 obtain ⟨_,_,_,_,c20,c21,c22,_,_,_,_,_,c28,_⟩:=h.cells
 rw [hop] at c20
 rw [hD] at c21
 rw [hS] at c22
 have cS:=h.reg hb
 have j0:(0:Int)≤(S:Int):=by omega
 have j1:(S:Int) < 16:=by omega
 have cD:=h.reg hd
 have i0:(0:Int)≤(D:Int):=by omega
 have i1:(D:Int) < 16:=by omega
 have H:=Lh h
 have HD:=Lh hd
 have HDD:=Lh hD
 have HOP:=Lh hop
 have HLT:=Lh (And.intro hd64 hb64)
 have HDL:=Lh hDl
 clear h hop hD hd hb hd64 hb64 hDl hS
 go_enter Tryz.func92,Tryz.ntmps92
 go_wp2_with fail
 refine (values13 w).mono ?_
 rintro e w1 ⟨rfl,rfl⟩
 go_wp2_with fail
 refine (hasS13 w).mono ?_
 rintro e w1 ⟨rfl,rfl⟩
 go_wp2
 go_region
 have H2:=Lh (H.out.next ((Below.refl _ _).drew))
 have e0:Below base w w.drew:=(Below.refl _ _).drew
 have HB0:=Lh e0
 replace c20:w.drew.cell? ⟨b,20,none⟩=_:=c20
 replace c21:w.drew.cell? ⟨b,21,none⟩=_:=c21
 replace cD:w.drew.cell? ⟨b,D,none⟩=_:=cD
 clear e0 cS c22 c28 H
 generalize w.drew=w0 at *
 go_wp2
 (refine wp_region_lines (fun w_=>w_.cell? ⟨b,21,none⟩=some (.int .i64 D)∧w_.cell? ⟨b,D,none⟩=some (.int .u64 d)) (by kernel_rfl) (by kernel_rfl) ⟨c21,cD⟩ ?_)
 (try simp only [])
 repeat (first | (refine runL_no (by rfl) ?_;(try simp only [Act.put,List.setIfInBounds_toArray,List.set_cons_zero,List.set_cons_succ])) | (refine runL_val (v:=?_) (by rfl) ?_ ?_;rotate_left;(focus (intro w_ hw_;obtain ⟨f1,f2⟩:=hw_;go_simp;(try with_reducible rfl);done));(try simp only [Act.put,List.setIfInBounds_toArray,List.set_cons_zero,List.set_cons_succ])) | (refine runL_call (f:=?_) (args:=?_) (w1:=?_) (by rfl) (by rfl) ?_ ?_;rotate_left 3;(focus (go_simp;refine ⟨⟨?_,?_⟩,?_⟩ <;> with_reducible rfl));refine (val4 (H2.out.next ((Below.refl _ _).drew)) d bb HLT.out.1 HLT.out.2).mono ?_;rintro e w1 ⟨rfl,hb1,hr1⟩;have HR:=Lh hr1;have HB:=Lh (HB0.out.trans ((show Below base w0 w0.drew from (Below.refl _ _).drew).trans hb1));have c21':w1.cell? ⟨b,21,none⟩=some (.int .i64 D):=(hr1.cells.2.2.2.2.2.1).trans (by rw [HDD.out]);have cD':=hr1.reg (k:=D) (r:=d) HD.out;have c20':w1.cell? ⟨b,20,none⟩=_:=hr1.cells.2.2.2.2.1;clear hb1 hr1;refine ⟨_,rfl,.inr ⟨c21',cD'⟩,?_⟩;(try simp only [Act.put,List.setIfInBounds_toArray,List.set_cons_zero,List.set_cons_succ])))
 (refine runL_nil ?_)
 clear c21 cD c20
 have c20:=c20'
 have f0:=HR.out.frozen D
 rw [show (_:Int)=13 from HOP.out] at c20
 clear c20'
 go_wp2
 go_ret
 exact ⟨rfl,HB.out,HR.out⟩
theorem values16 (w:World):Calls Tryz.prog 124 #[.int .i64 16] w fun e w'=>e=.returned (.tuple #[.func (.func 153) #[] #[],.bool true])∧w=w':=by
 go_enter Tryz.func124,Tryz.ntmps124
 go_wp2
 go_ret2
 exact ⟨rfl,rfl⟩
theorem hasS16 (w:World):Calls Tryz.prog 125 #[.int .i64 16] w fun e w'=>e=.returned (.bool false)∧w=w':=by
 go_enter Tryz.func125,Tryz.ntmps125
 go_wp2
 go_ret
 exact ⟨rfl,rfl⟩
set_option linter.unusedVariables false in
set_option maxHeartbeats 1600000 in
theorem over16 (h:Run w base b x evs) (hop:x.i.op=16) (D:Nat) (hD:x.i.d=D) (d:Nat) (hd:x.st.regs[D]? = some d) (bb:Nat) (hb:bb=u64 x.i.imm) :
   Calls Tryz.prog 92 #[.pointer (some ⟨b,0,none⟩)] w fun e w'=>e=.returned (.bool true)∧Below base w w'∧Run w' base b { x with st:={ (valueF.plainS x.st (d &&& bb)).1 with regs:=(valueF.plainS x.st (d &&& bb)).1.regs.set D (valueF.plainS x.st (d &&& bb)).2 } } evs:=by
 have hd64:d < 18446744073709551616:=h.ok.regs _ (List.mem_of_getElem? hd)
 have hDl:D < 16:=by have:=(List.getElem?_eq_some_iff.1 hd).1;rw [h.ok.len] at this;exact this
 have hb64:bb < 18446744073709551616:=by rw [hb];exact u64_lt _
 obtain ⟨_,_,_,_,c20,c21,c22,_,_,_,_,_,c28,_⟩:=h.cells
 rw [hop] at c20
 rw [hD] at c21
 have aA:=wrap_u64 x.i.imm
 rw [←hb] at aA
 have cD:=h.reg hd
 have i0:(0:Int)≤(D:Int):=by omega
 have i1:(D:Int) < 16:=by omega
 have H:=Lh h
 have HD:=Lh hd
 have HDD:=Lh hD
 have HOP:=Lh hop
 have HLT:=Lh (And.intro hd64 hb64)
 have HDL:=Lh hDl
 clear h hop hD hd hb hd64 hb64 hDl
 go_enter Tryz.func92,Tryz.ntmps92
 go_wp2_with fail
 refine (values16 w).mono ?_
 rintro e w1 ⟨rfl,rfl⟩
 go_wp2_with fail
 refine (hasS16 w).mono ?_
 rintro e w1 ⟨rfl,rfl⟩
 go_wp2
 have H2:=H
 have HB0:=Lh (Below.refl base w)
 clear H c22 c28
 obtain ⟨w0,rfl⟩:∃ w0:World,w0=w:=⟨_,rfl⟩
 (refine wp_region_lines (fun w_=>w_.cell? ⟨b,21,none⟩=some (.int .i64 D)∧w_.cell? ⟨b,D,none⟩=some (.int .u64 d)) (by kernel_rfl) (by kernel_rfl) ⟨c21,cD⟩ ?_)
 (try simp only [])
 repeat (first | (refine runL_no (by rfl) ?_;(try simp only [Act.put,List.setIfInBounds_toArray,List.set_cons_zero,List.set_cons_succ])) | (refine runL_val (v:=?_) (by rfl) ?_ ?_;rotate_left;(focus (intro w_ hw_;obtain ⟨f1,f2⟩:=hw_;go_simp;(try with_reducible rfl);done));(try simp only [Act.put,List.setIfInBounds_toArray,List.set_cons_zero,List.set_cons_succ])) | (refine runL_call (f:=?_) (args:=?_) (w1:=?_) (by rfl) (by rfl) ?_ ?_;rotate_left 3;(focus (go_simp;refine ⟨⟨?_,?_⟩,?_⟩ <;> with_reducible rfl));refine (val6 (H2.out.next ((Below.refl _ _).drew)) d bb HLT.out.1 HLT.out.2).mono ?_;rintro e w1 ⟨rfl,hb1,hr1⟩;have HR:=Lh hr1;have HB:=Lh (HB0.out.trans ((show Below base w0 w0.drew from (Below.refl _ _).drew).trans hb1));have c21':w1.cell? ⟨b,21,none⟩=some (.int .i64 D):=(hr1.cells.2.2.2.2.2.1).trans (by rw [HDD.out]);have cD':=hr1.reg (k:=D) (r:=d) HD.out;have c20':w1.cell? ⟨b,20,none⟩=_:=hr1.cells.2.2.2.2.1;clear hb1 hr1;refine ⟨_,rfl,.inr ⟨c21',cD'⟩,?_⟩;(try simp only [Act.put,List.setIfInBounds_toArray,List.set_cons_zero,List.set_cons_succ])))
 (refine runL_nil ?_)
 clear c21 cD c20
 have c20:=c20'
 have f0:=HR.out.frozen D
 rw [show (_:Int)=16 from HOP.out] at c20
 clear c20'
 go_wp2
 go_region
 go_wp2
 go_ret
 exact ⟨rfl,(HB.out.setCell HR.out.le _).drew,(HR.out.setReg HDL.out (and_lt HLT.out.1)).next ((Below.refl _ _).drew)⟩
theorem values20 (w:World):Calls Tryz.prog 124 #[.int .i64 20] w fun e w'=>e=.returned (.tuple #[.func (.func 162) #[] #[],.bool true])∧w=w':=by
 go_enter Tryz.func124,Tryz.ntmps124
 go_wp2
 go_ret2
 exact ⟨rfl,rfl⟩
theorem hasS20 (w:World):Calls Tryz.prog 125 #[.int .i64 20] w fun e w'=>e=.returned (.bool true)∧w=w':=by
 go_enter Tryz.func125,Tryz.ntmps125
 go_wp2
 go_ret
 exact ⟨rfl,rfl⟩
set_option linter.unusedVariables false in
set_option maxHeartbeats 1600000 in
theorem over20 (h:Run w base b x evs) (hop:x.i.op=20) (D:Nat) (hD:x.i.d=D) (d:Nat) (hd:x.st.regs[D]? = some d) (S:Nat) (hS:x.i.s=S) (bb:Nat) (hb:x.st.regs[S]? = some bb) :
   Calls Tryz.prog 92 #[.pointer (some ⟨b,0,none⟩)] w fun e w'=>e=.returned (.bool true)∧Below base w w'∧Run w' base b { x with st:={ (({ x.st with cf:=(addF d bb x.st.cf).2 },(addF d bb x.st.cf).1)).1 with regs:=(({ x.st with cf:=(addF d bb x.st.cf).2 },(addF d bb x.st.cf).1)).1.regs.set D (({ x.st with cf:=(addF d bb x.st.cf).2 },(addF d bb x.st.cf).1)).2 } } evs:=by
 have hd64:d < 18446744073709551616:=h.ok.regs _ (List.mem_of_getElem? hd)
 have hDl:D < 16:=by have:=(List.getElem?_eq_some_iff.1 hd).1;rw [h.ok.len] at this;exact this
 have hb64:bb < 18446744073709551616:=h.ok.regs _ (List.mem_of_getElem? hb)
 have hSl:S < 16:=by have:=(List.getElem?_eq_some_iff.1 hb).1;rw [h.ok.len] at this;exact this
 obtain ⟨_,_,_,_,c20,c21,c22,_,_,_,_,_,c28,_⟩:=h.cells
 rw [hop] at c20
 rw [hD] at c21
 rw [hS] at c22
 have cS:=h.reg hb
 have j0:(0:Int)≤(S:Int):=by omega
 have j1:(S:Int) < 16:=by omega
 have cD:=h.reg hd
 have i0:(0:Int)≤(D:Int):=by omega
 have i1:(D:Int) < 16:=by omega
 have H:=Lh h
 have HD:=Lh hd
 have HDD:=Lh hD
 have HOP:=Lh hop
 have HLT:=Lh (And.intro hd64 hb64)
 have HDL:=Lh hDl
 clear h hop hD hd hb hd64 hb64 hDl hS
 go_enter Tryz.func92,Tryz.ntmps92
 go_wp2_with fail
 refine (values20 w).mono ?_
 rintro e w1 ⟨rfl,rfl⟩
 go_wp2_with fail
 refine (hasS20 w).mono ?_
 rintro e w1 ⟨rfl,rfl⟩
 go_wp2
 go_region
 have H2:=Lh (H.out.next ((Below.refl _ _).drew))
 have e0:Below base w w.drew:=(Below.refl _ _).drew
 have HB0:=Lh e0
 replace c20:w.drew.cell? ⟨b,20,none⟩=_:=c20
 replace c21:w.drew.cell? ⟨b,21,none⟩=_:=c21
 replace cD:w.drew.cell? ⟨b,D,none⟩=_:=cD
 clear e0 cS c22 c28 H
 generalize w.drew=w0 at *
 go_wp2
 (refine wp_region_lines (fun w_=>w_.cell? ⟨b,21,none⟩=some (.int .i64 D)∧w_.cell? ⟨b,D,none⟩=some (.int .u64 d)) (by kernel_rfl) (by kernel_rfl) ⟨c21,cD⟩ ?_)
 (try simp only [])
 repeat (first | (refine runL_no (by rfl) ?_;(try simp only [Act.put,List.setIfInBounds_toArray,List.set_cons_zero,List.set_cons_succ])) | (refine runL_val (v:=?_) (by rfl) ?_ ?_;rotate_left;(focus (intro w_ hw_;obtain ⟨f1,f2⟩:=hw_;go_simp;(try with_reducible rfl);done));(try simp only [Act.put,List.setIfInBounds_toArray,List.set_cons_zero,List.set_cons_succ])) | (refine runL_call (f:=?_) (args:=?_) (w1:=?_) (by rfl) (by rfl) ?_ ?_;rotate_left 3;(focus (go_simp;refine ⟨⟨?_,?_⟩,?_⟩ <;> with_reducible rfl));refine (val13 (H2.out.next ((Below.refl _ _).drew)) d bb HLT.out.1 HLT.out.2).mono ?_;rintro e w1 ⟨rfl,hb1,hr1⟩;have HR:=Lh hr1;have HB:=Lh (HB0.out.trans ((show Below base w0 w0.drew from (Below.refl _ _).drew).trans hb1));have c21':w1.cell? ⟨b,21,none⟩=some (.int .i64 D):=(hr1.cells.2.2.2.2.2.1).trans (by rw [HDD.out]);have cD':=hr1.reg (k:=D) (r:=d) HD.out;have c20':w1.cell? ⟨b,20,none⟩=_:=hr1.cells.2.2.2.2.1;clear hb1 hr1;refine ⟨_,rfl,.inr ⟨c21',cD'⟩,?_⟩;(try simp only [Act.put,List.setIfInBounds_toArray,List.set_cons_zero,List.set_cons_succ])))
 (refine runL_nil ?_)
 clear c21 cD c20
 have c20:=c20'
 have f0:=HR.out.frozen D
 rw [show (_:Int)=20 from HOP.out] at c20
 clear c20'
 go_wp2
 go_region
 go_wp2
 go_ret
 exact ⟨rfl,(HB.out.setCell HR.out.le _).drew,(HR.out.setReg HDL.out (addF_lt _ _ _)).next ((Below.refl _ _).drew)⟩
theorem values23 (w:World):Calls Tryz.prog 124 #[.int .i64 23] w fun e w'=>e=.returned (.tuple #[.func (.func 158) #[] #[],.bool true])∧w=w':=by
 go_enter Tryz.func124,Tryz.ntmps124
 go_wp2
 go_ret2
 exact ⟨rfl,rfl⟩
theorem hasS23 (w:World):Calls Tryz.prog 125 #[.int .i64 23] w fun e w'=>e=.returned (.bool false)∧w=w':=by
 go_enter Tryz.func125,Tryz.ntmps125
 go_wp2
 go_ret
 exact ⟨rfl,rfl⟩
set_option linter.unusedVariables false in
set_option maxHeartbeats 1600000 in
theorem over23 (h:Run w base b x evs) (hop:x.i.op=23) (D:Nat) (hD:x.i.d=D) (d:Nat) (hd:x.st.regs[D]? = some d) (bb:Nat) (hb:bb=u64 x.i.imm) :
   Calls Tryz.prog 92 #[.pointer (some ⟨b,0,none⟩)] w fun e w'=>e=.returned (.bool true)∧Below base w w'∧Run w' base b { x with st:={ ((x.st,18446744073709551615 - d)).1 with regs:=((x.st,18446744073709551615 - d)).1.regs.set D ((x.st,18446744073709551615 - d)).2 } } evs:=by
 have hd64:d < 18446744073709551616:=h.ok.regs _ (List.mem_of_getElem? hd)
 have hDl:D < 16:=by have:=(List.getElem?_eq_some_iff.1 hd).1;rw [h.ok.len] at this;exact this
 have hb64:bb < 18446744073709551616:=by rw [hb];exact u64_lt _
 obtain ⟨_,_,_,_,c20,c21,c22,_,_,_,_,_,c28,_⟩:=h.cells
 rw [hop] at c20
 rw [hD] at c21
 have aA:=wrap_u64 x.i.imm
 rw [←hb] at aA
 have cD:=h.reg hd
 have i0:(0:Int)≤(D:Int):=by omega
 have i1:(D:Int) < 16:=by omega
 have H:=Lh h
 have HD:=Lh hd
 have HDD:=Lh hD
 have HOP:=Lh hop
 have HLT:=Lh (And.intro hd64 hb64)
 have HDL:=Lh hDl
 clear h hop hD hd hb hd64 hb64 hDl
 go_enter Tryz.func92,Tryz.ntmps92
 go_wp2_with fail
 refine (values23 w).mono ?_
 rintro e w1 ⟨rfl,rfl⟩
 go_wp2_with fail
 refine (hasS23 w).mono ?_
 rintro e w1 ⟨rfl,rfl⟩
 go_wp2
 have H2:=H
 have HB0:=Lh (Below.refl base w)
 clear H c22 c28
 obtain ⟨w0,rfl⟩:∃ w0:World,w0=w:=⟨_,rfl⟩
 (refine wp_region_lines (fun w_=>w_.cell? ⟨b,21,none⟩=some (.int .i64 D)∧w_.cell? ⟨b,D,none⟩=some (.int .u64 d)) (by kernel_rfl) (by kernel_rfl) ⟨c21,cD⟩ ?_)
 (try simp only [])
 repeat (first | (refine runL_no (by rfl) ?_;(try simp only [Act.put,List.setIfInBounds_toArray,List.set_cons_zero,List.set_cons_succ])) | (refine runL_val (v:=?_) (by rfl) ?_ ?_;rotate_left;(focus (intro w_ hw_;obtain ⟨f1,f2⟩:=hw_;go_simp;(try with_reducible rfl);done));(try simp only [Act.put,List.setIfInBounds_toArray,List.set_cons_zero,List.set_cons_succ])) | (refine runL_call (f:=?_) (args:=?_) (w1:=?_) (by rfl) (by rfl) ?_ ?_;rotate_left 3;(focus (go_simp;refine ⟨⟨?_,?_⟩,?_⟩ <;> with_reducible rfl));refine (val10 (H2.out.next ((Below.refl _ _).drew)) d bb HLT.out.1 HLT.out.2).mono ?_;rintro e w1 ⟨rfl,hb1,hr1⟩;have HR:=Lh hr1;have HB:=Lh (HB0.out.trans ((show Below base w0 w0.drew from (Below.refl _ _).drew).trans hb1));have c21':w1.cell? ⟨b,21,none⟩=some (.int .i64 D):=(hr1.cells.2.2.2.2.2.1).trans (by rw [HDD.out]);have cD':=hr1.reg (k:=D) (r:=d) HD.out;have c20':w1.cell? ⟨b,20,none⟩=_:=hr1.cells.2.2.2.2.1;clear hb1 hr1;refine ⟨_,rfl,.inr ⟨c21',cD'⟩,?_⟩;(try simp only [Act.put,List.setIfInBounds_toArray,List.set_cons_zero,List.set_cons_succ])))
 (refine runL_nil ?_)
 clear c21 cD c20
 have c20:=c20'
 have f0:=HR.out.frozen D
 rw [show (_:Int)=23 from HOP.out] at c20
 clear c20'
 go_wp2
 go_region
 go_wp2
 go_ret
 exact ⟨rfl,(HB.out.setCell HR.out.le _).drew,(HR.out.setReg HDL.out (by show 18446744073709551615 - d < _;omega)).next ((Below.refl _ _).drew)⟩
theorem values26 (w:World):Calls Tryz.prog 124 #[.int .i64 26] w fun e w'=>e=.returned (.tuple #[.func (.func 165) #[] #[],.bool true])∧w=w':=by
 go_enter Tryz.func124,Tryz.ntmps124
 go_wp2
 go_ret2
 exact ⟨rfl,rfl⟩
theorem hasS26 (w:World):Calls Tryz.prog 125 #[.int .i64 26] w fun e w'=>e=.returned (.bool true)∧w=w':=by
 go_enter Tryz.func125,Tryz.ntmps125
 go_wp2
 go_ret
 exact ⟨rfl,rfl⟩
set_option linter.unusedVariables false in
set_option maxHeartbeats 1600000 in
theorem over26 (h:Run w base b x evs) (hop:x.i.op=26) (D:Nat) (hD:x.i.d=D) (d:Nat) (hd:x.st.regs[D]? = some d) (S:Nat) (hS:x.i.s=S) (bb:Nat) (hb:x.st.regs[S]? = some bb) (q:Nat) (hq:q=if x.st.cf then bb else d) :
   Calls Tryz.prog 92 #[.pointer (some ⟨b,0,none⟩)] w fun e w'=>e=.returned (.bool true)∧Below base w w'∧Run w' base b { x with st:={ ((x.st,q)).1 with regs:=((x.st,q)).1.regs.set D ((x.st,q)).2 } } evs:=by
 have hd64:d < 18446744073709551616:=h.ok.regs _ (List.mem_of_getElem? hd)
 have hDl:D < 16:=by have:=(List.getElem?_eq_some_iff.1 hd).1;rw [h.ok.len] at this;exact this
 have hb64:bb < 18446744073709551616:=h.ok.regs _ (List.mem_of_getElem? hb)
 have hSl:S < 16:=by have:=(List.getElem?_eq_some_iff.1 hb).1;rw [h.ok.len] at this;exact this
 obtain ⟨_,_,_,_,c20,c21,c22,_,_,_,_,_,c28,_⟩:=h.cells
 rw [hop] at c20
 rw [hD] at c21
 rw [hS] at c22
 have cS:=h.reg hb
 have j0:(0:Int)≤(S:Int):=by omega
 have j1:(S:Int) < 16:=by omega
 have cD:=h.reg hd
 have i0:(0:Int)≤(D:Int):=by omega
 have i1:(D:Int) < 16:=by omega
 have H:=Lh h
 have HQ:=Lh hq
 clear hq
 have HD:=Lh hd
 have HDD:=Lh hD
 have HOP:=Lh hop
 have HLT:=Lh (And.intro hd64 hb64)
 have HDL:=Lh hDl
 clear h hop hD hd hb hd64 hb64 hDl hS
 go_enter Tryz.func92,Tryz.ntmps92
 go_wp2_with fail
 refine (values26 w).mono ?_
 rintro e w1 ⟨rfl,rfl⟩
 go_wp2_with fail
 refine (hasS26 w).mono ?_
 rintro e w1 ⟨rfl,rfl⟩
 go_wp2
 go_region
 have H2:=Lh (H.out.next ((Below.refl _ _).drew))
 have e0:Below base w w.drew:=(Below.refl _ _).drew
 have HB0:=Lh e0
 replace c20:w.drew.cell? ⟨b,20,none⟩=_:=c20
 replace c21:w.drew.cell? ⟨b,21,none⟩=_:=c21
 replace cD:w.drew.cell? ⟨b,D,none⟩=_:=cD
 clear e0 cS c22 c28 H
 generalize w.drew=w0 at *
 go_wp2
 (refine wp_region_lines (fun w_=>w_.cell? ⟨b,21,none⟩=some (.int .i64 D)∧w_.cell? ⟨b,D,none⟩=some (.int .u64 d)) (by kernel_rfl) (by kernel_rfl) ⟨c21,cD⟩ ?_)
 (try simp only [])
 repeat (first | (refine runL_no (by rfl) ?_;(try simp only [Act.put,List.setIfInBounds_toArray,List.set_cons_zero,List.set_cons_succ])) | (refine runL_val (v:=?_) (by rfl) ?_ ?_;rotate_left;(focus (intro w_ hw_;obtain ⟨f1,f2⟩:=hw_;go_simp;(try with_reducible rfl);done));(try simp only [Act.put,List.setIfInBounds_toArray,List.set_cons_zero,List.set_cons_succ])) | (refine runL_call (f:=?_) (args:=?_) (w1:=?_) (by rfl) (by rfl) ?_ ?_;rotate_left 3;(focus (go_simp;refine ⟨⟨?_,?_⟩,?_⟩ <;> with_reducible rfl));refine (val15q (H2.out.next ((Below.refl _ _).drew)) d bb HLT.out.1 HLT.out.2 q HQ.out).mono ?_;rintro e w1 ⟨rfl,hb1,hr1⟩;have HR:=Lh hr1;have HB:=Lh (HB0.out.trans ((show Below base w0 w0.drew from (Below.refl _ _).drew).trans hb1));have c21':w1.cell? ⟨b,21,none⟩=some (.int .i64 D):=(hr1.cells.2.2.2.2.2.1).trans (by rw [HDD.out]);have cD':=hr1.reg (k:=D) (r:=d) HD.out;have c20':w1.cell? ⟨b,20,none⟩=_:=hr1.cells.2.2.2.2.1;clear hb1 hr1;refine ⟨_,rfl,.inr ⟨c21',cD'⟩,?_⟩;(try simp only [Act.put,List.setIfInBounds_toArray,List.set_cons_zero,List.set_cons_succ])))
 (refine runL_nil ?_)
 clear c21 cD c20
 have c20:=c20'
 have f0:=HR.out.frozen D
 rw [show (_:Int)=26 from HOP.out] at c20
 clear c20'
 go_wp2
 go_region
 go_wp2
 go_ret
 exact ⟨rfl,(HB.out.setCell HR.out.le _).drew,(HR.out.setReg HDL.out (by show q < _;rw [HQ.out];exact ite_lt HLT.out.2 HLT.out.1)).next ((Below.refl _ _).drew)⟩
end Go.Proofs.YtocndimihokcmaaGreat
namespace Go.Proofs.YtocndimihokcmaaGreat
open Go.RowKit
set_option maxRecDepth 100000
variable {w:World} {base b:Nat} {x:Stp} {evs:List Ev}
theorem values2 (w:World):Calls Tryz.prog 124 #[.int .i64 2] w fun e w'=>e=.returned (.tuple #[.func (.func 146) #[] #[],.bool true])∧w=w':=by
 go_enter Tryz.func124,Tryz.ntmps124
 go_wp2
 go_ret2
 exact ⟨rfl,rfl⟩
theorem hasS2 (w:World):Calls Tryz.prog 125 #[.int .i64 2] w fun e w'=>e=.returned (.bool false)∧w=w':=by
 go_enter Tryz.func125,Tryz.ntmps125
 go_wp2
 go_ret
 exact ⟨rfl,rfl⟩
set_option linter.unusedVariables false in
set_option maxHeartbeats 1600000 in
theorem over2 (h:Run w base b x evs) (hop:x.i.op=2) (D:Nat) (hD:x.i.d=D) (d:Nat) (hd:x.st.regs[D]? = some d) (bb:Nat) (hb:bb=u64 x.i.imm) :
   Calls Tryz.prog 92 #[.pointer (some ⟨b,0,none⟩)] w fun e w'=>e=.returned (.bool true)∧Below base w w'∧Run w' base b { x with st:={ ((x.st,bb)).1 with regs:=((x.st,bb)).1.regs.set D ((x.st,bb)).2 } } evs:=by
 have hd64:d < 18446744073709551616:=h.ok.regs _ (List.mem_of_getElem? hd)
 have hDl:D < 16:=by have:=(List.getElem?_eq_some_iff.1 hd).1;rw [h.ok.len] at this;exact this
 have hb64:bb < 18446744073709551616:=by rw [hb];exact u64_lt _
 obtain ⟨_,_,_,_,c20,c21,c22,_,_,_,_,_,c28,_⟩:=h.cells
 rw [hop] at c20
 rw [hD] at c21
 have aA:=wrap_u64 x.i.imm
 rw [←hb] at aA
 have cD:=h.reg hd
 have i0:(0:Int)≤(D:Int):=by omega
 have i1:(D:Int) < 16:=by omega
 have H:=Lh h
 have HD:=Lh hd
 have HDD:=Lh hD
 have HOP:=Lh hop
 have HLT:=Lh (And.intro hd64 hb64)
 have HDL:=Lh hDl
 clear h hop hD hd hb hd64 hb64 hDl
 go_enter Tryz.func92,Tryz.ntmps92
 go_wp2_with fail
 refine (values2 w).mono ?_
 rintro e w1 ⟨rfl,rfl⟩
 go_wp2_with fail
 refine (hasS2 w).mono ?_
 rintro e w1 ⟨rfl,rfl⟩
 go_wp2
 have H2:=H
 have HB0:=Lh (Below.refl base w)
 clear H c22 c28
 obtain ⟨w0,rfl⟩:∃ w0:World,w0=w:=⟨_,rfl⟩
 (refine wp_region_lines (fun w_=>w_.cell? ⟨b,21,none⟩=some (.int .i64 D)∧w_.cell? ⟨b,D,none⟩=some (.int .u64 d)) (by kernel_rfl) (by kernel_rfl) ⟨c21,cD⟩ ?_)
 (try simp only [])
 repeat (first | (refine runL_no (by rfl) ?_;(try simp only [Act.put,List.setIfInBounds_toArray,List.set_cons_zero,List.set_cons_succ])) | (refine runL_val (v:=?_) (by rfl) ?_ ?_;rotate_left;(focus (intro w_ hw_;obtain ⟨f1,f2⟩:=hw_;go_simp;(try with_reducible rfl);done));(try simp only [Act.put,List.setIfInBounds_toArray,List.set_cons_zero,List.set_cons_succ])) | (refine runL_call (f:=?_) (args:=?_) (w1:=?_) (by rfl) (by rfl) ?_ ?_;rotate_left 3;(focus (go_simp;refine ⟨⟨?_,?_⟩,?_⟩ <;> with_reducible rfl));refine (val1 (H2.out.next ((Below.refl _ _).drew)) d bb HLT.out.1 HLT.out.2).mono ?_;rintro e w1 ⟨rfl,hb1,hr1⟩;have HR:=Lh hr1;have HB:=Lh (HB0.out.trans ((show Below base w0 w0.drew from (Below.refl _ _).drew).trans hb1));have c21':w1.cell? ⟨b,21,none⟩=some (.int .i64 D):=(hr1.cells.2.2.2.2.2.1).trans (by rw [HDD.out]);have cD':=hr1.reg (k:=D) (r:=d) HD.out;have c20':w1.cell? ⟨b,20,none⟩=_:=hr1.cells.2.2.2.2.1;clear hb1 hr1;refine ⟨_,rfl,.inr ⟨c21',cD'⟩,?_⟩;(try simp only [Act.put,List.setIfInBounds_toArray,List.set_cons_zero,List.set_cons_succ])))
 (refine runL_nil ?_)
 clear c21 cD c20
 have c20:=c20'
 have f0:=HR.out.frozen D
 rw [show (_:Int)=2 from HOP.out] at c20
 clear c20'
 go_wp2
 go_region
 go_wp2
 go_ret
 exact ⟨rfl,(HB.out.setCell HR.out.le _).drew,(HR.out.setReg HDL.out (HLT.out.2)).next ((Below.refl _ _).drew)⟩
theorem values8 (w:World):Calls Tryz.prog 124 #[.int .i64 8] w fun e w'=>e=.returned (.tuple #[.func (.func 150) #[] #[],.bool true])∧w=w':=by
 go_enter Tryz.func124,Tryz.ntmps124
 go_wp2
 go_ret2
 exact ⟨rfl,rfl⟩
theorem hasS8 (w:World):Calls Tryz.prog 125 #[.int .i64 8] w fun e w'=>e=.returned (.bool true)∧w=w':=by
 go_enter Tryz.func125,Tryz.ntmps125
 go_wp2
 go_ret
 exact ⟨rfl,rfl⟩
set_option linter.unusedVariables false in
set_option maxHeartbeats 1600000 in
theorem over8 (h:Run w base b x evs) (hop:x.i.op=8) (D:Nat) (hD:x.i.d=D) (d:Nat) (hd:x.st.regs[D]? = some d) (S:Nat) (hS:x.i.s=S) (bb:Nat) (hb:x.st.regs[S]? = some bb) :
   Calls Tryz.prog 92 #[.pointer (some ⟨b,0,none⟩)] w fun e w'=>e=.returned (.bool true)∧Below base w w'∧Run w' base b { x with st:={ (valueF.restS x.st d bb false).1 with regs:=(valueF.restS x.st d bb false).1.regs.set D (valueF.restS x.st d bb false).2 } } evs:=by
 have hd64:d < 18446744073709551616:=h.ok.regs _ (List.mem_of_getElem? hd)
 have hDl:D < 16:=by have:=(List.getElem?_eq_some_iff.1 hd).1;rw [h.ok.len] at this;exact this
 have hb64:bb < 18446744073709551616:=h.ok.regs _ (List.mem_of_getElem? hb)
 have hSl:S < 16:=by have:=(List.getElem?_eq_some_iff.1 hb).1;rw [h.ok.len] at this;exact this
 obtain ⟨_,_,_,_,c20,c21,c22,_,_,_,_,_,c28,_⟩:=h.cells
 rw [hop] at c20
 rw [hD] at c21
 rw [hS] at c22
 have cS:=h.reg hb
 have j0:(0:Int)≤(S:Int):=by omega
 have j1:(S:Int) < 16:=by omega
 have cD:=h.reg hd
 have i0:(0:Int)≤(D:Int):=by omega
 have i1:(D:Int) < 16:=by omega
 have H:=Lh h
 have HD:=Lh hd
 have HDD:=Lh hD
 have HOP:=Lh hop
 have HLT:=Lh (And.intro hd64 hb64)
 have HDL:=Lh hDl
 clear h hop hD hd hb hd64 hb64 hDl hS
 go_enter Tryz.func92,Tryz.ntmps92
 go_wp2_with fail
 refine (values8 w).mono ?_
 rintro e w1 ⟨rfl,rfl⟩
 go_wp2_with fail
 refine (hasS8 w).mono ?_
 rintro e w1 ⟨rfl,rfl⟩
 go_wp2
 go_region
 have H2:=Lh (H.out.next ((Below.refl _ _).drew))
 have e0:Below base w w.drew:=(Below.refl _ _).drew
 have HB0:=Lh e0
 replace c20:w.drew.cell? ⟨b,20,none⟩=_:=c20
 replace c21:w.drew.cell? ⟨b,21,none⟩=_:=c21
 replace cD:w.drew.cell? ⟨b,D,none⟩=_:=cD
 clear e0 cS c22 c28 H
 generalize w.drew=w0 at *
 go_wp2
 (refine wp_region_lines (fun w_=>w_.cell? ⟨b,21,none⟩=some (.int .i64 D)∧w_.cell? ⟨b,D,none⟩=some (.int .u64 d)) (by kernel_rfl) (by kernel_rfl) ⟨c21,cD⟩ ?_)
 (try simp only [])
 repeat (first | (refine runL_no (by rfl) ?_;(try simp only [Act.put,List.setIfInBounds_toArray,List.set_cons_zero,List.set_cons_succ])) | (refine runL_val (v:=?_) (by rfl) ?_ ?_;rotate_left;(focus (intro w_ hw_;obtain ⟨f1,f2⟩:=hw_;go_simp;(try with_reducible rfl);done));(try simp only [Act.put,List.setIfInBounds_toArray,List.set_cons_zero,List.set_cons_succ])) | (refine runL_call (f:=?_) (args:=?_) (w1:=?_) (by rfl) (by rfl) ?_ ?_;rotate_left 3;(focus (go_simp;refine ⟨⟨?_,?_⟩,?_⟩ <;> with_reducible rfl));refine (val4 (H2.out.next ((Below.refl _ _).drew)) d bb HLT.out.1 HLT.out.2).mono ?_;rintro e w1 ⟨rfl,hb1,hr1⟩;have HR:=Lh hr1;have HB:=Lh (HB0.out.trans ((show Below base w0 w0.drew from (Below.refl _ _).drew).trans hb1));have c21':w1.cell? ⟨b,21,none⟩=some (.int .i64 D):=(hr1.cells.2.2.2.2.2.1).trans (by rw [HDD.out]);have cD':=hr1.reg (k:=D) (r:=d) HD.out;have c20':w1.cell? ⟨b,20,none⟩=_:=hr1.cells.2.2.2.2.1;clear hb1 hr1;refine ⟨_,rfl,.inr ⟨c21',cD'⟩,?_⟩;(try simp only [Act.put,List.setIfInBounds_toArray,List.set_cons_zero,List.set_cons_succ])))
 (refine runL_nil ?_)
 clear c21 cD c20
 have c20:=c20'
 have f0:=HR.out.frozen D
 rw [show (_:Int)=8 from HOP.out] at c20
 clear c20'
 go_wp2
 go_region
 go_wp2
 go_ret
 exact ⟨rfl,(HB.out.setCell HR.out.le _).drew,(HR.out.setReg HDL.out (subF_lt _ _ _)).next ((Below.refl _ _).drew)⟩
theorem values11 (w:World):Calls Tryz.prog 124 #[.int .i64 11] w fun e w'=>e=.returned (.tuple #[.func (.func 155) #[] #[],.bool true])∧w=w':=by
 go_enter Tryz.func124,Tryz.ntmps124
 go_wp2
 go_ret2
 exact ⟨rfl,rfl⟩
theorem hasS11 (w:World):Calls Tryz.prog 125 #[.int .i64 11] w fun e w'=>e=.returned (.bool true)∧w=w':=by
 go_enter Tryz.func125,Tryz.ntmps125
 go_wp2
 go_ret
 exact ⟨rfl,rfl⟩
set_option linter.unusedVariables false in
set_option maxHeartbeats 1600000 in
theorem over11 (h:Run w base b x evs) (hop:x.i.op=11) (D:Nat) (hD:x.i.d=D) (d:Nat) (hd:x.st.regs[D]? = some d) (S:Nat) (hS:x.i.s=S) (bb:Nat) (hb:x.st.regs[S]? = some bb) :
   Calls Tryz.prog 92 #[.pointer (some ⟨b,0,none⟩)] w fun e w'=>e=.returned (.bool true)∧Below base w w'∧Run w' base b { x with st:={ (valueF.plainS x.st (d ||| bb)).1 with regs:=(valueF.plainS x.st (d ||| bb)).1.regs.set D (valueF.plainS x.st (d ||| bb)).2 } } evs:=by
 have hd64:d < 18446744073709551616:=h.ok.regs _ (List.mem_of_getElem? hd)
 have hDl:D < 16:=by have:=(List.getElem?_eq_some_iff.1 hd).1;rw [h.ok.len] at this;exact this
 have hb64:bb < 18446744073709551616:=h.ok.regs _ (List.mem_of_getElem? hb)
 have hSl:S < 16:=by have:=(List.getElem?_eq_some_iff.1 hb).1;rw [h.ok.len] at this;exact this
 obtain ⟨_,_,_,_,c20,c21,c22,_,_,_,_,_,c28,_⟩:=h.cells
 rw [hop] at c20
 rw [hD] at c21
 rw [hS] at c22
 have cS:=h.reg hb
 have j0:(0:Int)≤(S:Int):=by omega
 have j1:(S:Int) < 16:=by omega
 have cD:=h.reg hd
 have i0:(0:Int)≤(D:Int):=by omega
 have i1:(D:Int) < 16:=by omega
 have H:=Lh h
 have HD:=Lh hd
 have HDD:=Lh hD
 have HOP:=Lh hop
 have HLT:=Lh (And.intro hd64 hb64)
 have HDL:=Lh hDl
 clear h hop hD hd hb hd64 hb64 hDl hS
 go_enter Tryz.func92,Tryz.ntmps92
 go_wp2_with fail
 refine (values11 w).mono ?_
 rintro e w1 ⟨rfl,rfl⟩
 go_wp2_with fail
 refine (hasS11 w).mono ?_
 rintro e w1 ⟨rfl,rfl⟩
 go_wp2
 go_region
 have H2:=Lh (H.out.next ((Below.refl _ _).drew))
 have e0:Below base w w.drew:=(Below.refl _ _).drew
 have HB0:=Lh e0
 replace c20:w.drew.cell? ⟨b,20,none⟩=_:=c20
 replace c21:w.drew.cell? ⟨b,21,none⟩=_:=c21
 replace cD:w.drew.cell? ⟨b,D,none⟩=_:=cD
 clear e0 cS c22 c28 H
 generalize w.drew=w0 at *
 go_wp2
 (refine wp_region_lines (fun w_=>w_.cell? ⟨b,21,none⟩=some (.int .i64 D)∧w_.cell? ⟨b,D,none⟩=some (.int .u64 d)) (by kernel_rfl) (by kernel_rfl) ⟨c21,cD⟩ ?_)
 (try simp only [])
 repeat (first | (refine runL_no (by rfl) ?_;(try simp only [Act.put,List.setIfInBounds_toArray,List.set_cons_zero,List.set_cons_succ])) | (refine runL_val (v:=?_) (by rfl) ?_ ?_;rotate_left;(focus (intro w_ hw_;obtain ⟨f1,f2⟩:=hw_;go_simp;(try with_reducible rfl);done));(try simp only [Act.put,List.setIfInBounds_toArray,List.set_cons_zero,List.set_cons_succ])) | (refine runL_call (f:=?_) (args:=?_) (w1:=?_) (by rfl) (by rfl) ?_ ?_;rotate_left 3;(focus (go_simp;refine ⟨⟨?_,?_⟩,?_⟩ <;> with_reducible rfl));refine (val7 (H2.out.next ((Below.refl _ _).drew)) d bb HLT.out.1 HLT.out.2).mono ?_;rintro e w1 ⟨rfl,hb1,hr1⟩;have HR:=Lh hr1;have HB:=Lh (HB0.out.trans ((show Below base w0 w0.drew from (Below.refl _ _).drew).trans hb1));have c21':w1.cell? ⟨b,21,none⟩=some (.int .i64 D):=(hr1.cells.2.2.2.2.2.1).trans (by rw [HDD.out]);have cD':=hr1.reg (k:=D) (r:=d) HD.out;have c20':w1.cell? ⟨b,20,none⟩=_:=hr1.cells.2.2.2.2.1;clear hb1 hr1;refine ⟨_,rfl,.inr ⟨c21',cD'⟩,?_⟩;(try simp only [Act.put,List.setIfInBounds_toArray,List.set_cons_zero,List.set_cons_succ])))
 (refine runL_nil ?_)
 clear c21 cD c20
 have c20:=c20'
 have f0:=HR.out.frozen D
 rw [show (_:Int)=11 from HOP.out] at c20
 clear c20'
 go_wp2
 go_region
 go_wp2
 go_ret
 exact ⟨rfl,(HB.out.setCell HR.out.le _).drew,(HR.out.setReg HDL.out (or_lt HLT.out.1 HLT.out.2)).next ((Below.refl _ _).drew)⟩
theorem values14 (w:World):Calls Tryz.prog 124 #[.int .i64 14] w fun e w'=>e=.returned (.tuple #[.func (.func 153) #[] #[],.bool true])∧w=w':=by
 go_enter Tryz.func124,Tryz.ntmps124
 go_wp2
 go_ret2
 exact ⟨rfl,rfl⟩
theorem hasS14 (w:World):Calls Tryz.prog 125 #[.int .i64 14] w fun e w'=>e=.returned (.bool true)∧w=w':=by
 go_enter Tryz.func125,Tryz.ntmps125
 go_wp2
 go_ret
 exact ⟨rfl,rfl⟩
set_option linter.unusedVariables false in
set_option maxHeartbeats 1600000 in
theorem over14 (h:Run w base b x evs) (hop:x.i.op=14) (D:Nat) (hD:x.i.d=D) (d:Nat) (hd:x.st.regs[D]? = some d) (S:Nat) (hS:x.i.s=S) (bb:Nat) (hb:x.st.regs[S]? = some bb) :
   Calls Tryz.prog 92 #[.pointer (some ⟨b,0,none⟩)] w fun e w'=>e=.returned (.bool true)∧Below base w w'∧Run w' base b { x with st:=(valueF.plainS x.st (d &&& bb)).1 } evs:=by
 have hd64:d < 18446744073709551616:=h.ok.regs _ (List.mem_of_getElem? hd)
 have hDl:D < 16:=by have:=(List.getElem?_eq_some_iff.1 hd).1;rw [h.ok.len] at this;exact this
 have hb64:bb < 18446744073709551616:=h.ok.regs _ (List.mem_of_getElem? hb)
 have hSl:S < 16:=by have:=(List.getElem?_eq_some_iff.1 hb).1;rw [h.ok.len] at this;exact this
 obtain ⟨_,_,_,_,c20,c21,c22,_,_,_,_,_,c28,_⟩:=h.cells
 rw [hop] at c20
 rw [hD] at c21
 rw [hS] at c22
 have cS:=h.reg hb
 have j0:(0:Int)≤(S:Int):=by omega
 have j1:(S:Int) < 16:=by omega
 have cD:=h.reg hd
 have i0:(0:Int)≤(D:Int):=by omega
 have i1:(D:Int) < 16:=by omega
 have H:=Lh h
 have HD:=Lh hd
 have HDD:=Lh hD
 have HOP:=Lh hop
 have HLT:=Lh (And.intro hd64 hb64)
 have HDL:=Lh hDl
 clear h hop hD hd hb hd64 hb64 hDl hS
 go_enter Tryz.func92,Tryz.ntmps92
 go_wp2_with fail
 refine (values14 w).mono ?_
 rintro e w1 ⟨rfl,rfl⟩
 go_wp2_with fail
 refine (hasS14 w).mono ?_
 rintro e w1 ⟨rfl,rfl⟩
 go_wp2
 go_region
 have H2:=Lh (H.out.next ((Below.refl _ _).drew))
 have e0:Below base w w.drew:=(Below.refl _ _).drew
 have HB0:=Lh e0
 replace c20:w.drew.cell? ⟨b,20,none⟩=_:=c20
 replace c21:w.drew.cell? ⟨b,21,none⟩=_:=c21
 replace cD:w.drew.cell? ⟨b,D,none⟩=_:=cD
 clear e0 cS c22 c28 H
 generalize w.drew=w0 at *
 go_wp2
 (refine wp_region_lines (fun w_=>w_.cell? ⟨b,21,none⟩=some (.int .i64 D)∧w_.cell? ⟨b,D,none⟩=some (.int .u64 d)) (by kernel_rfl) (by kernel_rfl) ⟨c21,cD⟩ ?_)
 (try simp only [])
 repeat (first | (refine runL_no (by rfl) ?_;(try simp only [Act.put,List.setIfInBounds_toArray,List.set_cons_zero,List.set_cons_succ])) | (refine runL_val (v:=?_) (by rfl) ?_ ?_;rotate_left;(focus (intro w_ hw_;obtain ⟨f1,f2⟩:=hw_;go_simp;(try with_reducible rfl);done));(try simp only [Act.put,List.setIfInBounds_toArray,List.set_cons_zero,List.set_cons_succ])) | (refine runL_call (f:=?_) (args:=?_) (w1:=?_) (by rfl) (by rfl) ?_ ?_;rotate_left 3;(focus (go_simp;refine ⟨⟨?_,?_⟩,?_⟩ <;> with_reducible rfl));refine (val6 (H2.out.next ((Below.refl _ _).drew)) d bb HLT.out.1 HLT.out.2).mono ?_;rintro e w1 ⟨rfl,hb1,hr1⟩;have HR:=Lh hr1;have HB:=Lh (HB0.out.trans ((show Below base w0 w0.drew from (Below.refl _ _).drew).trans hb1));have c21':w1.cell? ⟨b,21,none⟩=some (.int .i64 D):=(hr1.cells.2.2.2.2.2.1).trans (by rw [HDD.out]);have cD':=hr1.reg (k:=D) (r:=d) HD.out;have c20':w1.cell? ⟨b,20,none⟩=_:=hr1.cells.2.2.2.2.1;clear hb1 hr1;refine ⟨_,rfl,.inr ⟨c21',cD'⟩,?_⟩;(try simp only [Act.put,List.setIfInBounds_toArray,List.set_cons_zero,List.set_cons_succ])))
 (refine runL_nil ?_)
 clear c21 cD c20
 have c20:=c20'
 have f0:=HR.out.frozen D
 rw [show (_:Int)=14 from HOP.out] at c20
 clear c20'
 go_wp2
 go_ret
 exact ⟨rfl,HB.out,HR.out⟩
theorem values17 (w:World):Calls Tryz.prog 124 #[.int .i64 17] w fun e w'=>e=.returned (.tuple #[.func (.func 150) #[] #[],.bool true])∧w=w':=by
 go_enter Tryz.func124,Tryz.ntmps124
 go_wp2
 go_ret2
 exact ⟨rfl,rfl⟩
theorem hasS17 (w:World):Calls Tryz.prog 125 #[.int .i64 17] w fun e w'=>e=.returned (.bool false)∧w=w':=by
 go_enter Tryz.func125,Tryz.ntmps125
 go_wp2
 go_ret
 exact ⟨rfl,rfl⟩
set_option linter.unusedVariables false in
set_option maxHeartbeats 1600000 in
theorem over17 (h:Run w base b x evs) (hop:x.i.op=17) (D:Nat) (hD:x.i.d=D) (d:Nat) (hd:x.st.regs[D]? = some d) (bb:Nat) (hb:bb=u64 x.i.imm) :
   Calls Tryz.prog 92 #[.pointer (some ⟨b,0,none⟩)] w fun e w'=>e=.returned (.bool true)∧Below base w w'∧Run w' base b { x with st:={ (valueF.restS x.st d bb false).1 with regs:=(valueF.restS x.st d bb false).1.regs.set D (valueF.restS x.st d bb false).2 } } evs:=by
 have hd64:d < 18446744073709551616:=h.ok.regs _ (List.mem_of_getElem? hd)
 have hDl:D < 16:=by have:=(List.getElem?_eq_some_iff.1 hd).1;rw [h.ok.len] at this;exact this
 have hb64:bb < 18446744073709551616:=by rw [hb];exact u64_lt _
 obtain ⟨_,_,_,_,c20,c21,c22,_,_,_,_,_,c28,_⟩:=h.cells
 rw [hop] at c20
 rw [hD] at c21
 have aA:=wrap_u64 x.i.imm
 rw [←hb] at aA
 have cD:=h.reg hd
 have i0:(0:Int)≤(D:Int):=by omega
 have i1:(D:Int) < 16:=by omega
 have H:=Lh h
 have HD:=Lh hd
 have HDD:=Lh hD
 have HOP:=Lh hop
 have HLT:=Lh (And.intro hd64 hb64)
 have HDL:=Lh hDl
 clear h hop hD hd hb hd64 hb64 hDl
 go_enter Tryz.func92,Tryz.ntmps92
 go_wp2_with fail
 refine (values17 w).mono ?_
 rintro e w1 ⟨rfl,rfl⟩
 go_wp2_with fail
 refine (hasS17 w).mono ?_
 rintro e w1 ⟨rfl,rfl⟩
 go_wp2
 have H2:=H
 have HB0:=Lh (Below.refl base w)
 clear H c22 c28
 obtain ⟨w0,rfl⟩:∃ w0:World,w0=w:=⟨_,rfl⟩
 (refine wp_region_lines (fun w_=>w_.cell? ⟨b,21,none⟩=some (.int .i64 D)∧w_.cell? ⟨b,D,none⟩=some (.int .u64 d)) (by kernel_rfl) (by kernel_rfl) ⟨c21,cD⟩ ?_)
 (try simp only [])
 repeat (first | (refine runL_no (by rfl) ?_;(try simp only [Act.put,List.setIfInBounds_toArray,List.set_cons_zero,List.set_cons_succ])) | (refine runL_val (v:=?_) (by rfl) ?_ ?_;rotate_left;(focus (intro w_ hw_;obtain ⟨f1,f2⟩:=hw_;go_simp;(try with_reducible rfl);done));(try simp only [Act.put,List.setIfInBounds_toArray,List.set_cons_zero,List.set_cons_succ])) | (refine runL_call (f:=?_) (args:=?_) (w1:=?_) (by rfl) (by rfl) ?_ ?_;rotate_left 3;(focus (go_simp;refine ⟨⟨?_,?_⟩,?_⟩ <;> with_reducible rfl));refine (val4 (H2.out.next ((Below.refl _ _).drew)) d bb HLT.out.1 HLT.out.2).mono ?_;rintro e w1 ⟨rfl,hb1,hr1⟩;have HR:=Lh hr1;have HB:=Lh (HB0.out.trans ((show Below base w0 w0.drew from (Below.refl _ _).drew).trans hb1));have c21':w1.cell? ⟨b,21,none⟩=some (.int .i64 D):=(hr1.cells.2.2.2.2.2.1).trans (by rw [HDD.out]);have cD':=hr1.reg (k:=D) (r:=d) HD.out;have c20':w1.cell? ⟨b,20,none⟩=_:=hr1.cells.2.2.2.2.1;clear hb1 hr1;refine ⟨_,rfl,.inr ⟨c21',cD'⟩,?_⟩;(try simp only [Act.put,List.setIfInBounds_toArray,List.set_cons_zero,List.set_cons_succ])))
 (refine runL_nil ?_)
 clear c21 cD c20
 have c20:=c20'
 have f0:=HR.out.frozen D
 rw [show (_:Int)=17 from HOP.out] at c20
 clear c20'
 go_wp2
 go_region
 go_wp2
 go_ret
 exact ⟨rfl,(HB.out.setCell HR.out.le _).drew,(HR.out.setReg HDL.out (subF_lt _ _ _)).next ((Below.refl _ _).drew)⟩
theorem values21 (w:World):Calls Tryz.prog 124 #[.int .i64 21] w fun e w'=>e=.returned (.tuple #[.func (.func 164) #[] #[],.bool true])∧w=w':=by
 go_enter Tryz.func124,Tryz.ntmps124
 go_wp2
 go_ret2
 exact ⟨rfl,rfl⟩
theorem hasS21 (w:World):Calls Tryz.prog 125 #[.int .i64 21] w fun e w'=>e=.returned (.bool true)∧w=w':=by
 go_enter Tryz.func125,Tryz.ntmps125
 go_wp2
 go_ret
 exact ⟨rfl,rfl⟩
set_option linter.unusedVariables false in
set_option maxHeartbeats 1600000 in
theorem over21 (h:Run w base b x evs) (hop:x.i.op=21) (D:Nat) (hD:x.i.d=D) (d:Nat) (hd:x.st.regs[D]? = some d) (S:Nat) (hS:x.i.s=S) (bb:Nat) (hb:x.st.regs[S]? = some bb) :
   Calls Tryz.prog 92 #[.pointer (some ⟨b,0,none⟩)] w fun e w'=>e=.returned (.bool true)∧Below base w w'∧Run w' base b { x with st:={ (({ x.st with of_:=(addF d bb x.st.of_).2 },(addF d bb x.st.of_).1)).1 with regs:=(({ x.st with of_:=(addF d bb x.st.of_).2 },(addF d bb x.st.of_).1)).1.regs.set D (({ x.st with of_:=(addF d bb x.st.of_).2 },(addF d bb x.st.of_).1)).2 } } evs:=by
 have hd64:d < 18446744073709551616:=h.ok.regs _ (List.mem_of_getElem? hd)
 have hDl:D < 16:=by have:=(List.getElem?_eq_some_iff.1 hd).1;rw [h.ok.len] at this;exact this
 have hb64:bb < 18446744073709551616:=h.ok.regs _ (List.mem_of_getElem? hb)
 have hSl:S < 16:=by have:=(List.getElem?_eq_some_iff.1 hb).1;rw [h.ok.len] at this;exact this
 obtain ⟨_,_,_,_,c20,c21,c22,_,_,_,_,_,c28,_⟩:=h.cells
 rw [hop] at c20
 rw [hD] at c21
 rw [hS] at c22
 have cS:=h.reg hb
 have j0:(0:Int)≤(S:Int):=by omega
 have j1:(S:Int) < 16:=by omega
 have cD:=h.reg hd
 have i0:(0:Int)≤(D:Int):=by omega
 have i1:(D:Int) < 16:=by omega
 have H:=Lh h
 have HD:=Lh hd
 have HDD:=Lh hD
 have HOP:=Lh hop
 have HLT:=Lh (And.intro hd64 hb64)
 have HDL:=Lh hDl
 clear h hop hD hd hb hd64 hb64 hDl hS
 go_enter Tryz.func92,Tryz.ntmps92
 go_wp2_with fail
 refine (values21 w).mono ?_
 rintro e w1 ⟨rfl,rfl⟩
 go_wp2_with fail
 refine (hasS21 w).mono ?_
 rintro e w1 ⟨rfl,rfl⟩
 go_wp2
 go_region
 have H2:=Lh (H.out.next ((Below.refl _ _).drew))
 have e0:Below base w w.drew:=(Below.refl _ _).drew
 have HB0:=Lh e0
 replace c20:w.drew.cell? ⟨b,20,none⟩=_:=c20
 replace c21:w.drew.cell? ⟨b,21,none⟩=_:=c21
 replace cD:w.drew.cell? ⟨b,D,none⟩=_:=cD
 clear e0 cS c22 c28 H
 generalize w.drew=w0 at *
 go_wp2
 (refine wp_region_lines (fun w_=>w_.cell? ⟨b,21,none⟩=some (.int .i64 D)∧w_.cell? ⟨b,D,none⟩=some (.int .u64 d)) (by kernel_rfl) (by kernel_rfl) ⟨c21,cD⟩ ?_)
 (try simp only [])
 repeat (first | (refine runL_no (by rfl) ?_;(try simp only [Act.put,List.setIfInBounds_toArray,List.set_cons_zero,List.set_cons_succ])) | (refine runL_val (v:=?_) (by rfl) ?_ ?_;rotate_left;(focus (intro w_ hw_;obtain ⟨f1,f2⟩:=hw_;go_simp;(try with_reducible rfl);done));(try simp only [Act.put,List.setIfInBounds_toArray,List.set_cons_zero,List.set_cons_succ])) | (refine runL_call (f:=?_) (args:=?_) (w1:=?_) (by rfl) (by rfl) ?_ ?_;rotate_left 3;(focus (go_simp;refine ⟨⟨?_,?_⟩,?_⟩ <;> with_reducible rfl));refine (val14 (H2.out.next ((Below.refl _ _).drew)) d bb HLT.out.1 HLT.out.2).mono ?_;rintro e w1 ⟨rfl,hb1,hr1⟩;have HR:=Lh hr1;have HB:=Lh (HB0.out.trans ((show Below base w0 w0.drew from (Below.refl _ _).drew).trans hb1));have c21':w1.cell? ⟨b,21,none⟩=some (.int .i64 D):=(hr1.cells.2.2.2.2.2.1).trans (by rw [HDD.out]);have cD':=hr1.reg (k:=D) (r:=d) HD.out;have c20':w1.cell? ⟨b,20,none⟩=_:=hr1.cells.2.2.2.2.1;clear hb1 hr1;refine ⟨_,rfl,.inr ⟨c21',cD'⟩,?_⟩;(try simp only [Act.put,List.setIfInBounds_toArray,List.set_cons_zero,List.set_cons_succ])))
 (refine runL_nil ?_)
 clear c21 cD c20
 have c20:=c20'
 have f0:=HR.out.frozen D
 rw [show (_:Int)=21 from HOP.out] at c20
 clear c20'
 go_wp2
 go_region
 go_wp2
 go_ret
 exact ⟨rfl,(HB.out.setCell HR.out.le _).drew,(HR.out.setReg HDL.out (addF_lt _ _ _)).next ((Below.refl _ _).drew)⟩
theorem values24 (w:World):Calls Tryz.prog 124 #[.int .i64 24] w fun e w'=>e=.returned (.tuple #[.func (.func 159) #[] #[],.bool true])∧w=w':=by
 go_enter Tryz.func124,Tryz.ntmps124
 go_wp2
 go_ret2
 exact ⟨rfl,rfl⟩
theorem hasS24 (w:World):Calls Tryz.prog 125 #[.int .i64 24] w fun e w'=>e=.returned (.bool false)∧w=w':=by
 go_enter Tryz.func125,Tryz.ntmps125
 go_wp2
 go_ret
 exact ⟨rfl,rfl⟩
set_option linter.unusedVariables false in
set_option maxHeartbeats 1600000 in
theorem over24 (h:Run w base b x evs) (hop:x.i.op=24) (D:Nat) (hD:x.i.d=D) (d:Nat) (hd:x.st.regs[D]? = some d) (bb:Nat) (hb:bb=u64 x.i.imm) (hb1:1≤bb) (hb2:bb≤63) :
   Calls Tryz.prog 92 #[.pointer (some ⟨b,0,none⟩)] w fun e w'=>e=.returned (.bool true)∧Below base w w'∧Run w' base b { x with st:={ (valueF.shiftS x.st (d*2 ^ bb % 18446744073709551616) (d / 2 ^ (64 - bb))).1 with regs:=(valueF.shiftS x.st (d*2 ^ bb % 18446744073709551616) (d / 2 ^ (64 - bb))).1.regs.set D (valueF.shiftS x.st (d*2 ^ bb % 18446744073709551616) (d / 2 ^ (64 - bb))).2 } } evs:=by
 have hd64:d < 18446744073709551616:=h.ok.regs _ (List.mem_of_getElem? hd)
 have hDl:D < 16:=by have:=(List.getElem?_eq_some_iff.1 hd).1;rw [h.ok.len] at this;exact this
 have hb64:bb < 18446744073709551616:=by rw [hb];exact u64_lt _
 obtain ⟨_,_,_,_,c20,c21,c22,_,_,_,_,_,c28,_⟩:=h.cells
 rw [hop] at c20
 rw [hD] at c21
 have aA:=wrap_u64 x.i.imm
 rw [←hb] at aA
 have cD:=h.reg hd
 have i0:(0:Int)≤(D:Int):=by omega
 have i1:(D:Int) < 16:=by omega
 have H:=Lh h
 have HD:=Lh hd
 have HDD:=Lh hD
 have HOP:=Lh hop
 have HLT:=Lh (And.intro hd64 hb64)
 have HDL:=Lh hDl
 clear h hop hD hd hb hd64 hb64 hDl
 go_enter Tryz.func92,Tryz.ntmps92
 go_wp2_with fail
 refine (values24 w).mono ?_
 rintro e w1 ⟨rfl,rfl⟩
 go_wp2_with fail
 refine (hasS24 w).mono ?_
 rintro e w1 ⟨rfl,rfl⟩
 go_wp2
 have H2:=H
 have HB0:=Lh (Below.refl base w)
 clear H c22 c28
 obtain ⟨w0,rfl⟩:∃ w0:World,w0=w:=⟨_,rfl⟩
 have hb1':=hb1
 (refine wp_region_lines (fun w_=>w_.cell? ⟨b,21,none⟩=some (.int .i64 D)∧w_.cell? ⟨b,D,none⟩=some (.int .u64 d)) (by kernel_rfl) (by kernel_rfl) ⟨c21,cD⟩ ?_)
 (try simp only [])
 repeat (first | (refine runL_no (by rfl) ?_;(try simp only [Act.put,List.setIfInBounds_toArray,List.set_cons_zero,List.set_cons_succ])) | (refine runL_val (v:=?_) (by rfl) ?_ ?_;rotate_left;(focus (intro w_ hw_;obtain ⟨f1,f2⟩:=hw_;go_simp;(try with_reducible rfl);done));(try simp only [Act.put,List.setIfInBounds_toArray,List.set_cons_zero,List.set_cons_succ])) | (refine runL_call (f:=?_) (args:=?_) (w1:=?_) (by rfl) (by rfl) ?_ ?_;rotate_left 3;(focus (go_simp;refine ⟨⟨?_,?_⟩,?_⟩ <;> with_reducible rfl));refine (val11 (H2.out.next ((Below.refl _ _).drew)) d bb HLT.out.1 hb1 hb2).mono ?_;rintro e w1 ⟨rfl,hb1,hr1⟩;have HR:=Lh hr1;have HB:=Lh (HB0.out.trans ((show Below base w0 w0.drew from (Below.refl _ _).drew).trans hb1));have c21':w1.cell? ⟨b,21,none⟩=some (.int .i64 D):=(hr1.cells.2.2.2.2.2.1).trans (by rw [HDD.out]);have cD':=hr1.reg (k:=D) (r:=d) HD.out;have c20':w1.cell? ⟨b,20,none⟩=_:=hr1.cells.2.2.2.2.1;clear hb1 hr1;refine ⟨_,rfl,.inr ⟨c21',cD'⟩,?_⟩;(try simp only [Act.put,List.setIfInBounds_toArray,List.set_cons_zero,List.set_cons_succ])))
 (refine runL_nil ?_)
 clear c21 cD c20
 have c20:=c20'
 have f0:=HR.out.frozen D
 rw [show (_:Int)=24 from HOP.out] at c20
 clear c20'
 go_wp2
 go_region
 go_wp2
 go_ret
 exact ⟨rfl,(HB.out.setCell HR.out.le _).drew,(HR.out.setReg HDL.out (Nat.mod_lt _ (by decide))).next ((Below.refl _ _).drew)⟩
theorem values27 (w:World):Calls Tryz.prog 124 #[.int .i64 27] w fun e w'=>e=.returned (.tuple #[.func (.func 167) #[] #[],.bool true])∧w=w':=by
 go_enter Tryz.func124,Tryz.ntmps124
 go_wp2
 go_ret2
 exact ⟨rfl,rfl⟩
theorem hasS27 (w:World):Calls Tryz.prog 125 #[.int .i64 27] w fun e w'=>e=.returned (.bool true)∧w=w':=by
 go_enter Tryz.func125,Tryz.ntmps125
 go_wp2
 go_ret
 exact ⟨rfl,rfl⟩
set_option linter.unusedVariables false in
set_option maxHeartbeats 1600000 in
theorem over27 (h:Run w base b x evs) (hop:x.i.op=27) (D:Nat) (hD:x.i.d=D) (d:Nat) (hd:x.st.regs[D]? = some d) (S:Nat) (hS:x.i.s=S) (bb:Nat) (hb:x.st.regs[S]? = some bb) (q:Nat) (hq:q=if !x.st.zf then bb else d) :
   Calls Tryz.prog 92 #[.pointer (some ⟨b,0,none⟩)] w fun e w'=>e=.returned (.bool true)∧Below base w w'∧Run w' base b { x with st:={ ((x.st,q)).1 with regs:=((x.st,q)).1.regs.set D ((x.st,q)).2 } } evs:=by
 have hd64:d < 18446744073709551616:=h.ok.regs _ (List.mem_of_getElem? hd)
 have hDl:D < 16:=by have:=(List.getElem?_eq_some_iff.1 hd).1;rw [h.ok.len] at this;exact this
 have hb64:bb < 18446744073709551616:=h.ok.regs _ (List.mem_of_getElem? hb)
 have hSl:S < 16:=by have:=(List.getElem?_eq_some_iff.1 hb).1;rw [h.ok.len] at this;exact this
 obtain ⟨_,_,_,_,c20,c21,c22,_,_,_,_,_,c28,_⟩:=h.cells
 rw [hop] at c20
 rw [hD] at c21
 rw [hS] at c22
 have cS:=h.reg hb
 have j0:(0:Int)≤(S:Int):=by omega
 have j1:(S:Int) < 16:=by omega
 have cD:=h.reg hd
 have i0:(0:Int)≤(D:Int):=by omega
 have i1:(D:Int) < 16:=by omega
 have H:=Lh h
 have HQ:=Lh hq
 clear hq
 have HD:=Lh hd
 have HDD:=Lh hD
 have HOP:=Lh hop
 have HLT:=Lh (And.intro hd64 hb64)
 have HDL:=Lh hDl
 clear h hop hD hd hb hd64 hb64 hDl hS
 go_enter Tryz.func92,Tryz.ntmps92
 go_wp2_with fail
 refine (values27 w).mono ?_
 rintro e w1 ⟨rfl,rfl⟩
 go_wp2_with fail
 refine (hasS27 w).mono ?_
 rintro e w1 ⟨rfl,rfl⟩
 go_wp2
 go_region
 have H2:=Lh (H.out.next ((Below.refl _ _).drew))
 have e0:Below base w w.drew:=(Below.refl _ _).drew
 have HB0:=Lh e0
 replace c20:w.drew.cell? ⟨b,20,none⟩=_:=c20
 replace c21:w.drew.cell? ⟨b,21,none⟩=_:=c21
 replace cD:w.drew.cell? ⟨b,D,none⟩=_:=cD
 clear e0 cS c22 c28 H
 generalize w.drew=w0 at *
 go_wp2
 (refine wp_region_lines (fun w_=>w_.cell? ⟨b,21,none⟩=some (.int .i64 D)∧w_.cell? ⟨b,D,none⟩=some (.int .u64 d)) (by kernel_rfl) (by kernel_rfl) ⟨c21,cD⟩ ?_)
 (try simp only [])
 repeat (first | (refine runL_no (by rfl) ?_;(try simp only [Act.put,List.setIfInBounds_toArray,List.set_cons_zero,List.set_cons_succ])) | (refine runL_val (v:=?_) (by rfl) ?_ ?_;rotate_left;(focus (intro w_ hw_;obtain ⟨f1,f2⟩:=hw_;go_simp;(try with_reducible rfl);done));(try simp only [Act.put,List.setIfInBounds_toArray,List.set_cons_zero,List.set_cons_succ])) | (refine runL_call (f:=?_) (args:=?_) (w1:=?_) (by rfl) (by rfl) ?_ ?_;rotate_left 3;(focus (go_simp;refine ⟨⟨?_,?_⟩,?_⟩ <;> with_reducible rfl));refine (val16q (H2.out.next ((Below.refl _ _).drew)) d bb HLT.out.1 HLT.out.2 q HQ.out).mono ?_;rintro e w1 ⟨rfl,hb1,hr1⟩;have HR:=Lh hr1;have HB:=Lh (HB0.out.trans ((show Below base w0 w0.drew from (Below.refl _ _).drew).trans hb1));have c21':w1.cell? ⟨b,21,none⟩=some (.int .i64 D):=(hr1.cells.2.2.2.2.2.1).trans (by rw [HDD.out]);have cD':=hr1.reg (k:=D) (r:=d) HD.out;have c20':w1.cell? ⟨b,20,none⟩=_:=hr1.cells.2.2.2.2.1;clear hb1 hr1;refine ⟨_,rfl,.inr ⟨c21',cD'⟩,?_⟩;(try simp only [Act.put,List.setIfInBounds_toArray,List.set_cons_zero,List.set_cons_succ])))
 (refine runL_nil ?_)
 clear c21 cD c20
 have c20:=c20'
 have f0:=HR.out.frozen D
 rw [show (_:Int)=27 from HOP.out] at c20
 clear c20'
 go_wp2
 go_region
 go_wp2
 go_ret
 exact ⟨rfl,(HB.out.setCell HR.out.le _).drew,(HR.out.setReg HDL.out (by show q < _;rw [HQ.out];exact ite_lt HLT.out.2 HLT.out.1)).next ((Below.refl _ _).drew)⟩
end Go.Proofs.YtocndimihokcmaaGreat
