/- Part 12 of a claim; what it proves stands in its last text. -/
import Derived.Test.YtocndimihokcmaaGreatAm10
import Derived.Test.YtocndimihokcmaaGreatAm5
import Derived.Deep.RegionWith
namespace Go.Proofs.YtocndimihokcmaaGreat
open Go.RowKit
set_option maxRecDepth 100000
variable {w:World} {base b:Nat} {x:Stp} {evs:List Ev}
theorem values6 (w:World):Calls Tryz.prog 124 #[.int .i64 6] w fun e w'=>e=.returned (.tuple #[.func (.func 147) #[] #[],.bool true])∧w=w':=by
 go_enter Tryz.func124,Tryz.ntmps124
 go_wp2
 go_ret2
 exact ⟨rfl,rfl⟩
theorem hasS6 (w:World):Calls Tryz.prog 125 #[.int .i64 6] w fun e w'=>e=.returned (.bool true)∧w=w':=by
 go_enter Tryz.func125,Tryz.ntmps125
 go_wp2
 go_ret
 exact ⟨rfl,rfl⟩
set_option linter.unusedVariables false in
set_option maxHeartbeats 1600000 in
theorem over6 (h:Run w base b x evs) (hop:x.i.op=6) (D:Nat) (hD:x.i.d=D) (d:Nat) (hd:x.st.regs[D]? = some d) (S:Nat) (hS:x.i.s=S) (bb:Nat) (hb:x.st.regs[S]? = some bb) :
   Calls Tryz.prog 92 #[.pointer (some ⟨b,0,none⟩)] w fun e w'=>e=.returned (.bool true)∧Below base w w'∧Run w' base b { x with st:={ (valueF.sumS x.st d bb false).1 with regs:=(valueF.sumS x.st d bb false).1.regs.set D (valueF.sumS x.st d bb false).2 } } evs:=by
 have hd64:d < 18446744073709551616:=h.ok.regs _ (List.mem_of_getElem? hd)
 have hDl:D < 16:=by have:=(List.getElem?_eq_some_iff.1 hd).1;rw [h.ok.len] at this;exact this
 have hb64:bb < 18446744073709551616:=h.ok.regs _ (List.mem_of_getElem? hb)
 have hSl:S < 16:=by have:=(List.getElem?_eq_some_iff.1 hb).1;rw [h.ok.len] at this;exact this
 obtain ⟨_,_,_,_,c20,c21,c22,_,_,_,_,_,c28,_⟩:=h.cells
 rw [hop] at c20
 rw [hD] at c21
 rw [hS] at c22
 have cS:=h.reg hb
 have j0:(0:Int)≤(S:Int):=by omega
 have j1:(S:Int) < 16:=by omega
 have cD:=h.reg hd
 have i0:(0:Int)≤(D:Int):=by omega
 have i1:(D:Int) < 16:=by omega
 have H:=Lh h
 have HD:=Lh hd
 have HDD:=Lh hD
 have HOP:=Lh hop
 have HLT:=Lh (And.intro hd64 hb64)
 have HDL:=Lh hDl
 clear h hop hD hd hb hd64 hb64 hDl hS
 go_enter Tryz.func92,Tryz.ntmps92
 go_wp2_with fail
 refine (values6 w).mono ?_
 rintro e w1 ⟨rfl,rfl⟩
 go_wp2_with fail
 refine (hasS6 w).mono ?_
 rintro e w1 ⟨rfl,rfl⟩
 go_wp2
 go_region
 have H2:=Lh (H.out.next ((Below.refl _ _).drew))
 have e0:Below base w w.drew:=(Below.refl _ _).drew
 have HB0:=Lh e0
 replace c20:w.drew.cell? ⟨b,20,none⟩=_:=c20
 replace c21:w.drew.cell? ⟨b,21,none⟩=_:=c21
 replace cD:w.drew.cell? ⟨b,D,none⟩=_:=cD
 clear e0 cS c22 c28 H
 generalize w.drew=w0 at *
 go_wp2
 (refine wp_region_lines (fun w_=>w_.cell? ⟨b,21,none⟩=some (.int .i64 D)∧w_.cell? ⟨b,D,none⟩=some (.int .u64 d)) (by kernel_rfl) (by kernel_rfl) ⟨c21,cD⟩ ?_)
 (try simp only [])
 repeat (first | (refine runL_no (by rfl) ?_;(try simp only [Act.put,List.setIfInBounds_toArray,List.set_cons_zero,List.set_cons_succ])) | (refine runL_val (v:=?_) (by rfl) ?_ ?_;rotate_left;(focus (intro w_ hw_;obtain ⟨f1,f2⟩:=hw_;go_simp;(try with_reducible rfl);done));(try simp only [Act.put,List.setIfInBounds_toArray,List.set_cons_zero,List.set_cons_succ])) | (refine runL_call (f:=?_) (args:=?_) (w1:=?_) (by rfl) (by rfl) ?_ ?_;rotate_left 3;(focus (go_simp;refine ⟨⟨?_,?_⟩,?_⟩ <;> with_reducible rfl));refine (val2 (H2.out.next ((Below.refl _ _).drew)) d bb HLT.out.1 HLT.out.2).mono ?_;rintro e w1 ⟨rfl,hb1,hr1⟩;have HR:=Lh hr1;have HB:=Lh (HB0.out.trans ((show Below base w0 w0.drew from (Below.refl _ _).drew).trans hb1));have c21':w1.cell? ⟨b,21,none⟩=some (.int .i64 D):=(hr1.cells.2.2.2.2.2.1).trans (by rw [HDD.out]);have cD':=hr1.reg (k:=D) (r:=d) HD.out;have c20':w1.cell? ⟨b,20,none⟩=_:=hr1.cells.2.2.2.2.1;clear hb1 hr1;refine ⟨_,rfl,.inr ⟨c21',cD'⟩,?_⟩;(try simp only [Act.put,List.setIfInBounds_toArray,List.set_cons_zero,List.set_cons_succ])))
 (refine runL_nil ?_)
 clear c21 cD c20
 have c20:=c20'
 have f0:=HR.out.frozen D
 rw [show (_:Int)=6 from HOP.out] at c20
 clear c20'
 go_wp2
 go_region
 go_wp2
 go_ret
 exact ⟨rfl,(HB.out.setCell HR.out.le _).drew,(HR.out.setReg HDL.out (addF_lt _ _ _)).next ((Below.refl _ _).drew)⟩
theorem values9 (w:World):Calls Tryz.prog 124 #[.int .i64 9] w fun e w'=>e=.returned (.tuple #[.func (.func 152) #[] #[],.bool true])∧w=w':=by
 go_enter Tryz.func124,Tryz.ntmps124
 go_wp2
 go_ret2
 exact ⟨rfl,rfl⟩
theorem hasS9 (w:World):Calls Tryz.prog 125 #[.int .i64 9] w fun e w'=>e=.returned (.bool true)∧w=w':=by
 go_enter Tryz.func125,Tryz.ntmps125
 go_wp2
 go_ret
 exact ⟨rfl,rfl⟩
set_option linter.unusedVariables false in
set_option maxHeartbeats 1600000 in
theorem over9 (h:Run w base b x evs) (hop:x.i.op=9) (D:Nat) (hD:x.i.d=D) (d:Nat) (hd:x.st.regs[D]? = some d) (S:Nat) (hS:x.i.s=S) (bb:Nat) (hb:x.st.regs[S]? = some bb) :
   Calls Tryz.prog 92 #[.pointer (some ⟨b,0,none⟩)] w fun e w'=>e=.returned (.bool true)∧Below base w w'∧Run w' base b { x with st:={ (valueF.restS x.st d bb x.st.cf).1 with regs:=(valueF.restS x.st d bb x.st.cf).1.regs.set D (valueF.restS x.st d bb x.st.cf).2 } } evs:=by
 have hd64:d < 18446744073709551616:=h.ok.regs _ (List.mem_of_getElem? hd)
 have hDl:D < 16:=by have:=(List.getElem?_eq_some_iff.1 hd).1;rw [h.ok.len] at this;exact this
 have hb64:bb < 18446744073709551616:=h.ok.regs _ (List.mem_of_getElem? hb)
 have hSl:S < 16:=by have:=(List.getElem?_eq_some_iff.1 hb).1;rw [h.ok.len] at this;exact this
 obtain ⟨_,_,_,_,c20,c21,c22,_,_,_,_,_,c28,_⟩:=h.cells
 rw [hop] at c20
 rw [hD] at c21
 rw [hS] at c22
 have cS:=h.reg hb
 have j0:(0:Int)≤(S:Int):=by omega
 have j1:(S:Int) < 16:=by omega
 have cD:=h.reg hd
 have i0:(0:Int)≤(D:Int):=by omega
 have i1:(D:Int) < 16:=by omega
 have H:=Lh h
 have HD:=Lh hd
 have HDD:=Lh hD
 have HOP:=Lh hop
 have HLT:=Lh (And.intro hd64 hb64)
 have HDL:=Lh hDl
 clear h hop hD hd hb hd64 hb64 hDl hS
 go_enter Tryz.func92,Tryz.ntmps92
 go_wp2_with fail
 refine (values9 w).mono ?_
 rintro e w1 ⟨rfl,rfl⟩
 go_wp2_with fail
 refine (hasS9 w).mono ?_
 rintro e w1 ⟨rfl,rfl⟩
 go_wp2
 go_region
 have H2:=Lh (H.out.next ((Below.refl _ _).drew))
 have e0:Below base w w.drew:=(Below.refl _ _).drew
 have HB0:=Lh e0
 replace c20:w.drew.cell? ⟨b,20,none⟩=_:=c20
 replace c21:w.drew.cell? ⟨b,21,none⟩=_:=c21
 replace cD:w.drew.cell? ⟨b,D,none⟩=_:=cD
 clear e0 cS c22 c28 H
 generalize w.drew=w0 at *
 go_wp2
 (refine wp_region_lines (fun w_=>w_.cell? ⟨b,21,none⟩=some (.int .i64 D)∧w_.cell? ⟨b,D,none⟩=some (.int .u64 d)) (by kernel_rfl) (by kernel_rfl) ⟨c21,cD⟩ ?_)
 (try simp only [])
 repeat (first | (refine runL_no (by rfl) ?_;(try simp only [Act.put,List.setIfInBounds_toArray,List.set_cons_zero,List.set_cons_succ])) | (refine runL_val (v:=?_) (by rfl) ?_ ?_;rotate_left;(focus (intro w_ hw_;obtain ⟨f1,f2⟩:=hw_;go_simp;(try with_reducible rfl);done));(try simp only [Act.put,List.setIfInBounds_toArray,List.set_cons_zero,List.set_cons_succ])) | (refine runL_call (f:=?_) (args:=?_) (w1:=?_) (by rfl) (by rfl) ?_ ?_;rotate_left 3;(focus (go_simp;refine ⟨⟨?_,?_⟩,?_⟩ <;> with_reducible rfl));refine (val5 (H2.out.next ((Below.refl _ _).drew)) d bb HLT.out.1 HLT.out.2).mono ?_;rintro e w1 ⟨rfl,hb1,hr1⟩;have HR:=Lh hr1;have HB:=Lh (HB0.out.trans ((show Below base w0 w0.drew from (Below.refl _ _).drew).trans hb1));have c21':w1.cell? ⟨b,21,none⟩=some (.int .i64 D):=(hr1.cells.2.2.2.2.2.1).trans (by rw [HDD.out]);have cD':=hr1.reg (k:=D) (r:=d) HD.out;have c20':w1.cell? ⟨b,20,none⟩=_:=hr1.cells.2.2.2.2.1;clear hb1 hr1;refine ⟨_,rfl,.inr ⟨c21',cD'⟩,?_⟩;(try simp only [Act.put,List.setIfInBounds_toArray,List.set_cons_zero,List.set_cons_succ])))
 (refine runL_nil ?_)
 clear c21 cD c20
 have c20:=c20'
 have f0:=HR.out.frozen D
 rw [show (_:Int)=9 from HOP.out] at c20
 clear c20'
 go_wp2
 go_region
 go_wp2
 go_ret
 exact ⟨rfl,(HB.out.setCell HR.out.le _).drew,(HR.out.setReg HDL.out (subF_lt _ _ _)).next ((Below.refl _ _).drew)⟩
theorem values12 (w:World):Calls Tryz.prog 124 #[.int .i64 12] w fun e w'=>e=.returned (.tuple #[.func (.func 156) #[] #[],.bool true])∧w=w':=by
 go_enter Tryz.func124,Tryz.ntmps124
 go_wp2
 go_ret2
 exact ⟨rfl,rfl⟩
theorem hasS12 (w:World):Calls Tryz.prog 125 #[.int .i64 12] w fun e w'=>e=.returned (.bool true)∧w=w':=by
 go_enter Tryz.func125,Tryz.ntmps125
 go_wp2
 go_ret
 exact ⟨rfl,rfl⟩
set_option linter.unusedVariables false in
set_option maxHeartbeats 1600000 in
theorem over12 (h:Run w base b x evs) (hop:x.i.op=12) (D:Nat) (hD:x.i.d=D) (d:Nat) (hd:x.st.regs[D]? = some d) (S:Nat) (hS:x.i.s=S) (bb:Nat) (hb:x.st.regs[S]? = some bb) :
   Calls Tryz.prog 92 #[.pointer (some ⟨b,0,none⟩)] w fun e w'=>e=.returned (.bool true)∧Below base w w'∧Run w' base b { x with st:={ (valueF.plainS x.st (d ^^^ bb)).1 with regs:=(valueF.plainS x.st (d ^^^ bb)).1.regs.set D (valueF.plainS x.st (d ^^^ bb)).2 } } evs:=by
 have hd64:d < 18446744073709551616:=h.ok.regs _ (List.mem_of_getElem? hd)
 have hDl:D < 16:=by have:=(List.getElem?_eq_some_iff.1 hd).1;rw [h.ok.len] at this;exact this
 have hb64:bb < 18446744073709551616:=h.ok.regs _ (List.mem_of_getElem? hb)
 have hSl:S < 16:=by have:=(List.getElem?_eq_some_iff.1 hb).1;rw [h.ok.len] at this;exact this
 obtain ⟨_,_,_,_,c20,c21,c22,_,_,_,_,_,c28,_⟩:=h.cells
 rw [hop] at c20
 rw [hD] at c21
 rw [hS] at c22
 have cS:=h.reg hb
 have j0:(0:Int)≤(S:Int):=by omega
 have j1:(S:Int) < 16:=by omega
 have cD:=h.reg hd
 have i0:(0:Int)≤(D:Int):=by omega
 have i1:(D:Int) < 16:=by omega
 have H:=Lh h
 have HD:=Lh hd
 have HDD:=Lh hD
 have HOP:=Lh hop
 have HLT:=Lh (And.intro hd64 hb64)
 have HDL:=Lh hDl
 clear h hop hD hd hb hd64 hb64 hDl hS
 go_enter Tryz.func92,Tryz.ntmps92
 go_wp2_with fail
 refine (values12 w).mono ?_
 rintro e w1 ⟨rfl,rfl⟩
 go_wp2_with fail
 refine (hasS12 w).mono ?_
 rintro e w1 ⟨rfl,rfl⟩
 go_wp2
 go_region
 have H2:=Lh (H.out.next ((Below.refl _ _).drew))
 have e0:Below base w w.drew:=(Below.refl _ _).drew
 have HB0:=Lh e0
 replace c20:w.drew.cell? ⟨b,20,none⟩=_:=c20
 replace c21:w.drew.cell? ⟨b,21,none⟩=_:=c21
 replace cD:w.drew.cell? ⟨b,D,none⟩=_:=cD
 clear e0 cS c22 c28 H
 generalize w.drew=w0 at *
 go_wp2
 (refine wp_region_lines (fun w_=>w_.cell? ⟨b,21,none⟩=some (.int .i64 D)∧w_.cell? ⟨b,D,none⟩=some (.int .u64 d)) (by kernel_rfl) (by kernel_rfl) ⟨c21,cD⟩ ?_)
 (try simp only [])
 repeat (first | (refine runL_no (by rfl) ?_;(try simp only [Act.put,List.setIfInBounds_toArray,List.set_cons_zero,List.set_cons_succ])) | (refine runL_val (v:=?_) (by rfl) ?_ ?_;rotate_left;(focus (intro w_ hw_;obtain ⟨f1,f2⟩:=hw_;go_simp;(try with_reducible rfl);done));(try simp only [Act.put,List.setIfInBounds_toArray,List.set_cons_zero,List.set_cons_succ])) | (refine runL_call (f:=?_) (args:=?_) (w1:=?_) (by rfl) (by rfl) ?_ ?_;rotate_left 3;(focus (go_simp;refine ⟨⟨?_,?_⟩,?_⟩ <;> with_reducible rfl));refine (val8 (H2.out.next ((Below.refl _ _).drew)) d bb HLT.out.1 HLT.out.2).mono ?_;rintro e w1 ⟨rfl,hb1,hr1⟩;have HR:=Lh hr1;have HB:=Lh (HB0.out.trans ((show Below base w0 w0.drew from (Below.refl _ _).drew).trans hb1));have c21':w1.cell? ⟨b,21,none⟩=some (.int .i64 D):=(hr1.cells.2.2.2.2.2.1).trans (by rw [HDD.out]);have cD':=hr1.reg (k:=D) (r:=d) HD.out;have c20':w1.cell? ⟨b,20,none⟩=_:=hr1.cells.2.2.2.2.1;clear hb1 hr1;refine ⟨_,rfl,.inr ⟨c21',cD'⟩,?_⟩;(try simp only [Act.put,List.setIfInBounds_toArray,List.set_cons_zero,List.set_cons_succ])))
 (refine runL_nil ?_)
 clear c21 cD c20
 have c20:=c20'
 have f0:=HR.out.frozen D
 rw [show (_:Int)=12 from HOP.out] at c20
 clear c20'
 go_wp2
 go_region
 go_wp2
 go_ret
 exact ⟨rfl,(HB.out.setCell HR.out.le _).drew,(HR.out.setReg HDL.out (xor_lt HLT.out.1 HLT.out.2)).next ((Below.refl _ _).drew)⟩
theorem values15 (w:World):Calls Tryz.prog 124 #[.int .i64 15] w fun e w'=>e=.returned (.tuple #[.func (.func 147) #[] #[],.bool true])∧w=w':=by
 go_enter Tryz.func124,Tryz.ntmps124
 go_wp2
 go_ret2
 exact ⟨rfl,rfl⟩
theorem hasS15 (w:World):Calls Tryz.prog 125 #[.int .i64 15] w fun e w'=>e=.returned (.bool false)∧w=w':=by
 go_enter Tryz.func125,Tryz.ntmps125
 go_wp2
 go_ret
 exact ⟨rfl,rfl⟩
set_option linter.unusedVariables false in
set_option maxHeartbeats 1600000 in
theorem over15 (h:Run w base b x evs) (hop:x.i.op=15) (D:Nat) (hD:x.i.d=D) (d:Nat) (hd:x.st.regs[D]? = some d) (bb:Nat) (hb:bb=u64 x.i.imm) :
   Calls Tryz.prog 92 #[.pointer (some ⟨b,0,none⟩)] w fun e w'=>e=.returned (.bool true)∧Below base w w'∧Run w' base b { x with st:={ (valueF.sumS x.st d bb false).1 with regs:=(valueF.sumS x.st d bb false).1.regs.set D (valueF.sumS x.st d bb false).2 } } evs:=by
 have hd64:d < 18446744073709551616:=h.ok.regs _ (List.mem_of_getElem? hd)
 have hDl:D < 16:=by have:=(List.getElem?_eq_some_iff.1 hd).1;rw [h.ok.len] at this;exact this
 have hb64:bb < 18446744073709551616:=by rw [hb];exact u64_lt _
 obtain ⟨_,_,_,_,c20,c21,c22,_,_,_,_,_,c28,_⟩:=h.cells
 rw [hop] at c20
 rw [hD] at c21
 have aA:=wrap_u64 x.i.imm
 rw [←hb] at aA
 have cD:=h.reg hd
 have i0:(0:Int)≤(D:Int):=by omega
 have i1:(D:Int) < 16:=by omega
 have H:=Lh h
 have HD:=Lh hd
 have HDD:=Lh hD
 have HOP:=Lh hop
 have HLT:=Lh (And.intro hd64 hb64)
 have HDL:=Lh hDl
 clear h hop hD hd hb hd64 hb64 hDl
 go_enter Tryz.func92,Tryz.ntmps92
 go_wp2_with fail
 refine (values15 w).mono ?_
 rintro e w1 ⟨rfl,rfl⟩
 go_wp2_with fail
 refine (hasS15 w).mono ?_
 rintro e w1 ⟨rfl,rfl⟩
 go_wp2
 have H2:=H
 have HB0:=Lh (Below.refl base w)
 clear H c22 c28
 obtain ⟨w0,rfl⟩:∃ w0:World,w0=w:=⟨_,rfl⟩
 (refine wp_region_lines (fun w_=>w_.cell? ⟨b,21,none⟩=some (.int .i64 D)∧w_.cell? ⟨b,D,none⟩=some (.int .u64 d)) (by kernel_rfl) (by kernel_rfl) ⟨c21,cD⟩ ?_)
 (try simp only [])
 repeat (first | (refine runL_no (by rfl) ?_;(try simp only [Act.put,List.setIfInBounds_toArray,List.set_cons_zero,List.set_cons_succ])) | (refine runL_val (v:=?_) (by rfl) ?_ ?_;rotate_left;(focus (intro w_ hw_;obtain ⟨f1,f2⟩:=hw_;go_simp;(try with_reducible rfl);done));(try simp only [Act.put,List.setIfInBounds_toArray,List.set_cons_zero,List.set_cons_succ])) | (refine runL_call (f:=?_) (args:=?_) (w1:=?_) (by rfl) (by rfl) ?_ ?_;rotate_left 3;(focus (go_simp;refine ⟨⟨?_,?_⟩,?_⟩ <;> with_reducible rfl));refine (val2 (H2.out.next ((Below.refl _ _).drew)) d bb HLT.out.1 HLT.out.2).mono ?_;rintro e w1 ⟨rfl,hb1,hr1⟩;have HR:=Lh hr1;have HB:=Lh (HB0.out.trans ((show Below base w0 w0.drew from (Below.refl _ _).drew).trans hb1));have c21':w1.cell? ⟨b,21,none⟩=some (.int .i64 D):=(hr1.cells.2.2.2.2.2.1).trans (by rw [HDD.out]);have cD':=hr1.reg (k:=D) (r:=d) HD.out;have c20':w1.cell? ⟨b,20,none⟩=_:=hr1.cells.2.2.2.2.1;clear hb1 hr1;refine ⟨_,rfl,.inr ⟨c21',cD'⟩,?_⟩;(try simp only [Act.put,List.setIfInBounds_toArray,List.set_cons_zero,List.set_cons_succ])))
 (refine runL_nil ?_)
 clear c21 cD c20
 have c20:=c20'
 have f0:=HR.out.frozen D
 rw [show (_:Int)=15 from HOP.out] at c20
 clear c20'
 go_wp2
 go_region
 go_wp2
 go_ret
 exact ⟨rfl,(HB.out.setCell HR.out.le _).drew,(HR.out.setReg HDL.out (addF_lt _ _ _)).next ((Below.refl _ _).drew)⟩
theorem values18 (w:World):Calls Tryz.prog 124 #[.int .i64 18] w fun e w'=>e=.returned (.tuple #[.func (.func 150) #[] #[],.bool true])∧w=w':=by
 go_enter Tryz.func124,Tryz.ntmps124
 go_wp2
 go_ret2
 exact ⟨rfl,rfl⟩
theorem hasS18 (w:World):Calls Tryz.prog 125 #[.int .i64 18] w fun e w'=>e=.returned (.bool false)∧w=w':=by
 go_enter Tryz.func125,Tryz.ntmps125
 go_wp2
 go_ret
 exact ⟨rfl,rfl⟩
set_option linter.unusedVariables false in
set_option maxHeartbeats 1600000 in
theorem over18 (h:Run w base b x evs) (hop:x.i.op=18) (D:Nat) (hD:x.i.d=D) (d:Nat) (hd:x.st.regs[D]? = some d) (bb:Nat) (hb:bb=u64 x.i.imm) :
   Calls Tryz.prog 92 #[.pointer (some ⟨b,0,none⟩)] w fun e w'=>e=.returned (.bool true)∧Below base w w'∧Run w' base b { x with st:=(valueF.restS x.st d bb false).1 } evs:=by
 have hd64:d < 18446744073709551616:=h.ok.regs _ (List.mem_of_getElem? hd)
 have hDl:D < 16:=by have:=(List.getElem?_eq_some_iff.1 hd).1;rw [h.ok.len] at this;exact this
 have hb64:bb < 18446744073709551616:=by rw [hb];exact u64_lt _
 obtain ⟨_,_,_,_,c20,c21,c22,_,_,_,_,_,c28,_⟩:=h.cells
 rw [hop] at c20
 rw [hD] at c21
 have aA:=wrap_u64 x.i.imm
 rw [←hb] at aA
 have cD:=h.reg hd
 have i0:(0:Int)≤(D:Int):=by omega
 have i1:(D:Int) < 16:=by omega
 have H:=Lh h
 have HD:=Lh hd
 have HDD:=Lh hD
 have HOP:=Lh hop
 have HLT:=Lh (And.intro hd64 hb64)
 have HDL:=Lh hDl
 clear h hop hD hd hb hd64 hb64 hDl
 go_enter Tryz.func92,Tryz.ntmps92
 go_wp2_with fail
 refine (values18 w).mono ?_
 rintro e w1 ⟨rfl,rfl⟩
 go_wp2_with fail
 refine (hasS18 w).mono ?_
 rintro e w1 ⟨rfl,rfl⟩
 go_wp2
 have H2:=H
 have HB0:=Lh (Below.refl base w)
 clear H c22 c28
 obtain ⟨w0,rfl⟩:∃ w0:World,w0=w:=⟨_,rfl⟩
 (refine wp_region_lines (fun w_=>w_.cell? ⟨b,21,none⟩=some (.int .i64 D)∧w_.cell? ⟨b,D,none⟩=some (.int .u64 d)) (by kernel_rfl) (by kernel_rfl) ⟨c21,cD⟩ ?_)
 (try simp only [])
 repeat (first | (refine runL_no (by rfl) ?_;(try simp only [Act.put,List.setIfInBounds_toArray,List.set_cons_zero,List.set_cons_succ])) | (refine runL_val (v:=?_) (by rfl) ?_ ?_;rotate_left;(focus (intro w_ hw_;obtain ⟨f1,f2⟩:=hw_;go_simp;(try with_reducible rfl);done));(try simp only [Act.put,List.setIfInBounds_toArray,List.set_cons_zero,List.set_cons_succ])) | (refine runL_call (f:=?_) (args:=?_) (w1:=?_) (by rfl) (by rfl) ?_ ?_;rotate_left 3;(focus (go_simp;refine ⟨⟨?_,?_⟩,?_⟩ <;> with_reducible rfl));refine (val4 (H2.out.next ((Below.refl _ _).drew)) d bb HLT.out.1 HLT.out.2).mono ?_;rintro e w1 ⟨rfl,hb1,hr1⟩;have HR:=Lh hr1;have HB:=Lh (HB0.out.trans ((show Below base w0 w0.drew from (Below.refl _ _).drew).trans hb1));have c21':w1.cell? ⟨b,21,none⟩=some (.int .i64 D):=(hr1.cells.2.2.2.2.2.1).trans (by rw [HDD.out]);have cD':=hr1.reg (k:=D) (r:=d) HD.out;have c20':w1.cell? ⟨b,20,none⟩=_:=hr1.cells.2.2.2.2.1;clear hb1 hr1;refine ⟨_,rfl,.inr ⟨c21',cD'⟩,?_⟩;(try simp only [Act.put,List.setIfInBounds_toArray,List.set_cons_zero,List.set_cons_succ])))
 (refine runL_nil ?_)
 clear c21 cD c20
 have c20:=c20'
 have f0:=HR.out.frozen D
 rw [show (_:Int)=18 from HOP.out] at c20
 clear c20'
 go_wp2
 go_ret
 exact ⟨rfl,HB.out,HR.out⟩
theorem values22 (w:World):Calls Tryz.prog 124 #[.int .i64 22] w fun e w'=>e=.returned (.tuple #[.func (.func 157) #[] #[],.bool true])∧w=w':=by
 go_enter Tryz.func124,Tryz.ntmps124
 go_wp2
 go_ret2
 exact ⟨rfl,rfl⟩
theorem hasS22 (w:World):Calls Tryz.prog 125 #[.int .i64 22] w fun e w'=>e=.returned (.bool false)∧w=w':=by
 go_enter Tryz.func125,Tryz.ntmps125
 go_wp2
 go_ret
 exact ⟨rfl,rfl⟩
set_option linter.unusedVariables false in
set_option maxHeartbeats 1600000 in
theorem over22 (h:Run w base b x evs) (hop:x.i.op=22) (D:Nat) (hD:x.i.d=D) (d:Nat) (hd:x.st.regs[D]? = some d) (bb:Nat) (hb:bb=u64 x.i.imm) :
   Calls Tryz.prog 92 #[.pointer (some ⟨b,0,none⟩)] w fun e w'=>e=.returned (.bool true)∧Below base w w'∧Run w' base b { x with st:={ (valueF.restS x.st 0 d false).1 with regs:=(valueF.restS x.st 0 d false).1.regs.set D (valueF.restS x.st 0 d false).2 } } evs:=by
 have hd64:d < 18446744073709551616:=h.ok.regs _ (List.mem_of_getElem? hd)
 have hDl:D < 16:=by have:=(List.getElem?_eq_some_iff.1 hd).1;rw [h.ok.len] at this;exact this
 have hb64:bb < 18446744073709551616:=by rw [hb];exact u64_lt _
 obtain ⟨_,_,_,_,c20,c21,c22,_,_,_,_,_,c28,_⟩:=h.cells
 rw [hop] at c20
 rw [hD] at c21
 have aA:=wrap_u64 x.i.imm
 rw [←hb] at aA
 have cD:=h.reg hd
 have i0:(0:Int)≤(D:Int):=by omega
 have i1:(D:Int) < 16:=by omega
 have H:=Lh h
 have HD:=Lh hd
 have HDD:=Lh hD
 have HOP:=Lh hop
 have HLT:=Lh (And.intro hd64 hb64)
 have HDL:=Lh hDl
 clear h hop hD hd hb hd64 hb64 hDl
 go_enter Tryz.func92,Tryz.ntmps92
 go_wp2_with fail
 refine (values22 w).mono ?_
 rintro e w1 ⟨rfl,rfl⟩
 go_wp2_with fail
 refine (hasS22 w).mono ?_
 rintro e w1 ⟨rfl,rfl⟩
 go_wp2
 have H2:=H
 have HB0:=Lh (Below.refl base w)
 clear H c22 c28
 obtain ⟨w0,rfl⟩:∃ w0:World,w0=w:=⟨_,rfl⟩
 (refine wp_region_lines (fun w_=>w_.cell? ⟨b,21,none⟩=some (.int .i64 D)∧w_.cell? ⟨b,D,none⟩=some (.int .u64 d)) (by kernel_rfl) (by kernel_rfl) ⟨c21,cD⟩ ?_)
 (try simp only [])
 repeat (first | (refine runL_no (by rfl) ?_;(try simp only [Act.put,List.setIfInBounds_toArray,List.set_cons_zero,List.set_cons_succ])) | (refine runL_val (v:=?_) (by rfl) ?_ ?_;rotate_left;(focus (intro w_ hw_;obtain ⟨f1,f2⟩:=hw_;go_simp;(try with_reducible rfl);done));(try simp only [Act.put,List.setIfInBounds_toArray,List.set_cons_zero,List.set_cons_succ])) | (refine runL_call (f:=?_) (args:=?_) (w1:=?_) (by rfl) (by rfl) ?_ ?_;rotate_left 3;(focus (go_simp;refine ⟨⟨?_,?_⟩,?_⟩ <;> with_reducible rfl));refine (val9 (H2.out.next ((Below.refl _ _).drew)) d bb HLT.out.1 HLT.out.2).mono ?_;rintro e w1 ⟨rfl,hb1,hr1⟩;have HR:=Lh hr1;have HB:=Lh (HB0.out.trans ((show Below base w0 w0.drew from (Below.refl _ _).drew).trans hb1));have c21':w1.cell? ⟨b,21,none⟩=some (.int .i64 D):=(hr1.cells.2.2.2.2.2.1).trans (by rw [HDD.out]);have cD':=hr1.reg (k:=D) (r:=d) HD.out;have c20':w1.cell? ⟨b,20,none⟩=_:=hr1.cells.2.2.2.2.1;clear hb1 hr1;refine ⟨_,rfl,.inr ⟨c21',cD'⟩,?_⟩;(try simp only [Act.put,List.setIfInBounds_toArray,List.set_cons_zero,List.set_cons_succ])))
 (refine runL_nil ?_)
 clear c21 cD c20
 have c20:=c20'
 have f0:=HR.out.frozen D
 rw [show (_:Int)=22 from HOP.out] at c20
 clear c20'
 go_wp2
 go_region
 go_wp2
 go_ret
 exact ⟨rfl,(HB.out.setCell HR.out.le _).drew,(HR.out.setReg HDL.out (subF_lt _ _ _)).next ((Below.refl _ _).drew)⟩
theorem values25 (w:World):Calls Tryz.prog 124 #[.int .i64 25] w fun e w'=>e=.returned (.tuple #[.func (.func 161) #[] #[],.bool true])∧w=w':=by
 go_enter Tryz.func124,Tryz.ntmps124
 go_wp2
 go_ret2
 exact ⟨rfl,rfl⟩
theorem hasS25 (w:World):Calls Tryz.prog 125 #[.int .i64 25] w fun e w'=>e=.returned (.bool false)∧w=w':=by
 go_enter Tryz.func125,Tryz.ntmps125
 go_wp2
 go_ret
 exact ⟨rfl,rfl⟩
set_option linter.unusedVariables false in
set_option maxHeartbeats 1600000 in
theorem over25 (h:Run w base b x evs) (hop:x.i.op=25) (D:Nat) (hD:x.i.d=D) (d:Nat) (hd:x.st.regs[D]? = some d) (bb:Nat) (hb:bb=u64 x.i.imm) (hb1:1≤bb) (hb2:bb≤63) :
   Calls Tryz.prog 92 #[.pointer (some ⟨b,0,none⟩)] w fun e w'=>e=.returned (.bool true)∧Below base w w'∧Run w' base b { x with st:={ (valueF.shiftS x.st (d / 2 ^ bb) (d / 2 ^ (bb - 1))).1 with regs:=(valueF.shiftS x.st (d / 2 ^ bb) (d / 2 ^ (bb - 1))).1.regs.set D (valueF.shiftS x.st (d / 2 ^ bb) (d / 2 ^ (bb - 1))).2 } } evs:=by
 have hd64:d < 18446744073709551616:=h.ok.regs _ (List.mem_of_getElem? hd)
 have hDl:D < 16:=by have:=(List.getElem?_eq_some_iff.1 hd).1;rw [h.ok.len] at this;exact this
 have hb64:bb < 18446744073709551616:=by rw [hb];exact u64_lt _
 obtain ⟨_,_,_,_,c20,c21,c22,_,_,_,_,_,c28,_⟩:=h.cells
 rw [hop] at c20
 rw [hD] at c21
 have aA:=wrap_u64 x.i.imm
 rw [←hb] at aA
 have cD:=h.reg hd
 have i0:(0:Int)≤(D:Int):=by omega
 have i1:(D:Int) < 16:=by omega
 have H:=Lh h
 have HD:=Lh hd
 have HDD:=Lh hD
 have HOP:=Lh hop
 have HLT:=Lh (And.intro hd64 hb64)
 have HDL:=Lh hDl
 clear h hop hD hd hb hd64 hb64 hDl
 go_enter Tryz.func92,Tryz.ntmps92
 go_wp2_with fail
 refine (values25 w).mono ?_
 rintro e w1 ⟨rfl,rfl⟩
 go_wp2_with fail
 refine (hasS25 w).mono ?_
 rintro e w1 ⟨rfl,rfl⟩
 go_wp2
 have H2:=H
 have HB0:=Lh (Below.refl base w)
 clear H c22 c28
 obtain ⟨w0,rfl⟩:∃ w0:World,w0=w:=⟨_,rfl⟩
 have hb1':=hb1
 (refine wp_region_lines (fun w_=>w_.cell? ⟨b,21,none⟩=some (.int .i64 D)∧w_.cell? ⟨b,D,none⟩=some (.int .u64 d)) (by kernel_rfl) (by kernel_rfl) ⟨c21,cD⟩ ?_)
 (try simp only [])
 repeat (first | (refine runL_no (by rfl) ?_;(try simp only [Act.put,List.setIfInBounds_toArray,List.set_cons_zero,List.set_cons_succ])) | (refine runL_val (v:=?_) (by rfl) ?_ ?_;rotate_left;(focus (intro w_ hw_;obtain ⟨f1,f2⟩:=hw_;go_simp;(try with_reducible rfl);done));(try simp only [Act.put,List.setIfInBounds_toArray,List.set_cons_zero,List.set_cons_succ])) | (refine runL_call (f:=?_) (args:=?_) (w1:=?_) (by rfl) (by rfl) ?_ ?_;rotate_left 3;(focus (go_simp;refine ⟨⟨?_,?_⟩,?_⟩ <;> with_reducible rfl));refine (val12 (H2.out.next ((Below.refl _ _).drew)) d bb HLT.out.1 hb1 hb2).mono ?_;rintro e w1 ⟨rfl,hb1,hr1⟩;have HR:=Lh hr1;have HB:=Lh (HB0.out.trans ((show Below base w0 w0.drew from (Below.refl _ _).drew).trans hb1));have c21':w1.cell? ⟨b,21,none⟩=some (.int .i64 D):=(hr1.cells.2.2.2.2.2.1).trans (by rw [HDD.out]);have cD':=hr1.reg (k:=D) (r:=d) HD.out;have c20':w1.cell? ⟨b,20,none⟩=_:=hr1.cells.2.2.2.2.1;clear hb1 hr1;refine ⟨_,rfl,.inr ⟨c21',cD'⟩,?_⟩;(try simp only [Act.put,List.setIfInBounds_toArray,List.set_cons_zero,List.set_cons_succ])))
 (refine runL_nil ?_)
 clear c21 cD c20
 have c20:=c20'
 have f0:=HR.out.frozen D
 rw [show (_:Int)=25 from HOP.out] at c20
 clear c20'
 go_wp2
 go_region
 go_wp2
 go_ret
 exact ⟨rfl,(HB.out.setCell HR.out.le _).drew,(HR.out.setReg HDL.out (Nat.lt_of_le_of_lt (Nat.div_le_self _ _) HLT.out.1)).next ((Below.refl _ _).drew)⟩
end Go.Proofs.YtocndimihokcmaaGreat
namespace Go.Proofs.YtocndimihokcmaaGreat
open Go.RowKit
set_option maxRecDepth 100000
variable {w:World} {base b:Nat} {x:Stp} {evs:List Ev} {F:Nat→Prop} {rs:List Reg}
set_option maxHeartbeats 1600000 in
theorem do33 (h:Run w base b x evs) (hop:x.i.op=33) (hm:MemAt w F x.m rs) (hF:∀ k,F k→k < base) (hf:evs.length≤80) (sp:Nat) (hsp:x.st.regs[4]? = some sp) :
   Calls Tryz.prog 93 #[.pointer (some ⟨b,0,none⟩)] w fun e w'=>e=.returned (.tuple #[])∧Below base w w'∧∃ v,Run w' base b { x with e:=(loadVE (loadF rs sp)).2,l:=v,st:={ x.st with regs:=x.st.regs.set 4 ((sp+8) % 18446744073709551616),pc:=(loadVE (loadF rs sp)).1 } } (evs++[⟨2,sp⟩]++[⟨4,(loadVE (loadF rs sp)).1⟩]):=by
 have c20:=h.cells.2.2.2.2.1
 rw [hop] at c20
 have HP:=Lh (pop_any h hm hF sp hsp (by omega))
 have HLE:=Lh h.le
 have HFEW:=Lh hf
 clear h hop hm hF hf hsp
 go_enter Tryz.func93,Tryz.ntmps93
 go_wp2_with fail
 refine HP.out.mono ?_
 rintro e w1 ⟨rfl,hb1,v,hr1⟩
 have c16:=hr1.cells.1
 have f16:=hr1.frozen 16
 have HR:=Lh hr1
 have HB:=Lh hb1
 clear hb1 hr1 c20
 go_wp2_with fail
 refine (see_any (HR.out.setPc loadF_lt) 4 (loadVE (loadF rs sp)).1 (by have:=HFEW.out;simp;omega)).mono ?_
 rintro e w2 ⟨rfl,hb2,aC,hr2⟩
 have HR2:=Lh hr2
 have HB2:=Lh ((HB.out.setCell HLE.out _).trans hb2)
 clear hb2 hr2 c16 f16
 go_wp2
 go_end0
 exact ⟨rfl,HB2.out,aC,HR2.out⟩
set_option maxHeartbeats 1600000 in
theorem do28 (h:Run w base b x evs) (hop:x.i.op=28) (hm:MemAt w F x.m rs) (hF:∀ k,F k→k < base) (hf:evs.length≤80) (S:Nat) (hS:x.i.s=S) (hSl:S < 16) (v:Nat) (hv:x.st.regs[S]? = some v) (sp:Nat) (hsp:x.st.regs[4]? = some sp) :
   Calls Tryz.prog 93 #[.pointer (some ⟨b,0,none⟩)] w fun e w'=>∃ g rs2 vl,e=.returned (.tuple #[])∧StoreSays rs ((18446744073709551616+sp - 8) % 18446744073709551616) v g rs2∧MemAt w' F x.m rs2∧Chg (Over F base) w w' ∧
     Run w' base b { x with e:=g,l:=vl,st:={ x.st with regs:=x.st.regs.set 4 ((18446744073709551616+sp - 8) % 18446744073709551616) } } (evs++[⟨3,(18446744073709551616+sp - 8) % 18446744073709551616⟩]):=by
 have c20:=h.cells.2.2.2.2.1
 have c22:=h.cells.2.2.2.2.2.2.1
 rw [hop] at c20
 rw [hS] at c22
 have cS:=h.reg hv
 have c4:=h.reg hsp
 have f4:=h.frozen 4
 have j0:(0:Int)≤(S:Int):=by omega
 have j1:(S:Int) < 16:=by omega
 have hs64:sp < 18446744073709551616:=h.ok.regs _ (List.mem_of_getElem? hsp)
 have HV:=Lh (h.ok.regs _ (List.mem_of_getElem? hv))
 have w8:IntKind.u64.wrap ((sp:Int) - 8)=(((18446744073709551616+sp - 8) % 18446744073709551616:Nat):Int):=by rw [wrapU'];omega
 have hlt:(18446744073709551616+sp - 8) % 18446744073709551616 < 18446744073709551616:=Nat.mod_lt _ (by decide)
 generalize (18446744073709551616+sp - 8) % 18446744073709551616=q at *
 have hle:=h.le
 have h1:=((h.next ((Below.refl _ _).drew)).setReg (k:=4) (by decide) hlt).next ((Below.refl _ _).drew)
 have h2:Below base w ((w.drew.setCell ⟨b,4,none⟩ (.int .u64 q)).drew):=(((Below.refl base w).drew).setCell hle _).drew
 have HR:=Lh h1
 have HM:=Lh (hm.keep (SameOn.of_below h2 hF))
 have HB:=Lh h2
 have HF:=Lh hF
 have HFEW:=Lh (show evs.length≤90 by omega)
 have HQ:=Lh hlt
 clear h hop hS hSl hv hsp hm hF hf h1 h2 hle hs64 hlt
 go_enter Tryz.func93,Tryz.ntmps93
 go_wp2
 go_region
 go_wp2
 go_region
 go_wp2_with fail
 refine (store_any HR.out HM.out HF.out q v HQ.out HV.out HFEW.out).mono ?_
 rintro e w2 ⟨g2,rs2,aC,rfl,hsay,hm2,hc2,hr2⟩
 have H2:=Lh hr2
 have HC2:=Lh ((Over.below (F:=F) HB.out).trans hc2)
 have HX2:=Lh (And.intro hsay hm2)
 clear hsay hm2 hc2 hr2 c20 c22 cS c4 f4
 go_wp2
 go_end0
 exact ⟨g2,rs2,aC,rfl,HX2.out.1,HX2.out.2,HC2.out,H2.out⟩
end Go.Proofs.YtocndimihokcmaaGreat
namespace Go.Proofs.YtocndimihokcmaaGreat
open Go.RowKit
set_option maxRecDepth 100000
variable {w:World} {base b:Nat} {x:Stp} {evs:List Ev} {F:Nat→Prop} {rs:List Reg}
set_option maxHeartbeats 1600000 in
theorem do19 (h:Run w base b x evs) (hop:x.i.op=19) (D:Nat) (hD:x.i.d=D) (hDl:D < 16) (S:Nat) (hS:x.i.s=S) (hSl:S < 16) (hDS:D≠S) (T:Nat) (hT:x.i.t=T) (t:Nat) (ht:x.st.regs[T]? = some t) (dx:Nat) (hdx:x.st.regs[2]? = some dx) :
   Calls Tryz.prog 93 #[.pointer (some ⟨b,0,none⟩)] w fun e w'=>e=.returned (.tuple #[])∧Below base w w'∧Run w' base b { x with st:={ x.st with regs:=(x.st.regs.set D (mulF t dx).1).set S (mulF t dx).2 } } evs:=by
 have hTl:T < 16:=by have:=(List.getElem?_eq_some_iff.1 ht).1;rw [h.ok.len] at this;exact this
 have c20:=h.cells.2.2.2.2.1
 have c21:=h.cells.2.2.2.2.2.1
 have c22:=h.cells.2.2.2.2.2.2.1
 have c23:=h.cells.2.2.2.2.2.2.2.1
 rw [hop] at c20
 rw [hD] at c21
 rw [hS] at c22
 rw [hT] at c23
 obtain ⟨d,hd⟩:∃ d,x.st.regs[D]? = some d:=⟨_,List.getElem?_eq_getElem (by rw [h.ok.len];exact hDl)⟩
 obtain ⟨s,hs⟩:∃ s,x.st.regs[S]? = some s:=⟨_,List.getElem?_eq_getElem (by rw [h.ok.len];exact hSl)⟩
 have cD:=h.reg hd
 have cS:=h.reg hs
 have cT:=h.reg ht
 have c2:=h.reg hdx
 have fD:=h.frozen D
 have fS:=h.frozen S
 have i0:(0:Int)≤(D:Int):=by omega
 have i1:(D:Int) < 16:=by omega
 have j0:(0:Int)≤(S:Int):=by omega
 have j1:(S:Int) < 16:=by omega
 have k0:(0:Int)≤(T:Int):=by omega
 have k1:(T:Int) < 16:=by omega
 have n1:¬ D=S:=hDS
 have n2:¬ S=D:=fun e=>hDS e.symm
 have n3:¬ D=22:=by omega
 have n4:¬ S=22:=by omega
 have hM:=Mul_any t dx w.drew (h.ok.regs _ (List.mem_of_getElem? ht)) (h.ok.regs _ (List.mem_of_getElem? hdx))
 have m1:(mulF t dx).1 < 18446744073709551616:=by
   have h1:=h.ok.regs _ (List.mem_of_getElem? ht)
   have h2:=h.ok.regs _ (List.mem_of_getElem? hdx)
   have h3:=Nat.mul_le_mul (Nat.le_of_lt_succ h1) (Nat.le_of_lt_succ h2)
   simp only [mulF];omega
 have m2:(mulF t dx).2 < 18446744073709551616:=Nat.mod_lt _ (by decide)
 generalize (mulF t dx).1=hi at *
 generalize (mulF t dx).2=lo at *
 have HX:=Lh (h.next ((Below.refl _ _).drew))
 have H:=Lh (((h.next ((Below.refl _ _).drew)).setReg hDl m1).setReg hSl m2)
 have HCS:=Lh (And.intro hD (And.intro hS (And.intro hT (And.intro ht hdx))))
 have HLE:=Lh h.le
 have HM:=Lh hM
 clear h hop hD hS hT hDl hSl hDS ht hdx hd hs hM hTl m1 m2
 go_enter Tryz.func93,Tryz.ntmps93
 go_wp2
 (refine wp_region_stages (fun k_ w_=>((fun k=>decide (k < 6) || (decide (12≤k) && decide (k < 28)) || (decide (29≤k) && decide (k < 32))) k_=true→(Holds base b x) w_)∧(fun w_=>w_.cell? ⟨b,22,none⟩=some (.int .i64 S)) w_) (by kernel_rfl) (by kernel_rfl) (fun _=>⟨fun _=>((And.intro HX.out.holds c22)).1,((And.intro HX.out.holds c22)).2⟩) ?_)
 (try simp only [])
 repeat (first | (refine runK_no (by rfl) ?_;(try simp only [Act.put,List.setIfInBounds_toArray,List.set_cons_zero,List.set_cons_succ])) | (refine runK_val (v:=?_) (by rfl) ?_ ?_;rotate_left;(focus (intro w_ hw_;obtain ⟨hE_,f2_⟩:=hw_;skip;(try (replace hE_:=hE_ (by decide);obtain ⟨l',e',evs',hr_⟩:=hE_;have k21:=hr_.cells.2.2.2.2.2.1;have k23:=hr_.cells.2.2.2.2.2.2.2.1;rw [show ({ x with l:=l',e:=e' }:Stp).i.d=(D:Int) from HCS.out.1] at k21;rw [show ({ x with l:=l',e:=e' }:Stp).i.t=(T:Int) from HCS.out.2.2.1] at k23;have kT:=hr_.reg (k:=T) (r:=t) HCS.out.2.2.2.1;have k2:=hr_.reg (k:=2) (r:=dx) HCS.out.2.2.2.2;clear hr_));go_simp;(try with_reducible rfl);done));(try simp only [Act.put,List.setIfInBounds_toArray,List.set_cons_zero,List.set_cons_succ])) | (refine runK_call (f:=?_) (args:=?_) (w1:=?_) (by rfl) (by rfl) ?_ ?_;rotate_left 3;(focus (go_simp;refine ⟨⟨?_,?_⟩,?_⟩ <;> with_reducible rfl));refine HM.out.mono ?_;rintro e w1 ⟨rfl,rfl⟩;refine ⟨_,rfl,fun _ _=>⟨fun _=>HX.out.holds,c22⟩,?_⟩;(try simp only [Act.put,List.setIfInBounds_toArray,List.set_cons_zero,List.set_cons_succ])) | (refine runK_skip (w1:=?_) (by rfl) (by rfl) ?_ (fun k_ hk_=>⟨fun hc_=>(free_crit (C:=(fun k=>decide (k < 6) || (decide (12≤k) && decide (k < 28)) || (decide (29≤k) && decide (k < 32)))) ?_ k_ hk_ hc_).elim,?_⟩) ?_;rotate_left;(focus (go_simp;(try with_reducible rfl);done));(focus kernel_rfl);(focus (go_simp;done));(try simp only [Act.put])))
 (refine runK_nil ?_)
 go_wp2
 go_end0
 exact ⟨rfl,(((Below.refl _ _).drew).setCell HLE.out _).setCell HLE.out _,H.out⟩
end Go.Proofs.YtocndimihokcmaaGreat
