/- Part 16 of a claim; what it proves stands in its last text. -/
import Derived.Test.YtocndimihokcmaaGreatAm15
import Derived.Test.YtocndimihokcmaaGreatAm5
import Derived.Test.YtocndimihokcmaaGreatAm7
namespace Go.Proofs.YtocndimihokcmaaGreat
open Go.RowKit
set_option maxRecDepth 100000
theorem row2 {X:World} {g t:Nat} {x y:Value} (h:X.heap[g]? = some (.cells [x,y].toArray t (0,0))):X.cell? ⟨g,0,none⟩=some x∧X.cell? ⟨g,1,none⟩=some y:=by
 refine ⟨?_,?_⟩ <;> simp [World.cell?,h]
theorem row9b {X:World} {g t:Nat} {x0 x1 x2 x3 x4 x5 x6 x7 x8:Value} (h:X.heap[g]? = some (.cells [x0,x1,x2,x3,x4,x5,x6,x7,x8].toArray t (0,0))):X.cell? ⟨g,1,none⟩=some x1∧X.cell? ⟨g,2,none⟩=some x2∧X.frozen? ⟨g,1,none⟩=false∧X.frozen? ⟨g,2,none⟩=false:=by
 refine ⟨?_,?_,?_,?_⟩ <;> simp [World.cell?,World.frozen?,h]
theorem alloc_insZ (w:World):(Instr.alloc 40 true (.tuple #[])).run Tryz.prog w=.ok (.pointer (some ⟨w.heap.size,0,none⟩)) (w.alloc (.cells insZ.toArray 40)):=by kernel_rfl
def mtakeC (op:Int) (sto:Bool) (r:Nat) (c:Cur):Ins×Cur :=
 let x:=byteC c
 if sto=true∧x.1 / 64=3 then (insR 1 (lastC r x.1) (midC r x.1) 0 0,x.2)
 else (insP op (if sto then 0 else midC r x.1) (if sto then midC r x.1 else 0) (placeC r x.1 x.2).1,(placeC r x.1 x.2).2)
set_option maxHeartbeats 8000000 in
theorem mtake_any {L:List UInt8} {b:Nat} {c:Cur} {w:World} (op:Int) (sto:Bool) (r:Nat) (hL:L.length≤1000000000) (h:CurAt 104 false L b w c):Calls Tryz.prog 200 #[.agg #[.int .i64 op,.bool sto],.pointer (some ⟨b,0,none⟩),.int .i64 r] w (CurSay 104 false L b w (mtakeC op sto r c).2 (.agg (insRow (mtakeC op sto r c).1).toArray)):=by
 have HB:=Lh (fun (w_:World) (h_:CurAt 104 false L b w_ c)=>byte_any hL h_)
 have HH:=Lh h
 have HLT:=Lh h.lt
 have hs256:(byteC c).1 < 256:=(bok h.ok).2
 have HM:=Lh (fun w_=>dmid_any r (byteC c).1 w_)
 have HLA:=Lh (fun w_=>dlast_any r (byteC c).1 w_)
 have HP:=Lh (show ∀ (w_:World),CurAt 104 false L b w_ (byteC c).2→Calls Tryz.prog 201 #[.pointer (some ⟨b,0,none⟩),.int .i64 r,.int .i64 (byteC c).1] w_ (CurSay 104 false L b w_ (placeC r (byteC c).1 (byteC c).2).2 (.agg #[.int .i64 (placeC r (byteC c).1 (byteC c).2).1.base,.int .i64 (placeC r (byteC c).1 (byteC c).2).1.index,.int .i64 (placeC r (byteC c).1 (byteC c).2).1.scale,.int .i64 (placeC r (byteC c).1 (byteC c).2).1.disp])) from fun w_ h_=>dplace_any r (byteC c).1 hL h_)
 have HK:=Lh (kept2 (b:=b) (o:=.cells [.int .i64 op,.bool sto].toArray 168 (0,0)) (o2:=.cells insZ.toArray 40 (0,0)) (Chg.refl _ _) HLT.out)
 have HE:=Lh (show mtakeC op sto r c=if sto=true∧(byteC c).1 / 64=3 then (insR 1 (lastC r (byteC c).1) (midC r (byteC c).1) 0 0,(byteC c).2)
   else (insP op (if sto then 0 else midC r (byteC c).1) (if sto then midC r (byteC c).1 else 0) (placeC r (byteC c).1 (byteC c).2).1,(placeC r (byteC c).1 (byteC c).2).2) from rfl)
 clear hL h
 generalize mtakeC op sto r c=PL at *
 generalize (byteC c).1=s at *
 generalize (byteC c).2=c1 at *
 generalize (placeC r s c1).1=p at *
 generalize (placeC r s c1).2=c2 at *
 generalize lastC r s=y at *
 generalize midC r s=x at *
 cases sto with
 | true =>
   by_cases h3:s / 64=3
   · have d1:((s:Int) / 64 == 3)=true:=beq_iff_eq.2 (by omega)
     rw [if_pos ⟨rfl,h3⟩] at HE
     clear h3
     go_enter Tryz.func200,Tryz.ntmps200
     go_wp2_with (first | (refine wpList_store_row rfl 40 _ _ rfl (w.heap.size+1) _ rfl rfl 40 insZ.toArray HA1.out (by kernel_rfl) (by rfl) (by kernel_rfl) ?_) | ((with_reducible refine (HB.out _ ((HH.out.alloc _).alloc _)).mono ?_);rintro e_ w1 ⟨rfl,hc1,hg1⟩;have HC1:=Lh hc1;have HG1:=Lh ((((Chg.refl (fun j=>j=b) w).alloc _).alloc _).trans hg1);have HA0:=Lh (keepS hg1 (by have:=HLT.out;omega) HK.out.1);have HA1:=Lh (keepS hg1 (by have:=HLT.out;omega) HK.out.2);clear hc1 hg1;obtain ⟨b0_,b1_⟩:=row2 HA0.out) | ((with_reducible refine (HM.out _).mono ?_);rintro e wp_ ⟨rfl,hw1⟩;subst wp_) | ((with_reducible refine (HLA.out _).mono ?_);rintro e wp_ ⟨rfl,hw1⟩;subst wp_))
     refine bodyPost_ret (results_cell_row (ty:=40) rfl _ _ (w.heap.size+1) 40 _ (0,0) _ rfl (setRow_heap _ _ _ _ _ _ HA1.out) Tryz.underlying40 rfl (by kernel_rfl)) rfl ⟨by rw [HE.out];rfl,?_⟩
     rw [HE.out]
     exact ⟨HC1.out.setRow (by have:=HLT.out;omega) _,HG1.out.setRow (.inr (Nat.le_succ _)) _⟩
   · have d1:((s:Int) / 64 == 3)=false:=beq_eq_false_iff_ne.2 (by omega)
     rw [if_neg (fun e=>h3 e.2)] at HE
     clear h3
     go_enter Tryz.func200,Tryz.ntmps200
     go_wp2_with (first | ((with_reducible refine (HB.out _ ((HH.out.alloc _).alloc _)).mono ?_);rintro e_ w1 ⟨rfl,hc1,hg1⟩;have HC1:=Lh hc1;have HG1:=Lh ((((Chg.refl (fun j=>j=b) w).alloc _).alloc _).trans hg1);have HA0:=Lh (keepS hg1 (by have:=HLT.out;omega) HK.out.1);have HA1:=Lh (keepS hg1 (by have:=HLT.out;omega) HK.out.2);clear hc1 hg1;obtain ⟨b0_,b1_⟩:=row2 HA0.out) | ((with_reducible refine (HM.out _).mono ?_);rintro e wp_ ⟨rfl,hw1⟩;subst wp_) | ((with_reducible refine (HLA.out _).mono ?_);rintro e wp_ ⟨rfl,hw1⟩;subst wp_))
     refine wp_region_grow (Chg (fun j=>j=b) w1) (by kernel_rfl) (by kernel_rfl) (Chg.refl _ w1).drew ?_
     have hSx0:=(Chg.refl (fun j=>j=b) w1).drew
     have hCx0:=HC1.out.drew
     obtain ⟨x0,hx0⟩:∃ x0,x0=w1.drew:=⟨_,rfl⟩
     rw [←hx0] at hSx0 hCx0 ⊢
     clear hx0
     show runC _ _ _ 12 _ [0,1,2,3,4,5,6,7,8,9,10,11] _ _
     refine runC_at 0 (v:=?_) (by rfl) (by rfl) (by rfl) (by kernel_rfl) (by rfl) ?_ ?_
     rotate_left
     focus (intro w_ hw_;obtain ⟨f0_,f1_⟩:=row2 (keepS hw_ (by have:=HLT.out;omega) HA0.out);go_simp;(try with_reducible rfl);done)
     (try dsimp only [Act.put])
     show runC _ _ _ 11 _ [1,2,3,4,5,6,7,8,9,10,11] _ _
     try simp only [List.setIfInBounds_toArray,List.set_cons_zero,List.set_cons_succ]
     refine runC_at 1 (v:=?_) (by rfl) (by rfl) (by rfl) (by kernel_rfl) (by rfl) ?_ ?_
     rotate_left
     focus (intro w_ hw_;obtain ⟨f0_,f1_⟩:=row2 (keepS hw_ (by have:=HLT.out;omega) HA0.out);go_simp;(try with_reducible rfl);done)
     (try dsimp only [Act.put])
     show runC _ _ _ 10 _ [2,3,4,5,6,7,8,9,10,11] _ _
     try simp only [List.setIfInBounds_toArray,List.set_cons_zero,List.set_cons_succ]
     refine runC_at 2 (v:=?_) (by rfl) (by rfl) (by rfl) (by kernel_rfl) (by rfl) ?_ ?_
     rotate_left
     focus (intro w_ hw_;obtain ⟨f0_,f1_⟩:=row2 (keepS hw_ (by have:=HLT.out;omega) HA0.out);go_simp;(try with_reducible rfl);done)
     (try dsimp only [Act.put])
     show runC _ _ _ 9 _ [3,4,5,6,7,8,9,10,11] _ _
     try simp only [List.setIfInBounds_toArray,List.set_cons_zero,List.set_cons_succ]
     refine runC_at 3 (v:=?_) (by rfl) (by rfl) (by rfl) (by kernel_rfl) (by rfl) ?_ ?_
     rotate_left
     focus (intro w_ hw_;obtain ⟨f0_,f1_⟩:=row2 (keepS hw_ (by have:=HLT.out;omega) HA0.out);go_simp;(try with_reducible rfl);done)
     (try dsimp only [Act.put])
     show runC _ _ _ 8 _ [4,5,6,7,8,9,10,11] _ _
     try simp only [List.setIfInBounds_toArray,List.set_cons_zero,List.set_cons_succ]
     refine runC_at 5 (v:=?_) (by rfl) (by rfl) (by rfl) (by kernel_rfl) (by rfl) ?_ ?_
     rotate_left
     focus (intro w_ hw_;obtain ⟨f0_,f1_⟩:=row2 (keepS hw_ (by have:=HLT.out;omega) HA0.out);go_simp;(try with_reducible rfl);done)
     (try dsimp only [Act.put])
     show runC _ _ _ 7 _ [4,6,7,8,9,10,11] _ _
     try simp only [List.setIfInBounds_toArray,List.set_cons_zero,List.set_cons_succ]
     refine runC_at 6 (v:=?_) (by rfl) (by rfl) (by rfl) (by kernel_rfl) (by rfl) ?_ ?_
     rotate_left
     focus (intro w_ hw_;obtain ⟨f0_,f1_⟩:=row2 (keepS hw_ (by have:=HLT.out;omega) HA0.out);go_simp;(try with_reducible rfl);done)
     (try dsimp only [Act.put])
     show runC _ _ _ 6 _ [4,7,8,9,10,11] _ _
     try simp only [List.setIfInBounds_toArray,List.set_cons_zero,List.set_cons_succ]
     refine runC_at 7 (v:=?_) (by rfl) (by rfl) (by rfl) (by kernel_rfl) (by rfl) ?_ ?_
     rotate_left
     focus (intro w_ hw_;obtain ⟨f0_,f1_⟩:=row2 (keepS hw_ (by have:=HLT.out;omega) HA0.out);go_simp;(try with_reducible rfl);done)
     (try dsimp only [Act.put])
     show runC _ _ _ 5 _ [4,8,9,10,11] _ _
     try simp only [List.setIfInBounds_toArray,List.set_cons_zero,List.set_cons_succ]
     refine runC_two 4 10 (by kernel_rfl) (by kernel_rfl) (by rfl) (by rfl) (by rfl) (by rfl) ?_ ?_
     · refine tdoes_call (f:=?_) (args:=?_) (w1:=?_) ?_ ?_
       rotate_left 3
       focus (go_simp;refine ⟨⟨?_,?_⟩,?_⟩ <;> with_reducible rfl)
       refine (HM.out x0).mono ?_
       rintro e_ w1_ ⟨rfl,hw_⟩
       subst w1_
       refine ⟨_,rfl,sameS hSx0 ?_⟩
       (try dsimp only [Act.put])
       try simp only [List.setIfInBounds_toArray,List.set_cons_zero,List.set_cons_succ]
       show runC _ _ _ 4 _ [8,9,10,11] _ _
       refine runC_two 8 10 (by kernel_rfl) (by kernel_rfl) (by rfl) (by rfl) (by rfl) (by rfl) ?_ ?_
       · refine tdoes_call (f:=?_) (args:=?_) (w1:=?_) ?_ ?_
         rotate_left 3
         focus (go_simp;refine ⟨⟨?_,?_⟩,?_⟩ <;> with_reducible rfl)
         refine (HP.out x0 hCx0).mono ?_
         rintro e_ x2 ⟨rfl,hCx2,hg_⟩
         have hSx2:=hSx0.trans hg_
         (try have hZx2:=keepS hg_ (fun e=>HG8.out.1 e.symm) hZx0)
         clear hg_
         refine ⟨_,rfl,sameS hSx2 ?_⟩
         (try dsimp only [Act.put])
         try simp only [List.setIfInBounds_toArray,List.set_cons_zero,List.set_cons_succ]
         show runC _ _ _ 3 _ [9,10,11] _ _
         refine runC_at 9 (v:=?_) (by rfl) (by rfl) (by rfl) (by kernel_rfl) (by rfl) ?_ ?_
         rotate_left
         focus (intro w_ hw_;obtain ⟨f0_,f1_⟩:=row2 (keepS hw_ (by have:=HLT.out;omega) HA0.out);go_simp;(try with_reducible rfl);done)
         (try dsimp only [Act.put])
         show runC _ _ _ 2 _ [10,11] _ _
         try simp only [List.setIfInBounds_toArray,List.set_cons_zero,List.set_cons_succ]
         refine runC_one 10 (by kernel_rfl) (by kernel_rfl) (by rfl) (by rfl) ?_
         obtain ⟨x3,h_⟩:∃ q,q=x2.alloc (.cells insZ.toArray 40):=⟨_,rfl⟩
         obtain ⟨g8,hg8⟩:∃ q,q=x2.heap.size:=⟨_,rfl⟩
         have hSx3:Chg (fun j=>j=b) w1 x3:=by rw [h_];exact hSx2.alloc _
         have hCx3:=hCx2.alloc (.cells insZ.toArray 40)
         rw [←h_] at hCx3
         have hZx3:x3.heap[g8]? = some (.cells insZ.toArray 40 (0,0)):=by rw [h_,hg8];exact heap_alloc_new _ _
         have HL8:=Lh (show w1.heap.size≤g8 from by rw [hg8];exact hSx2.size);have HG8:=Lh (show b≠g8∧w.heap.size≤g8∧w.heap.size+1≠g8 from by have h1:=HLT.out;have h2:=lt_of_block HA1.out;have h3:=hSx2.size;rw [hg8];exact ⟨by omega,by omega,by omega⟩)
         refine tdoes_op (w1:=x3) (v:=.pointer (some ⟨g8,0,none⟩)) (by rw [h_,hg8];exact exec_alloc rfl (alloc_insZ x2)) (sameS hSx3 ?_)
         (try dsimp only [Act.put])
         try simp only [List.setIfInBounds_toArray,List.set_cons_zero,List.set_cons_succ]
         clear h_ hg8
         show runC _ _ _ 1 _ [11] _ _
         refine runC_one 11 (by kernel_rfl) (by kernel_rfl) (by rfl) (by rfl) ?_
         obtain ⟨x4,h_⟩:∃ q,q=x3.setRow g8 [.int .i64 op,.int .i64 x,.int .i64 0,.int .i64 0,.int .i64 p.base,.int .i64 p.index,.int .i64 p.scale,.int .i64 p.disp,.int .i64 0].toArray:=⟨_,rfl⟩
         have hSx4:Chg (fun j=>j=b) w1 x4:=by rw [h_];exact hSx3.setRow (.inr (by have h2:=lt_of_block HA1.out;have:=HG8.out;have h3:=HL8.out;omega)) _
         have hCx4:=hCx3.setRow HG8.out.1 [.int .i64 op,.int .i64 x,.int .i64 0,.int .i64 0,.int .i64 p.base,.int .i64 p.index,.int .i64 p.scale,.int .i64 p.disp,.int .i64 0].toArray
         rw [←h_] at hCx4
         have hIx4:x4.heap[g8]? = some (.cells [.int .i64 op,.int .i64 x,.int .i64 0,.int .i64 0,.int .i64 p.base,.int .i64 p.index,.int .i64 p.scale,.int .i64 p.disp,.int .i64 0].toArray 40 (0,0)):=by rw [h_];exact setRow_heap _ _ _ _ _ _ hZx3
         refine tdoes_skip (w1:=x4) (by rw [h_];exact exec_store_row 40 _ _ rfl g8 _ rfl rfl 40 _ hZx3 (by kernel_rfl) rfl (by kernel_rfl)) (sameS hSx4 ?_)
         (try dsimp only [Act.put])
         try simp only [List.setIfInBounds_toArray,List.set_cons_zero,List.set_cons_succ]
         clear h_
         show runC _ _ _ 0 _ [] _ _
         refine runC_nil ?_
         have HX0:=Lh (keepS hSx4 (by have:=HLT.out;omega) HA0.out)
         have HX1:=Lh (keepS hSx4 (by have:=HLT.out;omega) HA1.out)
         have HXC:=Lh hCx4
         have HXI:=Lh hIx4
         have HXG:=Lh (HG1.out.trans hSx4)
         clear hSx4 hCx4 hIx4
         obtain ⟨xb0_,xb1_⟩:=row2 HX0.out
         obtain ⟨i1_,i2_,iz1_,iz2_⟩:=row9b HXI.out
         have HY:=Lh (show ((x4.setCell ⟨g8,1,none⟩ (.int .i64 0)).setCell ⟨g8,2,none⟩ (.int .i64 x)).heap[g8]? = some (.cells [.int .i64 op,.int .i64 0,.int .i64 x,.int .i64 0,.int .i64 p.base,.int .i64 p.index,.int .i64 p.scale,.int .i64 p.disp,.int .i64 0].toArray 40 (0,0)) from heap_setCell_row (heap_setCell_row HXI.out 1 (.int .i64 0)) 2 (.int .i64 x))
         have HY1:=Lh (show ((x4.setCell ⟨g8,1,none⟩ (.int .i64 0)).setCell ⟨g8,2,none⟩ (.int .i64 x)).heap[w.heap.size+1]? = some (.cells insZ.toArray 40 (0,0)) from (Below.heap_setCell _ _ _ _ HG8.out.2.2).trans ((Below.heap_setCell _ _ _ _ HG8.out.2.2).trans HX1.out))
         go_wp2_with (first | (refine wpList_load_row rfl 40 _ rfl g8 rfl 40 [.int .i64 op,.int .i64 0,.int .i64 x,.int .i64 0,.int .i64 p.base,.int .i64 p.index,.int .i64 p.scale,.int .i64 p.disp,.int .i64 0].toArray (0,0) _ HY.out Tryz.underlying40 rfl (by kernel_rfl) ?_) | (refine wpList_store_row rfl 40 _ _ rfl (w.heap.size+1) _ rfl rfl 40 insZ.toArray HY1.out (by kernel_rfl) (by rfl) (by kernel_rfl) ?_))
         refine bodyPost_ret (results_cell_row (ty:=40) rfl _ _ (w.heap.size+1) 40 _ (0,0) _ rfl (setRow_heap _ _ _ _ _ _ HY1.out) Tryz.underlying40 rfl (by kernel_rfl)) rfl ⟨by rw [HE.out];rfl,?_⟩
         rw [HE.out]
         exact ⟨((HXC.out.set HG8.out.1 _ _).set HG8.out.1 _ _).setRow (by have:=HLT.out;omega) _,((HXG.out.setCell (p:=⟨g8,1,none⟩) (.inr HG8.out.2.1) _).setCell (p:=⟨g8,2,none⟩) (.inr HG8.out.2.1) _).setRow (.inr (Nat.le_succ _)) _⟩
       · obtain ⟨x5,h_⟩:∃ q,q=x0.alloc (.cells insZ.toArray 40):=⟨_,rfl⟩
         obtain ⟨g8,hg8⟩:∃ q,q=x0.heap.size:=⟨_,rfl⟩
         have hSx5:Chg (fun j=>j=b) w1 x5:=by rw [h_];exact hSx0.alloc _
         have hCx5:=hCx0.alloc (.cells insZ.toArray 40)
         rw [←h_] at hCx5
         have hZx5:x5.heap[g8]? = some (.cells insZ.toArray 40 (0,0)):=by rw [h_,hg8];exact heap_alloc_new _ _
         have HL8:=Lh (show w1.heap.size≤g8 from by rw [hg8];exact hSx0.size);have HG8:=Lh (show b≠g8∧w.heap.size≤g8∧w.heap.size+1≠g8 from by have h1:=HLT.out;have h2:=lt_of_block HA1.out;have h3:=hSx0.size;rw [hg8];exact ⟨by omega,by omega,by omega⟩)
         refine tdoes_op (w1:=x5) (v:=.pointer (some ⟨g8,0,none⟩)) (by rw [h_,hg8];exact exec_alloc rfl (alloc_insZ x0)) (sameS hSx5 ?_)
         (try dsimp only [Act.put])
         try simp only [List.setIfInBounds_toArray,List.set_cons_zero,List.set_cons_succ]
         clear h_ hg8
         show runC _ _ _ 3 _ [8,9,11] _ _
         refine runC_one 8 (by kernel_rfl) (by kernel_rfl) (by rfl) (by rfl) ?_
         refine tdoes_call (f:=?_) (args:=?_) (w1:=?_) ?_ ?_
         rotate_left 3
         focus (go_simp;refine ⟨⟨?_,?_⟩,?_⟩ <;> with_reducible rfl)
         refine (HP.out x5 hCx5).mono ?_
         rintro e_ x6 ⟨rfl,hCx6,hg_⟩
         have hSx6:=hSx5.trans hg_
         (try have hZx6:=keepS hg_ (fun e=>HG8.out.1 e.symm) hZx5)
         clear hg_
         refine ⟨_,rfl,sameS hSx6 ?_⟩
         (try dsimp only [Act.put])
         try simp only [List.setIfInBounds_toArray,List.set_cons_zero,List.set_cons_succ]
         show runC _ _ _ 2 _ [9,11] _ _
         refine runC_at 9 (v:=?_) (by rfl) (by rfl) (by rfl) (by kernel_rfl) (by rfl) ?_ ?_
         rotate_left
         focus (intro w_ hw_;obtain ⟨f0_,f1_⟩:=row2 (keepS hw_ (by have:=HLT.out;omega) HA0.out);go_simp;(try with_reducible rfl);done)
         (try dsimp only [Act.put])
         show runC _ _ _ 1 _ [11] _ _
         try simp only [List.setIfInBounds_toArray,List.set_cons_zero,List.set_cons_succ]
         refine runC_one 11 (by kernel_rfl) (by kernel_rfl) (by rfl) (by rfl) ?_
         obtain ⟨x7,h_⟩:∃ q,q=x6.setRow g8 [.int .i64 op,.int .i64 x,.int .i64 0,.int .i64 0,.int .i64 p.base,.int .i64 p.index,.int .i64 p.scale,.int .i64 p.disp,.int .i64 0].toArray:=⟨_,rfl⟩
         have hSx7:Chg (fun j=>j=b) w1 x7:=by rw [h_];exact hSx6.setRow (.inr (by have h2:=lt_of_block HA1.out;have:=HG8.out;have h3:=HL8.out;omega)) _
         have hCx7:=hCx6.setRow HG8.out.1 [.int .i64 op,.int .i64 x,.int .i64 0,.int .i64 0,.int .i64 p.base,.int .i64 p.index,.int .i64 p.scale,.int .i64 p.disp,.int .i64 0].toArray
         rw [←h_] at hCx7
         have hIx7:x7.heap[g8]? = some (.cells [.int .i64 op,.int .i64 x,.int .i64 0,.int .i64 0,.int .i64 p.base,.int .i64 p.index,.int .i64 p.scale,.int .i64 p.disp,.int .i64 0].toArray 40 (0,0)):=by rw [h_];exact setRow_heap _ _ _ _ _ _ hZx6
         refine tdoes_skip (w1:=x7) (by rw [h_];exact exec_store_row 40 _ _ rfl g8 _ rfl rfl 40 _ hZx6 (by kernel_rfl) rfl (by kernel_rfl)) (sameS hSx7 ?_)
         (try dsimp only [Act.put])
         try simp only [List.setIfInBounds_toArray,List.set_cons_zero,List.set_cons_succ]
         clear h_
         show runC _ _ _ 0 _ [] _ _
         refine runC_nil ?_
         have HX0:=Lh (keepS hSx7 (by have:=HLT.out;omega) HA0.out)
         have HX1:=Lh (keepS hSx7 (by have:=HLT.out;omega) HA1.out)
         have HXC:=Lh hCx7
         have HXI:=Lh hIx7
         have HXG:=Lh (HG1.out.trans hSx7)
         clear hSx7 hCx7 hIx7
         obtain ⟨xb0_,xb1_⟩:=row2 HX0.out
         obtain ⟨i1_,i2_,iz1_,iz2_⟩:=row9b HXI.out
         have HY:=Lh (show ((x7.setCell ⟨g8,1,none⟩ (.int .i64 0)).setCell ⟨g8,2,none⟩ (.int .i64 x)).heap[g8]? = some (.cells [.int .i64 op,.int .i64 0,.int .i64 x,.int .i64 0,.int .i64 p.base,.int .i64 p.index,.int .i64 p.scale,.int .i64 p.disp,.int .i64 0].toArray 40 (0,0)) from heap_setCell_row (heap_setCell_row HXI.out 1 (.int .i64 0)) 2 (.int .i64 x))
         have HY1:=Lh (show ((x7.setCell ⟨g8,1,none⟩ (.int .i64 0)).setCell ⟨g8,2,none⟩ (.int .i64 x)).heap[w.heap.size+1]? = some (.cells insZ.toArray 40 (0,0)) from (Below.heap_setCell _ _ _ _ HG8.out.2.2).trans ((Below.heap_setCell _ _ _ _ HG8.out.2.2).trans HX1.out))
         go_wp2_with (first | (refine wpList_load_row rfl 40 _ rfl g8 rfl 40 [.int .i64 op,.int .i64 0,.int .i64 x,.int .i64 0,.int .i64 p.base,.int .i64 p.index,.int .i64 p.scale,.int .i64 p.disp,.int .i64 0].toArray (0,0) _ HY.out Tryz.underlying40 rfl (by kernel_rfl) ?_) | (refine wpList_store_row rfl 40 _ _ rfl (w.heap.size+1) _ rfl rfl 40 insZ.toArray HY1.out (by kernel_rfl) (by rfl) (by kernel_rfl) ?_))
         refine bodyPost_ret (results_cell_row (ty:=40) rfl _ _ (w.heap.size+1) 40 _ (0,0) _ rfl (setRow_heap _ _ _ _ _ _ HY1.out) Tryz.underlying40 rfl (by kernel_rfl)) rfl ⟨by rw [HE.out];rfl,?_⟩
         rw [HE.out]
         exact ⟨((HXC.out.set HG8.out.1 _ _).set HG8.out.1 _ _).setRow (by have:=HLT.out;omega) _,((HXG.out.setCell (p:=⟨g8,1,none⟩) (.inr HG8.out.2.1) _).setCell (p:=⟨g8,2,none⟩) (.inr HG8.out.2.1) _).setRow (.inr (Nat.le_succ _)) _⟩
     · obtain ⟨x8,h_⟩:∃ q,q=x0.alloc (.cells insZ.toArray 40):=⟨_,rfl⟩
       obtain ⟨g8,hg8⟩:∃ q,q=x0.heap.size:=⟨_,rfl⟩
       have hSx8:Chg (fun j=>j=b) w1 x8:=by rw [h_];exact hSx0.alloc _
       have hCx8:=hCx0.alloc (.cells insZ.toArray 40)
       rw [←h_] at hCx8
       have hZx8:x8.heap[g8]? = some (.cells insZ.toArray 40 (0,0)):=by rw [h_,hg8];exact heap_alloc_new _ _
       have HL8:=Lh (show w1.heap.size≤g8 from by rw [hg8];exact hSx0.size);have HG8:=Lh (show b≠g8∧w.heap.size≤g8∧w.heap.size+1≠g8 from by have h1:=HLT.out;have h2:=lt_of_block HA1.out;have h3:=hSx0.size;rw [hg8];exact ⟨by omega,by omega,by omega⟩)
       refine tdoes_op (w1:=x8) (v:=.pointer (some ⟨g8,0,none⟩)) (by rw [h_,hg8];exact exec_alloc rfl (alloc_insZ x0)) (sameS hSx8 ?_)
       (try dsimp only [Act.put])
       try simp only [List.setIfInBounds_toArray,List.set_cons_zero,List.set_cons_succ]
       clear h_ hg8
       show runC _ _ _ 4 _ [4,8,9,11] _ _
       refine runC_one 4 (by kernel_rfl) (by kernel_rfl) (by rfl) (by rfl) ?_
       refine tdoes_call (f:=?_) (args:=?_) (w1:=?_) ?_ ?_
       rotate_left 3
       focus (go_simp;refine ⟨⟨?_,?_⟩,?_⟩ <;> with_reducible rfl)
       refine (HM.out x8).mono ?_
       rintro e_ w1_ ⟨rfl,hw_⟩
       subst w1_
       refine ⟨_,rfl,sameS hSx8 ?_⟩
       (try dsimp only [Act.put])
       try simp only [List.setIfInBounds_toArray,List.set_cons_zero,List.set_cons_succ]
       show runC _ _ _ 3 _ [8,9,11] _ _
       refine runC_one 8 (by kernel_rfl) (by kernel_rfl) (by rfl) (by rfl) ?_
       refine tdoes_call (f:=?_) (args:=?_) (w1:=?_) ?_ ?_
       rotate_left 3
       focus (go_simp;refine ⟨⟨?_,?_⟩,?_⟩ <;> with_reducible rfl)
       refine (HP.out x8 hCx8).mono ?_
       rintro e_ x10 ⟨rfl,hCx10,hg_⟩
       have hSx10:=hSx8.trans hg_
       (try have hZx10:=keepS hg_ (fun e=>HG8.out.1 e.symm) hZx8)
       clear hg_
       refine ⟨_,rfl,sameS hSx10 ?_⟩
       (try dsimp only [Act.put])
       try simp only [List.setIfInBounds_toArray,List.set_cons_zero,List.set_cons_succ]
       show runC _ _ _ 2 _ [9,11] _ _
       refine runC_at 9 (v:=?_) (by rfl) (by rfl) (by rfl) (by kernel_rfl) (by rfl) ?_ ?_
       rotate_left
       focus (intro w_ hw_;obtain ⟨f0_,f1_⟩:=row2 (keepS hw_ (by have:=HLT.out;omega) HA0.out);go_simp;(try with_reducible rfl);done)
       (try dsimp only [Act.put])
       show runC _ _ _ 1 _ [11] _ _
       try simp only [List.setIfInBounds_toArray,List.set_cons_zero,List.set_cons_succ]
       refine runC_one 11 (by kernel_rfl) (by kernel_rfl) (by rfl) (by rfl) ?_
       obtain ⟨x11,h_⟩:∃ q,q=x10.setRow g8 [.int .i64 op,.int .i64 x,.int .i64 0,.int .i64 0,.int .i64 p.base,.int .i64 p.index,.int .i64 p.scale,.int .i64 p.disp,.int .i64 0].toArray:=⟨_,rfl⟩
       have hSx11:Chg (fun j=>j=b) w1 x11:=by rw [h_];exact hSx10.setRow (.inr (by have h2:=lt_of_block HA1.out;have:=HG8.out;have h3:=HL8.out;omega)) _
       have hCx11:=hCx10.setRow HG8.out.1 [.int .i64 op,.int .i64 x,.int .i64 0,.int .i64 0,.int .i64 p.base,.int .i64 p.index,.int .i64 p.scale,.int .i64 p.disp,.int .i64 0].toArray
       rw [←h_] at hCx11
       have hIx11:x11.heap[g8]? = some (.cells [.int .i64 op,.int .i64 x,.int .i64 0,.int .i64 0,.int .i64 p.base,.int .i64 p.index,.int .i64 p.scale,.int .i64 p.disp,.int .i64 0].toArray 40 (0,0)):=by rw [h_];exact setRow_heap _ _ _ _ _ _ hZx10
       refine tdoes_skip (w1:=x11) (by rw [h_];exact exec_store_row 40 _ _ rfl g8 _ rfl rfl 40 _ hZx10 (by kernel_rfl) rfl (by kernel_rfl)) (sameS hSx11 ?_)
       (try dsimp only [Act.put])
       try simp only [List.setIfInBounds_toArray,List.set_cons_zero,List.set_cons_succ]
       clear h_
       show runC _ _ _ 0 _ [] _ _
       refine runC_nil ?_
       have HX0:=Lh (keepS hSx11 (by have:=HLT.out;omega) HA0.out)
       have HX1:=Lh (keepS hSx11 (by have:=HLT.out;omega) HA1.out)
       have HXC:=Lh hCx11
       have HXI:=Lh hIx11
       have HXG:=Lh (HG1.out.trans hSx11)
       clear hSx11 hCx11 hIx11
       obtain ⟨xb0_,xb1_⟩:=row2 HX0.out
       obtain ⟨i1_,i2_,iz1_,iz2_⟩:=row9b HXI.out
       have HY:=Lh (show ((x11.setCell ⟨g8,1,none⟩ (.int .i64 0)).setCell ⟨g8,2,none⟩ (.int .i64 x)).heap[g8]? = some (.cells [.int .i64 op,.int .i64 0,.int .i64 x,.int .i64 0,.int .i64 p.base,.int .i64 p.index,.int .i64 p.scale,.int .i64 p.disp,.int .i64 0].toArray 40 (0,0)) from heap_setCell_row (heap_setCell_row HXI.out 1 (.int .i64 0)) 2 (.int .i64 x))
       have HY1:=Lh (show ((x11.setCell ⟨g8,1,none⟩ (.int .i64 0)).setCell ⟨g8,2,none⟩ (.int .i64 x)).heap[w.heap.size+1]? = some (.cells insZ.toArray 40 (0,0)) from (Below.heap_setCell _ _ _ _ HG8.out.2.2).trans ((Below.heap_setCell _ _ _ _ HG8.out.2.2).trans HX1.out))
       go_wp2_with (first | (refine wpList_load_row rfl 40 _ rfl g8 rfl 40 [.int .i64 op,.int .i64 0,.int .i64 x,.int .i64 0,.int .i64 p.base,.int .i64 p.index,.int .i64 p.scale,.int .i64 p.disp,.int .i64 0].toArray (0,0) _ HY.out Tryz.underlying40 rfl (by kernel_rfl) ?_) | (refine wpList_store_row rfl 40 _ _ rfl (w.heap.size+1) _ rfl rfl 40 insZ.toArray HY1.out (by kernel_rfl) (by rfl) (by kernel_rfl) ?_))
       refine bodyPost_ret (results_cell_row (ty:=40) rfl _ _ (w.heap.size+1) 40 _ (0,0) _ rfl (setRow_heap _ _ _ _ _ _ HY1.out) Tryz.underlying40 rfl (by kernel_rfl)) rfl ⟨by rw [HE.out];rfl,?_⟩
       rw [HE.out]
       exact ⟨((HXC.out.set HG8.out.1 _ _).set HG8.out.1 _ _).setRow (by have:=HLT.out;omega) _,((HXG.out.setCell (p:=⟨g8,1,none⟩) (.inr HG8.out.2.1) _).setCell (p:=⟨g8,2,none⟩) (.inr HG8.out.2.1) _).setRow (.inr (Nat.le_succ _)) _⟩
 | false =>
   rw [if_neg (fun e=>Bool.noConfusion e.1)] at HE
   go_enter Tryz.func200,Tryz.ntmps200
   go_wp2_with (first | ((with_reducible refine (HB.out _ ((HH.out.alloc _).alloc _)).mono ?_);rintro e_ w1 ⟨rfl,hc1,hg1⟩;have HC1:=Lh hc1;have HG1:=Lh ((((Chg.refl (fun j=>j=b) w).alloc _).alloc _).trans hg1);have HA0:=Lh (keepS hg1 (by have:=HLT.out;omega) HK.out.1);have HA1:=Lh (keepS hg1 (by have:=HLT.out;omega) HK.out.2);clear hc1 hg1;obtain ⟨b0_,b1_⟩:=row2 HA0.out) | ((with_reducible refine (HM.out _).mono ?_);rintro e wp_ ⟨rfl,hw1⟩;subst wp_) | ((with_reducible refine (HLA.out _).mono ?_);rintro e wp_ ⟨rfl,hw1⟩;subst wp_))
   refine wp_region_grow (Chg (fun j=>j=b) w1) (by kernel_rfl) (by kernel_rfl) (Chg.refl _ w1).drew ?_
   have hSx0:=(Chg.refl (fun j=>j=b) w1).drew
   have hCx0:=HC1.out.drew
   obtain ⟨x0,hx0⟩:∃ x0,x0=w1.drew:=⟨_,rfl⟩
   rw [←hx0] at hSx0 hCx0 ⊢
   clear hx0
   show runC _ _ _ 12 _ [0,1,2,3,4,5,6,7,8,9,10,11] _ _
   refine runC_at 0 (v:=?_) (by rfl) (by rfl) (by rfl) (by kernel_rfl) (by rfl) ?_ ?_
   rotate_left
   focus (intro w_ hw_;obtain ⟨f0_,f1_⟩:=row2 (keepS hw_ (by have:=HLT.out;omega) HA0.out);go_simp;(try with_reducible rfl);done)
   (try dsimp only [Act.put])
   show runC _ _ _ 11 _ [1,2,3,4,5,6,7,8,9,10,11] _ _
   try simp only [List.setIfInBounds_toArray,List.set_cons_zero,List.set_cons_succ]
   refine runC_at 1 (v:=?_) (by rfl) (by rfl) (by rfl) (by kernel_rfl) (by rfl) ?_ ?_
   rotate_left
   focus (intro w_ hw_;obtain ⟨f0_,f1_⟩:=row2 (keepS hw_ (by have:=HLT.out;omega) HA0.out);go_simp;(try with_reducible rfl);done)
   (try dsimp only [Act.put])
   show runC _ _ _ 10 _ [2,3,4,5,6,7,8,9,10,11] _ _
   try simp only [List.setIfInBounds_toArray,List.set_cons_zero,List.set_cons_succ]
   refine runC_at 2 (v:=?_) (by rfl) (by rfl) (by rfl) (by kernel_rfl) (by rfl) ?_ ?_
   rotate_left
   focus (intro w_ hw_;obtain ⟨f0_,f1_⟩:=row2 (keepS hw_ (by have:=HLT.out;omega) HA0.out);go_simp;(try with_reducible rfl);done)
   (try dsimp only [Act.put])
   show runC _ _ _ 9 _ [3,4,5,6,7,8,9,10,11] _ _
   try simp only [List.setIfInBounds_toArray,List.set_cons_zero,List.set_cons_succ]
   refine runC_at 3 (v:=?_) (by rfl) (by rfl) (by rfl) (by kernel_rfl) (by rfl) ?_ ?_
   rotate_left
   focus (intro w_ hw_;obtain ⟨f0_,f1_⟩:=row2 (keepS hw_ (by have:=HLT.out;omega) HA0.out);go_simp;(try with_reducible rfl);done)
   (try dsimp only [Act.put])
   show runC _ _ _ 8 _ [4,5,6,7,8,9,10,11] _ _
   try simp only [List.setIfInBounds_toArray,List.set_cons_zero,List.set_cons_succ]
   refine runC_at 5 (v:=?_) (by rfl) (by rfl) (by rfl) (by kernel_rfl) (by rfl) ?_ ?_
   rotate_left
   focus (intro w_ hw_;obtain ⟨f0_,f1_⟩:=row2 (keepS hw_ (by have:=HLT.out;omega) HA0.out);go_simp;(try with_reducible rfl);done)
   (try dsimp only [Act.put])
   show runC _ _ _ 7 _ [4,6,7,8,9,10,11] _ _
   try simp only [List.setIfInBounds_toArray,List.set_cons_zero,List.set_cons_succ]
   refine runC_at 6 (v:=?_) (by rfl) (by rfl) (by rfl) (by kernel_rfl) (by rfl) ?_ ?_
   rotate_left
   focus (intro w_ hw_;obtain ⟨f0_,f1_⟩:=row2 (keepS hw_ (by have:=HLT.out;omega) HA0.out);go_simp;(try with_reducible rfl);done)
   (try dsimp only [Act.put])
   show runC _ _ _ 6 _ [4,7,8,9,10,11] _ _
   try simp only [List.setIfInBounds_toArray,List.set_cons_zero,List.set_cons_succ]
   refine runC_at 7 (v:=?_) (by rfl) (by rfl) (by rfl) (by kernel_rfl) (by rfl) ?_ ?_
   rotate_left
   focus (intro w_ hw_;obtain ⟨f0_,f1_⟩:=row2 (keepS hw_ (by have:=HLT.out;omega) HA0.out);go_simp;(try with_reducible rfl);done)
   (try dsimp only [Act.put])
   show runC _ _ _ 5 _ [4,8,9,10,11] _ _
   try simp only [List.setIfInBounds_toArray,List.set_cons_zero,List.set_cons_succ]
   refine runC_two 4 10 (by kernel_rfl) (by kernel_rfl) (by rfl) (by rfl) (by rfl) (by rfl) ?_ ?_
   · refine tdoes_call (f:=?_) (args:=?_) (w1:=?_) ?_ ?_
     rotate_left 3
     focus (go_simp;refine ⟨⟨?_,?_⟩,?_⟩ <;> with_reducible rfl)
     refine (HM.out x0).mono ?_
     rintro e_ w1_ ⟨rfl,hw_⟩
     subst w1_
     refine ⟨_,rfl,sameS hSx0 ?_⟩
     (try dsimp only [Act.put])
     try simp only [List.setIfInBounds_toArray,List.set_cons_zero,List.set_cons_succ]
     show runC _ _ _ 4 _ [8,9,10,11] _ _
     refine runC_two 8 10 (by kernel_rfl) (by kernel_rfl) (by rfl) (by rfl) (by rfl) (by rfl) ?_ ?_
     · refine tdoes_call (f:=?_) (args:=?_) (w1:=?_) ?_ ?_
       rotate_left 3
       focus (go_simp;refine ⟨⟨?_,?_⟩,?_⟩ <;> with_reducible rfl)
       refine (HP.out x0 hCx0).mono ?_
       rintro e_ x2 ⟨rfl,hCx2,hg_⟩
       have hSx2:=hSx0.trans hg_
       (try have hZx2:=keepS hg_ (fun e=>HG8.out.1 e.symm) hZx0)
       clear hg_
       refine ⟨_,rfl,sameS hSx2 ?_⟩
       (try dsimp only [Act.put])
       try simp only [List.setIfInBounds_toArray,List.set_cons_zero,List.set_cons_succ]
       show runC _ _ _ 3 _ [9,10,11] _ _
       refine runC_at 9 (v:=?_) (by rfl) (by rfl) (by rfl) (by kernel_rfl) (by rfl) ?_ ?_
       rotate_left
       focus (intro w_ hw_;obtain ⟨f0_,f1_⟩:=row2 (keepS hw_ (by have:=HLT.out;omega) HA0.out);go_simp;(try with_reducible rfl);done)
       (try dsimp only [Act.put])
       show runC _ _ _ 2 _ [10,11] _ _
       try simp only [List.setIfInBounds_toArray,List.set_cons_zero,List.set_cons_succ]
       refine runC_one 10 (by kernel_rfl) (by kernel_rfl) (by rfl) (by rfl) ?_
       obtain ⟨x3,h_⟩:∃ q,q=x2.alloc (.cells insZ.toArray 40):=⟨_,rfl⟩
       obtain ⟨g8,hg8⟩:∃ q,q=x2.heap.size:=⟨_,rfl⟩
       have hSx3:Chg (fun j=>j=b) w1 x3:=by rw [h_];exact hSx2.alloc _
       have hCx3:=hCx2.alloc (.cells insZ.toArray 40)
       rw [←h_] at hCx3
       have hZx3:x3.heap[g8]? = some (.cells insZ.toArray 40 (0,0)):=by rw [h_,hg8];exact heap_alloc_new _ _
       have HL8:=Lh (show w1.heap.size≤g8 from by rw [hg8];exact hSx2.size);have HG8:=Lh (show b≠g8∧w.heap.size≤g8∧w.heap.size+1≠g8 from by have h1:=HLT.out;have h2:=lt_of_block HA1.out;have h3:=hSx2.size;rw [hg8];exact ⟨by omega,by omega,by omega⟩)
       refine tdoes_op (w1:=x3) (v:=.pointer (some ⟨g8,0,none⟩)) (by rw [h_,hg8];exact exec_alloc rfl (alloc_insZ x2)) (sameS hSx3 ?_)
       (try dsimp only [Act.put])
       try simp only [List.setIfInBounds_toArray,List.set_cons_zero,List.set_cons_succ]
       clear h_ hg8
       show runC _ _ _ 1 _ [11] _ _
       refine runC_one 11 (by kernel_rfl) (by kernel_rfl) (by rfl) (by rfl) ?_
       obtain ⟨x4,h_⟩:∃ q,q=x3.setRow g8 [.int .i64 op,.int .i64 x,.int .i64 0,.int .i64 0,.int .i64 p.base,.int .i64 p.index,.int .i64 p.scale,.int .i64 p.disp,.int .i64 0].toArray:=⟨_,rfl⟩
       have hSx4:Chg (fun j=>j=b) w1 x4:=by rw [h_];exact hSx3.setRow (.inr (by have h2:=lt_of_block HA1.out;have:=HG8.out;have h3:=HL8.out;omega)) _
       have hCx4:=hCx3.setRow HG8.out.1 [.int .i64 op,.int .i64 x,.int .i64 0,.int .i64 0,.int .i64 p.base,.int .i64 p.index,.int .i64 p.scale,.int .i64 p.disp,.int .i64 0].toArray
       rw [←h_] at hCx4
       have hIx4:x4.heap[g8]? = some (.cells [.int .i64 op,.int .i64 x,.int .i64 0,.int .i64 0,.int .i64 p.base,.int .i64 p.index,.int .i64 p.scale,.int .i64 p.disp,.int .i64 0].toArray 40 (0,0)):=by rw [h_];exact setRow_heap _ _ _ _ _ _ hZx3
       refine tdoes_skip (w1:=x4) (by rw [h_];exact exec_store_row 40 _ _ rfl g8 _ rfl rfl 40 _ hZx3 (by kernel_rfl) rfl (by kernel_rfl)) (sameS hSx4 ?_)
       (try dsimp only [Act.put])
       try simp only [List.setIfInBounds_toArray,List.set_cons_zero,List.set_cons_succ]
       clear h_
       show runC _ _ _ 0 _ [] _ _
       refine runC_nil ?_
       have HX0:=Lh (keepS hSx4 (by have:=HLT.out;omega) HA0.out)
       have HX1:=Lh (keepS hSx4 (by have:=HLT.out;omega) HA1.out)
       have HXC:=Lh hCx4
       have HXI:=Lh hIx4
       have HXG:=Lh (HG1.out.trans hSx4)
       clear hSx4 hCx4 hIx4
       obtain ⟨xb0_,xb1_⟩:=row2 HX0.out
       have HY:=HXI
       have HY1:=HX1
       go_wp2_with (first | (refine wpList_load_row rfl 40 _ rfl g8 rfl 40 [.int .i64 op,.int .i64 x,.int .i64 0,.int .i64 0,.int .i64 p.base,.int .i64 p.index,.int .i64 p.scale,.int .i64 p.disp,.int .i64 0].toArray (0,0) _ HY.out Tryz.underlying40 rfl (by kernel_rfl) ?_) | (refine wpList_store_row rfl 40 _ _ rfl (w.heap.size+1) _ rfl rfl 40 insZ.toArray HY1.out (by kernel_rfl) (by rfl) (by kernel_rfl) ?_))
       refine bodyPost_ret (results_cell_row (ty:=40) rfl _ _ (w.heap.size+1) 40 _ (0,0) _ rfl (setRow_heap _ _ _ _ _ _ HY1.out) Tryz.underlying40 rfl (by kernel_rfl)) rfl ⟨by rw [HE.out];rfl,?_⟩
       rw [HE.out]
       exact ⟨HXC.out.setRow (by have:=HLT.out;omega) _,HXG.out.setRow (.inr (Nat.le_succ _)) _⟩
     · obtain ⟨x5,h_⟩:∃ q,q=x0.alloc (.cells insZ.toArray 40):=⟨_,rfl⟩
       obtain ⟨g8,hg8⟩:∃ q,q=x0.heap.size:=⟨_,rfl⟩
       have hSx5:Chg (fun j=>j=b) w1 x5:=by rw [h_];exact hSx0.alloc _
       have hCx5:=hCx0.alloc (.cells insZ.toArray 40)
       rw [←h_] at hCx5
       have hZx5:x5.heap[g8]? = some (.cells insZ.toArray 40 (0,0)):=by rw [h_,hg8];exact heap_alloc_new _ _
       have HL8:=Lh (show w1.heap.size≤g8 from by rw [hg8];exact hSx0.size);have HG8:=Lh (show b≠g8∧w.heap.size≤g8∧w.heap.size+1≠g8 from by have h1:=HLT.out;have h2:=lt_of_block HA1.out;have h3:=hSx0.size;rw [hg8];exact ⟨by omega,by omega,by omega⟩)
       refine tdoes_op (w1:=x5) (v:=.pointer (some ⟨g8,0,none⟩)) (by rw [h_,hg8];exact exec_alloc rfl (alloc_insZ x0)) (sameS hSx5 ?_)
       (try dsimp only [Act.put])
       try simp only [List.setIfInBounds_toArray,List.set_cons_zero,List.set_cons_succ]
       clear h_ hg8
       show runC _ _ _ 3 _ [8,9,11] _ _
       refine runC_one 8 (by kernel_rfl) (by kernel_rfl) (by rfl) (by rfl) ?_
       refine tdoes_call (f:=?_) (args:=?_) (w1:=?_) ?_ ?_
       rotate_left 3
       focus (go_simp;refine ⟨⟨?_,?_⟩,?_⟩ <;> with_reducible rfl)
       refine (HP.out x5 hCx5).mono ?_
       rintro e_ x6 ⟨rfl,hCx6,hg_⟩
       have hSx6:=hSx5.trans hg_
       (try have hZx6:=keepS hg_ (fun e=>HG8.out.1 e.symm) hZx5)
       clear hg_
       refine ⟨_,rfl,sameS hSx6 ?_⟩
       (try dsimp only [Act.put])
       try simp only [List.setIfInBounds_toArray,List.set_cons_zero,List.set_cons_succ]
       show runC _ _ _ 2 _ [9,11] _ _
       refine runC_at 9 (v:=?_) (by rfl) (by rfl) (by rfl) (by kernel_rfl) (by rfl) ?_ ?_
       rotate_left
       focus (intro w_ hw_;obtain ⟨f0_,f1_⟩:=row2 (keepS hw_ (by have:=HLT.out;omega) HA0.out);go_simp;(try with_reducible rfl);done)
       (try dsimp only [Act.put])
       show runC _ _ _ 1 _ [11] _ _
       try simp only [List.setIfInBounds_toArray,List.set_cons_zero,List.set_cons_succ]
       refine runC_one 11 (by kernel_rfl) (by kernel_rfl) (by rfl) (by rfl) ?_
       obtain ⟨x7,h_⟩:∃ q,q=x6.setRow g8 [.int .i64 op,.int .i64 x,.int .i64 0,.int .i64 0,.int .i64 p.base,.int .i64 p.index,.int .i64 p.scale,.int .i64 p.disp,.int .i64 0].toArray:=⟨_,rfl⟩
       have hSx7:Chg (fun j=>j=b) w1 x7:=by rw [h_];exact hSx6.setRow (.inr (by have h2:=lt_of_block HA1.out;have:=HG8.out;have h3:=HL8.out;omega)) _
       have hCx7:=hCx6.setRow HG8.out.1 [.int .i64 op,.int .i64 x,.int .i64 0,.int .i64 0,.int .i64 p.base,.int .i64 p.index,.int .i64 p.scale,.int .i64 p.disp,.int .i64 0].toArray
       rw [←h_] at hCx7
       have hIx7:x7.heap[g8]? = some (.cells [.int .i64 op,.int .i64 x,.int .i64 0,.int .i64 0,.int .i64 p.base,.int .i64 p.index,.int .i64 p.scale,.int .i64 p.disp,.int .i64 0].toArray 40 (0,0)):=by rw [h_];exact setRow_heap _ _ _ _ _ _ hZx6
       refine tdoes_skip (w1:=x7) (by rw [h_];exact exec_store_row 40 _ _ rfl g8 _ rfl rfl 40 _ hZx6 (by kernel_rfl) rfl (by kernel_rfl)) (sameS hSx7 ?_)
       (try dsimp only [Act.put])
       try simp only [List.setIfInBounds_toArray,List.set_cons_zero,List.set_cons_succ]
       clear h_
       show runC _ _ _ 0 _ [] _ _
       refine runC_nil ?_
       have HX0:=Lh (keepS hSx7 (by have:=HLT.out;omega) HA0.out)
       have HX1:=Lh (keepS hSx7 (by have:=HLT.out;omega) HA1.out)
       have HXC:=Lh hCx7
       have HXI:=Lh hIx7
       have HXG:=Lh (HG1.out.trans hSx7)
       clear hSx7 hCx7 hIx7
       obtain ⟨xb0_,xb1_⟩:=row2 HX0.out
       have HY:=HXI
       have HY1:=HX1
       go_wp2_with (first | (refine wpList_load_row rfl 40 _ rfl g8 rfl 40 [.int .i64 op,.int .i64 x,.int .i64 0,.int .i64 0,.int .i64 p.base,.int .i64 p.index,.int .i64 p.scale,.int .i64 p.disp,.int .i64 0].toArray (0,0) _ HY.out Tryz.underlying40 rfl (by kernel_rfl) ?_) | (refine wpList_store_row rfl 40 _ _ rfl (w.heap.size+1) _ rfl rfl 40 insZ.toArray HY1.out (by kernel_rfl) (by rfl) (by kernel_rfl) ?_))
       refine bodyPost_ret (results_cell_row (ty:=40) rfl _ _ (w.heap.size+1) 40 _ (0,0) _ rfl (setRow_heap _ _ _ _ _ _ HY1.out) Tryz.underlying40 rfl (by kernel_rfl)) rfl ⟨by rw [HE.out];rfl,?_⟩
       rw [HE.out]
       exact ⟨HXC.out.setRow (by have:=HLT.out;omega) _,HXG.out.setRow (.inr (Nat.le_succ _)) _⟩
   · obtain ⟨x8,h_⟩:∃ q,q=x0.alloc (.cells insZ.toArray 40):=⟨_,rfl⟩
     obtain ⟨g8,hg8⟩:∃ q,q=x0.heap.size:=⟨_,rfl⟩
     have hSx8:Chg (fun j=>j=b) w1 x8:=by rw [h_];exact hSx0.alloc _
     have hCx8:=hCx0.alloc (.cells insZ.toArray 40)
     rw [←h_] at hCx8
     have hZx8:x8.heap[g8]? = some (.cells insZ.toArray 40 (0,0)):=by rw [h_,hg8];exact heap_alloc_new _ _
     have HL8:=Lh (show w1.heap.size≤g8 from by rw [hg8];exact hSx0.size);have HG8:=Lh (show b≠g8∧w.heap.size≤g8∧w.heap.size+1≠g8 from by have h1:=HLT.out;have h2:=lt_of_block HA1.out;have h3:=hSx0.size;rw [hg8];exact ⟨by omega,by omega,by omega⟩)
     refine tdoes_op (w1:=x8) (v:=.pointer (some ⟨g8,0,none⟩)) (by rw [h_,hg8];exact exec_alloc rfl (alloc_insZ x0)) (sameS hSx8 ?_)
     (try dsimp only [Act.put])
     try simp only [List.setIfInBounds_toArray,List.set_cons_zero,List.set_cons_succ]
     clear h_ hg8
     show runC _ _ _ 4 _ [4,8,9,11] _ _
     refine runC_one 4 (by kernel_rfl) (by kernel_rfl) (by rfl) (by rfl) ?_
     refine tdoes_call (f:=?_) (args:=?_) (w1:=?_) ?_ ?_
     rotate_left 3
     focus (go_simp;refine ⟨⟨?_,?_⟩,?_⟩ <;> with_reducible rfl)
     refine (HM.out x8).mono ?_
     rintro e_ w1_ ⟨rfl,hw_⟩
     subst w1_
     refine ⟨_,rfl,sameS hSx8 ?_⟩
     (try dsimp only [Act.put])
     try simp only [List.setIfInBounds_toArray,List.set_cons_zero,List.set_cons_succ]
     show runC _ _ _ 3 _ [8,9,11] _ _
     refine runC_one 8 (by kernel_rfl) (by kernel_rfl) (by rfl) (by rfl) ?_
     refine tdoes_call (f:=?_) (args:=?_) (w1:=?_) ?_ ?_
     rotate_left 3
     focus (go_simp;refine ⟨⟨?_,?_⟩,?_⟩ <;> with_reducible rfl)
     refine (HP.out x8 hCx8).mono ?_
     rintro e_ x10 ⟨rfl,hCx10,hg_⟩
     have hSx10:=hSx8.trans hg_
     (try have hZx10:=keepS hg_ (fun e=>HG8.out.1 e.symm) hZx8)
     clear hg_
     refine ⟨_,rfl,sameS hSx10 ?_⟩
     (try dsimp only [Act.put])
     try simp only [List.setIfInBounds_toArray,List.set_cons_zero,List.set_cons_succ]
     show runC _ _ _ 2 _ [9,11] _ _
     refine runC_at 9 (v:=?_) (by rfl) (by rfl) (by rfl) (by kernel_rfl) (by rfl) ?_ ?_
     rotate_left
     focus (intro w_ hw_;obtain ⟨f0_,f1_⟩:=row2 (keepS hw_ (by have:=HLT.out;omega) HA0.out);go_simp;(try with_reducible rfl);done)
     (try dsimp only [Act.put])
     show runC _ _ _ 1 _ [11] _ _
     try simp only [List.setIfInBounds_toArray,List.set_cons_zero,List.set_cons_succ]
     refine runC_one 11 (by kernel_rfl) (by kernel_rfl) (by rfl) (by rfl) ?_
     obtain ⟨x11,h_⟩:∃ q,q=x10.setRow g8 [.int .i64 op,.int .i64 x,.int .i64 0,.int .i64 0,.int .i64 p.base,.int .i64 p.index,.int .i64 p.scale,.int .i64 p.disp,.int .i64 0].toArray:=⟨_,rfl⟩
     have hSx11:Chg (fun j=>j=b) w1 x11:=by rw [h_];exact hSx10.setRow (.inr (by have h2:=lt_of_block HA1.out;have:=HG8.out;have h3:=HL8.out;omega)) _
     have hCx11:=hCx10.setRow HG8.out.1 [.int .i64 op,.int .i64 x,.int .i64 0,.int .i64 0,.int .i64 p.base,.int .i64 p.index,.int .i64 p.scale,.int .i64 p.disp,.int .i64 0].toArray
     rw [←h_] at hCx11
     have hIx11:x11.heap[g8]? = some (.cells [.int .i64 op,.int .i64 x,.int .i64 0,.int .i64 0,.int .i64 p.base,.int .i64 p.index,.int .i64 p.scale,.int .i64 p.disp,.int .i64 0].toArray 40 (0,0)):=by rw [h_];exact setRow_heap _ _ _ _ _ _ hZx10
     refine tdoes_skip (w1:=x11) (by rw [h_];exact exec_store_row 40 _ _ rfl g8 _ rfl rfl 40 _ hZx10 (by kernel_rfl) rfl (by kernel_rfl)) (sameS hSx11 ?_)
     (try dsimp only [Act.put])
     try simp only [List.setIfInBounds_toArray,List.set_cons_zero,List.set_cons_succ]
     clear h_
     show runC _ _ _ 0 _ [] _ _
     refine runC_nil ?_
     have HX0:=Lh (keepS hSx11 (by have:=HLT.out;omega) HA0.out)
     have HX1:=Lh (keepS hSx11 (by have:=HLT.out;omega) HA1.out)
     have HXC:=Lh hCx11
     have HXI:=Lh hIx11
     have HXG:=Lh (HG1.out.trans hSx11)
     clear hSx11 hCx11 hIx11
     obtain ⟨xb0_,xb1_⟩:=row2 HX0.out
     have HY:=HXI
     have HY1:=HX1
     go_wp2_with (first | (refine wpList_load_row rfl 40 _ rfl g8 rfl 40 [.int .i64 op,.int .i64 x,.int .i64 0,.int .i64 0,.int .i64 p.base,.int .i64 p.index,.int .i64 p.scale,.int .i64 p.disp,.int .i64 0].toArray (0,0) _ HY.out Tryz.underlying40 rfl (by kernel_rfl) ?_) | (refine wpList_store_row rfl 40 _ _ rfl (w.heap.size+1) _ rfl rfl 40 insZ.toArray HY1.out (by kernel_rfl) (by rfl) (by kernel_rfl) ?_))
     refine bodyPost_ret (results_cell_row (ty:=40) rfl _ _ (w.heap.size+1) 40 _ (0,0) _ rfl (setRow_heap _ _ _ _ _ _ HY1.out) Tryz.underlying40 rfl (by kernel_rfl)) rfl ⟨by rw [HE.out];rfl,?_⟩
     rw [HE.out]
     exact ⟨HXC.out.setRow (by have:=HLT.out;omega) _,HXG.out.setRow (.inr (Nat.le_succ _)) _⟩
end Go.Proofs.YtocndimihokcmaaGreat
namespace Go.Proofs.YtocndimihokcmaaGreat
open Go.RowKit
set_option maxRecDepth 100000
open Go.Maps (Keyed)
open Go.Maps
def codeC (b:Nat):Int:=if pairC b≠0 then pairC b else if b=139 then 1006 else if b=137 then 1009 else if b=141 then 1010 else -1
def tkV (c:Int):Value:=if c = -1 then .nilIface else if c < 1000 then .iface 166 (.int .i64 c) else .iface 168 (.agg #[.int .i64 ((c - 1000) / 2),.bool (c % 2 == 1)])
def tkL (c:Int):DataW Unit:=.lit (.int .i64 c)
def tkE (v:Value):Option (DataW Unit×List MemPlace):=match v with
 | .nilIface=>some (tkL (-1),[])
 | .iface t (.int .i64 n)=>if t=166∧0≤n∧n < 1000 then some (tkL n,[]) else none
 | .iface t (.agg cs)=>match cs.toList with
   | [.int .i64 n,.bool b]=>if t=168∧0≤n∧n < 1000 then some (tkL (1000+2*n+if b then 1 else 0),[]) else none
   | _=>none
 | _=>none
theorem tkE_pair (n:Int) (h:0≤n∧n < 1000):tkE (.iface 166 (.int .i64 n))=some (tkL n,[]):=by
 unfold tkE
 simp only
 rw [if_pos ⟨trivial,h⟩]
theorem tkE_moves (n:Int) (b:Bool) (h:0≤n∧n < 1000):tkE (.iface 168 (.agg #[.int .i64 n,.bool b]))=some (tkL (1000+2*n+if b then 1 else 0),[]):=by
 unfold tkE
 simp only
 rw [if_pos ⟨trivial,h⟩]
theorem tkL_inj {a b:Int} {p q:List MemPlace} (h:some (tkL a,p)=some (tkL b,q)):a=b:=by
 have e:=congrArg (fun x:DataW Unit×List MemPlace=>x.1) (Option.some.inj h)
 simp only [tkL,DataW.lit.injEq,Lit.int.injEq,true_and] at e
 exact e
theorem tkE_inv {v:Value} {c:Int} {ps:List MemPlace} (h:tkE v=some (tkL c,ps)):v=tkV c:=by
 unfold tkE at h
 split at h
 · have e:=tkL_inj h
   subst e
   rfl
 · split at h
   · rename_i hx
     have e:=tkL_inj h
     subst e
     unfold tkV
     rw [if_neg (by omega),if_pos hx.2.2,hx.1]
   · cases h
 · rename_i t cs
   split at h
   · rename_i n b hcs
     split at h
     · rename_i hx
       have e:=tkL_inj h
       subst e
       unfold tkV
       rw [if_neg (by split <;> omega),if_neg (by split <;> omega),hx.1]
       have e1:(1000+2*n+(if b=true then (1:Int) else 0) - 1000) / 2=n:=by cases b <;> simp <;> omega
       have e2:((1000+2*n+(if b=true then (1:Int) else 0)) % 2 == 1)=b:=by
         cases b
         · exact beq_eq_false_iff_ne.2 (by simp)
         · exact beq_iff_eq.2 (by simp;omega)
       rw [e1,e2,←Array.toArray_toList (xs:=cs),hcs]
     · cases h
   · cases h
 · cases h
def tkD:DataW Unit:=((((((((((((DataW.map []).put (.int .i64 1) (tkL 6)).put (.int .i64 17) (tkL 7)).put (.int .i64 41) (tkL 8)).put (.int .i64 25) (tkL 9)).put (.int .i64 33) (tkL 10)).put (.int .i64 9) (tkL 11)).put (.int .i64 49) (tkL 12)).put (.int .i64 57) (tkL 13)).put (.int .i64 133) (tkL 14)).put (.int .i64 139) (tkL 1006)).put (.int .i64 137) (tkL 1009)).put (.int .i64 141) (tkL 1010)
theorem ins_tk {ops:Array Oper} {rest:List Oper} {o:Oper} {a:Act} {Q:Exit→Act→World→Prop} {w:World} {b n:Nat} {D:DataW Unit} (hown:w.ownsMap Tryz.prog 3 tkE b n D) {m x v:Operand} {op:Int} {val:Value} {c:Int} (hn:n < 1000) (hg:o.guard=none) (hop:o.op=.insert 163 m x v)
   (hm:a.eval m=.map (some b)) (hx:a.eval x=.int .i64 op) (hv:a.eval v=val) (hk:(Lit.int .i64 op).wf=true) (hval:tkE val=some (tkL c,[]))
   (hK:∀ w',w'.ownsMap Tryz.prog 3 tkE b (n+1) (D.put (.int .i64 op) (tkL c))→w.mapTurned w' b→wpList Tryz.prog ops Q rest (a.put o.dst undef) w'):wpList Tryz.prog ops Q (o :: rest) a w :=
 wpList_insert_in w hg m x v 163 hop 3 161 keyedI Tryz.underlying163 tkE b n D hm hown (by unfold maxLen;omega) _ _ _ hx hv (Go.Maps.keyOf_int_mk Tryz.underlying3 hk) _ _ hval hK
set_option maxHeartbeats 8000000 in
theorem takers_any (w:World):Calls Tryz.prog 94 #[] w fun e w'=>e=.returned (.map (some w.heap.size))∧w'.ownsMap Tryz.prog 3 tkE w.heap.size 12 tkD∧Below w.heap.size w w':=by
 have HM:=Lh (World.ownsMap_made w Tryz.prog 3 tkE)
 have HG:=Lh ((Below.refl w.heap.size w).alloc (Nat.le_refl _) (.map #[] 0))
 have hmm:=@run_makeMap Tryz.prog
 go_enter Tryz.func94,Tryz.ntmps94
 go_upto_region 1 with go_in
 refine wp_region_lit ?_
 repeat (first
   | (apply ins_tk HM.out;(· decide);(· rfl);(· rfl);(· rfl);(· rfl);(· rfl);(· decide);(first | (· exact tkE_pair _ (by decide)) | (· exact tkE_moves _ _ (by decide)));(intro w1 hm1 ht1;(try dsimp only [Act.put]);have HM:=Lh hm1;have HG:=Lh (HG.out.grown ht1.grown (by have:=HG.out.size;omega) (fun j e=>by cases e;exact Nat.le_refl _));clear hm1 ht1))
   | go_step)
 go_wp2
 go_ret
 exact ⟨rfl,HM.out,HG.out⟩
theorem tk_code:∀ b:Fin 256,(match tkD.atKey (.int .i64 (b:Nat)) (tkL (-1)) with | .lit (.int .i64 n)=>n == codeC b | _=>false)=true∧(match tkD.atKey (.int .i64 (b:Nat)) (tkL (-2)) with | .lit (.int .i64 n)=>n ==(if codeC b = -1 then -2 else codeC b) | _=>false)=true:=by decide +kernel
theorem lit_is {d:DataW Unit} {c:Int} (h:(match d with | .lit (.int .i64 n)=>n == c | _=>false)=true):d=tkL c:=by
 split at h
 · rw [eq_of_beq h];rfl
 · cases h
theorem tk_at {b:Nat} (hb:b < 256):tkD.atKey (.int .i64 (b:Nat)) (tkL (-1))=tkL (codeC b)∧tkD.atKey (.int .i64 (b:Nat)) (tkL (-2))=tkL (if codeC b = -1 then -2 else codeC b) :=
 ⟨lit_is (tk_code ⟨b,hb⟩).1,lit_is (tk_code ⟨b,hb⟩).2⟩
theorem byte_wf:∀ b:Fin 256,(Lit.int .i64 ((b:Nat):Int)).wf=true:=by decide +kernel
theorem infoTk:(Tryz.prog.info? 161).map (fun i=>i.zero)=some (some .nilIface):=by kernel_rfl
theorem tk_look {w:World} {g n b:Nat} (hown:w.ownsMap Tryz.prog 3 tkE g n tkD) (hb:b < 256):(Instr.lookup 163 (.map (some g)) (.int .i64 b) true).run Tryz.prog w=.ok (.tuple #[tkV (codeC b),.bool (codeC b != -1)]) w:=by
 have hz:(zeroValue 161).run Tryz.prog w=.ok .nilIface w:=by
   obtain ⟨i0,hi,hz0⟩:=Option.map_eq_some_iff.1 infoTk
   simp [zeroValue,typeInfo,hi,hz0]
 have hk:(Lit.int .i64 (b:Nat)).wf=true:=byte_wf ⟨b,hb⟩
 obtain ⟨h1,h2⟩:=tk_at hb
 obtain ⟨es,clock,hblk,F,_,hD⟩:=hown
 rw [hD] at h1 h2
 rcases Maps.fit_look true keyedI Tryz.underlying163 hz hblk F (Go.Maps.keyOf_int_mk Tryz.underlying3 hk) with ⟨hrun,_,hat⟩ | ⟨e0,y,_,_,hrun,hRv,hat,_⟩
 · rw [hat] at h1
   have e:codeC b = -1:=(tkL_inj (p:=[]) (q:=[]) (by rw [h1])).symm
   rw [e]
   exact hrun
 · have e1:=(hat (tkL (-1))).symm.trans h1
   have e2:=(hat (tkL (-2))).symm.trans h2
   have hne:codeC b≠-1:=by
     intro e
     rw [e1,e] at e2
     have:=tkL_inj (p:=[]) (q:=[]) (congrArg (fun d=>some (d,([]:List MemPlace))) e2)
     rw [if_pos rfl] at this
     omega
   obtain ⟨y1,y2⟩:=y
   have e3:y1=tkL (codeC b):=e1
   subst e3
   rw [tkE_inv hRv] at hrun
   rw [bne_iff_ne.2 hne]
   exact hrun
end Go.Proofs.YtocndimihokcmaaGreat
