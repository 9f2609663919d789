/- Part 23 of a claim; what it proves stands in its last text. -/
import Derived.Test.YtocndimihokcmaaGreatAm22
namespace Go.Proofs.YtocndimihokcmaaGreat
open Go.RowKit
set_option maxRecDepth 100000
theorem wpList_skipJ {P:Program} {ops:Array Oper} {rest:List Oper} {o:Oper} {a:Act} {w:World} {Q:Exit→Act→World→Prop} (hg:o.guard=none) {w':World} (h:(execOp a.eval o).run P w=.ok .skip w') (k:wpList P ops Q rest (a.put o.dst undef) w'):wpList P ops Q (o :: rest) a w :=
 wpList_plain hg fun K hK=>by unfold Oper.wp;rw [h];exact hK _ _ k
theorem own_same {w w':World} {base e sz n:Nat} {v:Value} {xs:List Value} (h:w.ownsRow base e sz v n xs) (hb:∀ q,v.ownBlock=some q→w'.heap[q]? = w.heap[q]?):w'.ownsRow base e sz v n xs:=by
 rcases h.2 with h1 | ⟨g,cap,cur,h1,hg,h2,h3⟩
 · exact ⟨h.1,.inl h1⟩
 · exact ⟨h.1,.inr ⟨g,cap,cur,h1,hg,(hb g (by rw [h1];rfl)).trans h2,h3⟩⟩
theorem st_ones (s:St):∀ v∈stRow s,v.oneCell'=true:=by
 intro v hv
 unfold stRow at hv
 rcases List.mem_append.1 hv with h | h
 · obtain ⟨r,_,rfl⟩:=List.mem_map.1 h
   rfl
 · simp only [List.mem_cons,List.not_mem_nil,or_false] at h
   rcases h with rfl | rfl | rfl | rfl <;> rfl
theorem alloc_st (w:World):(Instr.alloc 26 true (.tuple #[])).run Tryz.prog w=.ok (.pointer (some ⟨w.heap.size,0,none⟩)) (w.alloc (.cells zeroSt.toArray 26)):=by kernel_rfl
theorem run_putSt {s s':St} (hs:StOk s) (hs':StOk s') {n err:Int} {code m:Value} {g:Nat}:((runRow s n err code m g).toArray.toList.take 0++(stRow s').toArray.toList++(runRow s n err code m g).toArray.toList.drop (0+(stRow s').toArray.size)).toArray=(runRow s' n err code m g).toArray:=by
 rw [stRow_size hs']
 unfold runRow
 simp only [List.take_zero,List.nil_append,Nat.zero_add]
 rw [List.drop_append_of_le_length (by rw [stRow_len hs];exact Nat.le_refl _),List.drop_of_length_le (by rw [stRow_len hs];exact Nat.le_refl _),List.nil_append]
set_option maxHeartbeats 8000000 in
theorem next_none {code:List UInt8} {m:Value} {b g k:Nat} {w:World} {s:St} {n fuel:Int} {F:Nat→Prop} {rs:List Reg} (h:RunAt code m b g k w s n 0) (hm:MemAt w F m rs) (hF:∀ q,F q→q < w.heap.size) (hbF:¬ F b) (hgF:¬ F g) (hpc:s.pc≠1) (hn:n≠fuel) (hfe:Calls Tryz.prog 67 #[.pointer (some ⟨b,0,none⟩)] w (fun e w'=>e=.returned (.tuple #[fetZ,.bool false])∧RunAt code m b g (k+1) w' s n 0∧Chg (fun j=>j=g) w w')):Calls Tryz.prog 41 #[.pointer (some ⟨b,0,none⟩),.int .i64 fuel] w (NextPost code m b g k w F s n 11 rs [] false):=by
 obtain ⟨c16_,c20_,c21_,c22_,c23_,c24_⟩:=h.cells
 have d1:((s.pc:Int) == 1)=false:=beq_eq_false_iff_ne.2 (by omega)
 have d2:(n == fuel)=false:=beq_eq_false_iff_ne.2 hn
 have HLT:=Lh (show b < w.heap.size∧g < w.heap.size from ⟨lt_of_block h.blk,by obtain ⟨c,D,_,h2,_⟩:=h.known;exact h2.lt⟩)
 have HM:=Lh hm
 have HF:=Lh hF
 have HBF:=Lh hbF
 have HGF:=Lh hgF
 have HFE:=Lh hfe
 have HNE:=Lh h.ne
 have HSO:=Lh h.st
 clear h hm hF hbF hgF hfe hpc hn
 go_enter Tryz.func41,Tryz.ntmps41
 go_wp2_with (first | ((with_reducible refine HFE.out.mono ?_);rintro e_ w1 ⟨rfl,hr1,hg1⟩;have HR1:=Lh hr1;have HG1:=Lh hg1;clear hr1 hg1) | (refine wpList_store_row rfl 129 _ _ rfl w1.heap.size [.int .i64 0,.int .i64 0,.int .i64 0,.int .i64 0,.int .i64 0,.int .i64 0,.int .i64 0,.int .i64 0,.int .i64 0,.int .i64 0].toArray rfl rfl 129 _ (heap_alloc_new w1 _) (by kernel_rfl) (by rfl) (by kernel_rfl) ?_;generalize hY:World.setRow (w1.alloc (.cells #[.int .i64 0,.int .i64 0,.int .i64 0,.int .i64 0,.int .i64 0,.int .i64 0,.int .i64 0,.int .i64 0,.int .i64 0,.int .i64 0] 129)) w1.heap.size [.int .i64 0,.int .i64 0,.int .i64 0,.int .i64 0,.int .i64 0,.int .i64 0,.int .i64 0,.int .i64 0,.int .i64 0,.int .i64 0].toArray=Y;have HTY:=Lh (show Y.heap[w1.heap.size]? = some (.cells [.int .i64 0,.int .i64 0,.int .i64 0,.int .i64 0,.int .i64 0,.int .i64 0,.int .i64 0,.int .i64 0,.int .i64 0,.int .i64 0].toArray 129 (0,0)) from by rw [←hY];exact setRow_heap _ _ _ _ _ _ (heap_alloc_new w1 _));have hc1:Chg (fun j=>j=w1.heap.size) w1 Y:=(by rw [←hY];exact ((Chg.refl (fun j=>j=w1.heap.size) w1).alloc _).setRow (.inl rfl) _);have HS1:=Lh (HG1.out.size);have HRY:=Lh (HR1.out.chg hc1 (fun e=>by have h9:b=w1.heap.size:=e;have:=HLT.out;have:=HS1.out;omega) (fun e=>by have h9:g=w1.heap.size:=e;have:=HLT.out;have:=HS1.out;omega));have HGY:=Lh (show Chg (fun j=>j=g) w Y from HG1.out.trans' hc1 (fun q hq e=>by have h9:q=w1.heap.size:=e;have:=HS1.out;omega));have HMY:=Lh (HM.out.keep (HGY.out.same (fun q hq=>⟨HF.out q hq,fun e=>HGF.out (by have h9:q=g:=e;rw [←h9];exact hq)⟩)));clear hY hc1;obtain ⟨y16_,y20_,y21_,y22_,y23_,y24_⟩:=HRY.out.cells;have z20_:=HRY.out.froz 20;have z21_:=HRY.out.froz 21))
 go_ret2
 exact ⟨_,rfl,HRY.out.setErr 11,HMY.out.keep (fun q hq=>Below.heap_setCell _ _ _ _ (fun e=>HBF.out (by have h9:q=b:=e;rw [←h9];exact hq))),(HGY.out.mono (fun q _ hq=>.inr (.inl hq))).setCell (p:=⟨b,21,none⟩) (.inl (.inl rfl)) _,by simp,.inl ⟨rfl,rfl⟩⟩
set_option maxHeartbeats 8000000 in
theorem next_bad {code:List UInt8} {m:Value} {b g k:Nat} {w:World} {s:St} {n fuel:Int} {F:Nat→Prop} {rs:List Reg} (h:RunAt code m b g k w s n 0) (hm:MemAt w F m rs) (hF:∀ q,F q→q < w.heap.size) (hbF:¬ F b) (hgF:¬ F g) (hpc:s.pc≠1) (hn:n≠fuel) {x:Ins×Nat} (hi:InsOk x.1) (hfe:Calls Tryz.prog 67 #[.pointer (some ⟨b,0,none⟩)] w (fun e w'=>e=.returned (.tuple #[fetV x,.bool true])∧RunAt code m b g (k+1) w' s n 0∧Chg (fun j=>j=g) w w')) (r:StepR) (hr:r=stepF s x.1 x.2 rs) (hso:StOk r.st) (hcode:r.code≠0):Calls Tryz.prog 41 #[.pointer (some ⟨b,0,none⟩),.int .i64 fuel] w (NextPost code m b g k w F s n 11 r.rs [] false):=by
 have HDO:=Lh (fun (w_:World) (hm_:MemAt w_ F m rs) (hF_:∀ q,F q→q < w_.heap.size)=>show Calls Tryz.prog 68 #[.agg (stRow s).toArray,.agg (insRow x.1).toArray,.int .i64 x.2,m] w_ (DoPost w_ F m r) from hr▸Do_any s x.1 x.2 m w_ F rs h.st hi hm_ hF_)
 have HSR:=Lh hso
 have dc:(r.code != 0)=true:=bne_iff_ne.2 hcode
 clear hr hso hcode hi
 obtain ⟨c16_,c20_,c21_,c22_,c23_,c24_⟩:=h.cells
 have d1:((s.pc:Int) == 1)=false:=beq_eq_false_iff_ne.2 (by omega)
 have d2:(n == fuel)=false:=beq_eq_false_iff_ne.2 hn
 have HLT:=Lh (show b < w.heap.size∧g < w.heap.size from ⟨lt_of_block h.blk,by obtain ⟨c,D,_,h2,_⟩:=h.known;exact h2.lt⟩)
 have HM:=Lh hm
 have HF:=Lh hF
 have HBF:=Lh hbF
 have HGF:=Lh hgF
 have HFE:=Lh hfe
 have HNE:=Lh h.ne
 have HSO:=Lh h.st
 clear h hm hF hbF hgF hfe hpc hn
 go_enter Tryz.func41,Tryz.ntmps41
 go_wp2_with (first | ((with_reducible refine HFE.out.mono ?_);rintro e_ w1 ⟨rfl,hr1,hg1⟩;have HR1:=Lh hr1;have HG1:=Lh hg1;clear hr1 hg1) | (refine wpList_store_row rfl 129 _ _ rfl w1.heap.size (insRow x.1++[Value.int .i64 x.2]).toArray rfl rfl 129 _ (heap_alloc_new w1 _) (by kernel_rfl) (by rfl) (by kernel_rfl) ?_;generalize hY:World.setRow (w1.alloc (.cells #[.int .i64 0,.int .i64 0,.int .i64 0,.int .i64 0,.int .i64 0,.int .i64 0,.int .i64 0,.int .i64 0,.int .i64 0,.int .i64 0] 129)) w1.heap.size (insRow x.1++[Value.int .i64 x.2]).toArray=Y;have HTY:=Lh (show Y.heap[w1.heap.size]? = some (.cells (insRow x.1++[Value.int .i64 x.2]).toArray 129 (0,0)) from by rw [←hY];exact setRow_heap _ _ _ _ _ _ (heap_alloc_new w1 _));have hc1:Chg (fun j=>j=w1.heap.size) w1 Y:=(by rw [←hY];exact ((Chg.refl (fun j=>j=w1.heap.size) w1).alloc _).setRow (.inl rfl) _);have HS1:=Lh (HG1.out.size);have HRY:=Lh (HR1.out.chg hc1 (fun e=>by have h9:b=w1.heap.size:=e;have:=HLT.out;have:=HS1.out;omega) (fun e=>by have h9:g=w1.heap.size:=e;have:=HLT.out;have:=HS1.out;omega));have HGY:=Lh (show Chg (fun j=>j=g) w Y from HG1.out.trans' hc1 (fun q hq e=>by have h9:q=w1.heap.size:=e;have:=HS1.out;omega));have HMY:=Lh (HM.out.keep (HGY.out.same (fun q hq=>⟨HF.out q hq,fun e=>HGF.out (by have h9:q=g:=e;rw [←h9];exact hq)⟩)));clear hY hc1;obtain ⟨y16_,y20_,y21_,y22_,y23_,y24_⟩:=HRY.out.cells;have z20_:=HRY.out.froz 20;have z21_:=HRY.out.froz 21))
 have HYS:=Lh (show w1.heap.size < Y.heap.size∧w.heap.size≤w1.heap.size from ⟨lt_of_block HTY.out,HS1.out⟩)
 refine wp_region_grow (Chg (Over F Y.heap.size) Y) (by kernel_rfl) (by kernel_rfl) (Chg.refl _ Y).drew ?_
 have hSx0:=(Chg.refl (Over F Y.heap.size) Y).drew
 have hMx0:MemAt Y.drew F m rs:=HMY.out.keep (fun _ _=>rfl)
 obtain ⟨x0,hx0⟩:∃ x0,x0=Y.drew:=⟨_,rfl⟩
 rw [←hx0] at hSx0 hMx0 ⊢
 clear hx0
 show runC _ _ _ 22 _ [0,1,2,3,4,5,6,7,8,9,10,11,12,13,14,15,16,17,18,19,20,21] _ _
 refine runC_at 0 (v:=?_) (by rfl) (by rfl) (by rfl) (by kernel_rfl) (by rfl) ?_ ?_
 rotate_left
 focus (intro w_ hw_;have g1_:=((hw_.block _ (lt_of_block HRY.out.blk) (by rintro (e | e);exact HBF.out e;have:=lt_of_block HRY.out.blk;omega)).trans HRY.out.blk);have g2_:=((hw_.block _ (lt_of_block HTY.out) (by rintro (e | e);have:=HF.out _ e;have:=HYS.out;omega;have:=HYS.out;omega)).trans HTY.out);have f1_:=(cell_at g1_ (run_at HSO.out).2.2.2.2.1).1;have f2_:=(cell_at g2_ (show (insRow x.1++[Value.int .i64 x.2])[9]? = some (.int .i64 x.2) from rfl)).1;go_simp;(try with_reducible rfl);done)
 (try dsimp only [Act.put])
 show runC _ _ _ 21 _ [1,2,3,4,5,6,7,8,9,10,11,12,13,14,15,16,17,18,19,20,21] _ _
 try simp only [List.setIfInBounds_toArray,List.set_cons_zero,List.set_cons_succ]
 refine runC_at 1 (v:=?_) (by rfl) (by rfl) (by rfl) (by kernel_rfl) (by rfl) ?_ ?_
 rotate_left
 focus (intro w_ hw_;have g1_:=((hw_.block _ (lt_of_block HRY.out.blk) (by rintro (e | e);exact HBF.out e;have:=lt_of_block HRY.out.blk;omega)).trans HRY.out.blk);have g2_:=((hw_.block _ (lt_of_block HTY.out) (by rintro (e | e);have:=HF.out _ e;have:=HYS.out;omega;have:=HYS.out;omega)).trans HTY.out);have f1_:=(cell_at g1_ (run_at HSO.out).2.2.2.2.1).1;have f2_:=(cell_at g2_ (show (insRow x.1++[Value.int .i64 x.2])[9]? = some (.int .i64 x.2) from rfl)).1;go_simp;(try with_reducible rfl);done)
 (try dsimp only [Act.put])
 show runC _ _ _ 20 _ [2,3,4,5,6,7,8,9,10,11,12,13,14,15,16,17,18,19,20,21] _ _
 try simp only [List.setIfInBounds_toArray,List.set_cons_zero,List.set_cons_succ]
 refine runC_at 2 (v:=?_) (by rfl) (by rfl) (by rfl) (by kernel_rfl) (by rfl) ?_ ?_
 rotate_left
 focus (intro w_ hw_;have g1_:=((hw_.block _ (lt_of_block HRY.out.blk) (by rintro (e | e);exact HBF.out e;have:=lt_of_block HRY.out.blk;omega)).trans HRY.out.blk);have g2_:=((hw_.block _ (lt_of_block HTY.out) (by rintro (e | e);have:=HF.out _ e;have:=HYS.out;omega;have:=HYS.out;omega)).trans HTY.out);have f1_:=(cell_at g1_ (run_at HSO.out).2.2.2.2.1).1;have f2_:=(cell_at g2_ (show (insRow x.1++[Value.int .i64 x.2])[9]? = some (.int .i64 x.2) from rfl)).1;go_simp;(try with_reducible rfl);done)
 (try dsimp only [Act.put])
 show runC _ _ _ 19 _ [3,4,5,6,7,8,9,10,11,12,13,14,15,16,17,18,19,20,21] _ _
 try simp only [List.setIfInBounds_toArray,List.set_cons_zero,List.set_cons_succ]
 refine runC_at 3 (v:=?_) (by rfl) (by rfl) (by rfl) (by kernel_rfl) (by rfl) ?_ ?_
 rotate_left
 focus (intro w_ hw_;have g1_:=((hw_.block _ (lt_of_block HRY.out.blk) (by rintro (e | e);exact HBF.out e;have:=lt_of_block HRY.out.blk;omega)).trans HRY.out.blk);have g2_:=((hw_.block _ (lt_of_block HTY.out) (by rintro (e | e);have:=HF.out _ e;have:=HYS.out;omega;have:=HYS.out;omega)).trans HTY.out);have f1_:=(cell_at g1_ (run_at HSO.out).2.2.2.2.1).1;have f2_:=(cell_at g2_ (show (insRow x.1++[Value.int .i64 x.2])[9]? = some (.int .i64 x.2) from rfl)).1;go_simp;(try with_reducible rfl);done)
 (try dsimp only [Act.put])
 show runC _ _ _ 18 _ [4,5,6,7,8,9,10,11,12,13,14,15,16,17,18,19,20,21] _ _
 try simp only [List.setIfInBounds_toArray,List.set_cons_zero,List.set_cons_succ]
 refine runC_at 4 (v:=.agg (stRow s).toArray) (by rfl) (by rfl) (by rfl) (by kernel_rfl) (by rfl) (fun w_ hw_=>exec_load 26 _ rfl ⟨b,0,none⟩ rfl _ _ Tryz.underlying26 rfl (by show _=some (stRow s).toArray.size;rw [stRow_size HSO.out];exact infoSt) (fun j v hv=>by rw [add_plain,Nat.zero_add];exact (cell_at ((hw_.block _ (lt_of_block HRY.out.blk) (by rintro (e | e);exact HBF.out e;have:=lt_of_block HRY.out.blk;omega)).trans HRY.out.blk) (by unfold runRow;rw [List.getElem?_append_left (List.getElem?_eq_some_iff.1 hv).1];exact hv)).1)) ?_
 (try dsimp only [Act.put])
 show runC _ _ _ 17 _ [5,6,7,8,9,10,11,12,13,14,15,16,17,18,19,20,21] _ _
 try simp only [List.setIfInBounds_toArray,List.set_cons_zero,List.set_cons_succ]
 refine runC_at 5 (v:=?_) (by rfl) (by rfl) (by rfl) (by kernel_rfl) (by rfl) ?_ ?_
 rotate_left
 focus (intro w_ hw_;have g1_:=((hw_.block _ (lt_of_block HRY.out.blk) (by rintro (e | e);exact HBF.out e;have:=lt_of_block HRY.out.blk;omega)).trans HRY.out.blk);have g2_:=((hw_.block _ (lt_of_block HTY.out) (by rintro (e | e);have:=HF.out _ e;have:=HYS.out;omega;have:=HYS.out;omega)).trans HTY.out);have f1_:=(cell_at g1_ (run_at HSO.out).2.2.2.2.1).1;have f2_:=(cell_at g2_ (show (insRow x.1++[Value.int .i64 x.2])[9]? = some (.int .i64 x.2) from rfl)).1;go_simp;(try with_reducible rfl);done)
 (try dsimp only [Act.put])
 show runC _ _ _ 16 _ [6,7,8,9,10,11,12,13,14,15,16,17,18,19,20,21] _ _
 try simp only [List.setIfInBounds_toArray,List.set_cons_zero,List.set_cons_succ]
 refine runC_at 6 (v:=.agg (insRow x.1).toArray) (by rfl) (by rfl) (by rfl) (by kernel_rfl) (by rfl) (fun w_ hw_=>exec_load 40 _ rfl ⟨w1.heap.size,0,none⟩ rfl _ _ Tryz.underlying40 rfl (by kernel_rfl) (fun j v hv=>by rw [add_plain,Nat.zero_add];exact (cell_at ((hw_.block _ (lt_of_block HTY.out) (by rintro (e | e);have:=HF.out _ e;have:=HYS.out;omega;have:=HYS.out;omega)).trans HTY.out) (by rw [List.getElem?_append_left (List.getElem?_eq_some_iff.1 hv).1];exact hv)).1)) ?_
 (try dsimp only [Act.put])
 show runC _ _ _ 15 _ [7,8,9,10,11,12,13,14,15,16,17,18,19,20,21] _ _
 try simp only [List.setIfInBounds_toArray,List.set_cons_zero,List.set_cons_succ]
 refine runC_at 7 (v:=?_) (by rfl) (by rfl) (by rfl) (by kernel_rfl) (by rfl) ?_ ?_
 rotate_left
 focus (intro w_ hw_;have g1_:=((hw_.block _ (lt_of_block HRY.out.blk) (by rintro (e | e);exact HBF.out e;have:=lt_of_block HRY.out.blk;omega)).trans HRY.out.blk);have g2_:=((hw_.block _ (lt_of_block HTY.out) (by rintro (e | e);have:=HF.out _ e;have:=HYS.out;omega;have:=HYS.out;omega)).trans HTY.out);have f1_:=(cell_at g1_ (run_at HSO.out).2.2.2.2.1).1;have f2_:=(cell_at g2_ (show (insRow x.1++[Value.int .i64 x.2])[9]? = some (.int .i64 x.2) from rfl)).1;go_simp;(try with_reducible rfl);done)
 (try dsimp only [Act.put])
 show runC _ _ _ 14 _ [8,9,10,11,12,13,14,15,16,17,18,19,20,21] _ _
 try simp only [List.setIfInBounds_toArray,List.set_cons_zero,List.set_cons_succ]
 refine runC_at 8 (v:=?_) (by rfl) (by rfl) (by rfl) (by kernel_rfl) (by rfl) ?_ ?_
 rotate_left
 focus (intro w_ hw_;have g1_:=((hw_.block _ (lt_of_block HRY.out.blk) (by rintro (e | e);exact HBF.out e;have:=lt_of_block HRY.out.blk;omega)).trans HRY.out.blk);have g2_:=((hw_.block _ (lt_of_block HTY.out) (by rintro (e | e);have:=HF.out _ e;have:=HYS.out;omega;have:=HYS.out;omega)).trans HTY.out);have f1_:=(cell_at g1_ (run_at HSO.out).2.2.2.2.1).1;have f2_:=(cell_at g2_ (show (insRow x.1++[Value.int .i64 x.2])[9]? = some (.int .i64 x.2) from rfl)).1;go_simp;(try with_reducible rfl);done)
 (try dsimp only [Act.put])
 show runC _ _ _ 13 _ [9,10,11,12,13,14,15,16,17,18,19,20,21] _ _
 try simp only [List.setIfInBounds_toArray,List.set_cons_zero,List.set_cons_succ]
 refine runC_at 9 (v:=?_) (by rfl) (by rfl) (by rfl) (by kernel_rfl) (by rfl) ?_ ?_
 rotate_left
 focus (intro w_ hw_;have g1_:=((hw_.block _ (lt_of_block HRY.out.blk) (by rintro (e | e);exact HBF.out e;have:=lt_of_block HRY.out.blk;omega)).trans HRY.out.blk);have g2_:=((hw_.block _ (lt_of_block HTY.out) (by rintro (e | e);have:=HF.out _ e;have:=HYS.out;omega;have:=HYS.out;omega)).trans HTY.out);have f1_:=(cell_at g1_ (run_at HSO.out).2.2.2.2.1).1;have f2_:=(cell_at g2_ (show (insRow x.1++[Value.int .i64 x.2])[9]? = some (.int .i64 x.2) from rfl)).1;go_simp;(try with_reducible rfl);done)
 (try dsimp only [Act.put])
 show runC _ _ _ 12 _ [10,11,12,13,14,15,16,17,18,19,20,21] _ _
 try simp only [List.setIfInBounds_toArray,List.set_cons_zero,List.set_cons_succ]
 refine runC_at 10 (v:=?_) (by rfl) (by rfl) (by rfl) (by kernel_rfl) (by rfl) ?_ ?_
 rotate_left
 focus (intro w_ hw_;have g1_:=((hw_.block _ (lt_of_block HRY.out.blk) (by rintro (e | e);exact HBF.out e;have:=lt_of_block HRY.out.blk;omega)).trans HRY.out.blk);have g2_:=((hw_.block _ (lt_of_block HTY.out) (by rintro (e | e);have:=HF.out _ e;have:=HYS.out;omega;have:=HYS.out;omega)).trans HTY.out);have f1_:=(cell_at g1_ (run_at HSO.out).2.2.2.2.1).1;have f2_:=(cell_at g2_ (show (insRow x.1++[Value.int .i64 x.2])[9]? = some (.int .i64 x.2) from rfl)).1;go_simp;(try with_reducible rfl);done)
 (try dsimp only [Act.put])
 show runC _ _ _ 11 _ [11,12,13,14,15,16,17,18,19,20,21] _ _
 try simp only [List.setIfInBounds_toArray,List.set_cons_zero,List.set_cons_succ]
 refine runC_at 11 (v:=?_) (by rfl) (by rfl) (by rfl) (by kernel_rfl) (by rfl) ?_ ?_
 rotate_left
 focus (intro w_ hw_;have g1_:=((hw_.block _ (lt_of_block HRY.out.blk) (by rintro (e | e);exact HBF.out e;have:=lt_of_block HRY.out.blk;omega)).trans HRY.out.blk);have g2_:=((hw_.block _ (lt_of_block HTY.out) (by rintro (e | e);have:=HF.out _ e;have:=HYS.out;omega;have:=HYS.out;omega)).trans HTY.out);have f1_:=(cell_at g1_ (run_at HSO.out).2.2.2.2.1).1;have f2_:=(cell_at g2_ (show (insRow x.1++[Value.int .i64 x.2])[9]? = some (.int .i64 x.2) from rfl)).1;go_simp;(try with_reducible rfl);done)
 (try dsimp only [Act.put])
 show runC _ _ _ 10 _ [12,13,14,15,16,17,18,19,20,21] _ _
 try simp only [List.setIfInBounds_toArray,List.set_cons_zero,List.set_cons_succ]
 refine runC_at 12 (v:=?_) (by rfl) (by rfl) (by rfl) (by kernel_rfl) (by rfl) ?_ ?_
 rotate_left
 focus (intro w_ hw_;have g1_:=((hw_.block _ (lt_of_block HRY.out.blk) (by rintro (e | e);exact HBF.out e;have:=lt_of_block HRY.out.blk;omega)).trans HRY.out.blk);have g2_:=((hw_.block _ (lt_of_block HTY.out) (by rintro (e | e);have:=HF.out _ e;have:=HYS.out;omega;have:=HYS.out;omega)).trans HTY.out);have f1_:=(cell_at g1_ (run_at HSO.out).2.2.2.2.1).1;have f2_:=(cell_at g2_ (show (insRow x.1++[Value.int .i64 x.2])[9]? = some (.int .i64 x.2) from rfl)).1;go_simp;(try with_reducible rfl);done)
 (try dsimp only [Act.put])
 show runC _ _ _ 9 _ [13,14,15,16,17,18,19,20,21] _ _
 try simp only [List.setIfInBounds_toArray,List.set_cons_zero,List.set_cons_succ]
 refine runC_two 13 18 (by kernel_rfl) (by kernel_rfl) (by rfl) (by rfl) (by rfl) (by rfl) ?_ ?_
 · refine tdoes_call (f:=?_) (args:=?_) (w1:=?_) ?_ ?_
   rotate_left 3
   focus (go_simp;refine ⟨⟨?_,?_⟩,?_⟩ <;> with_reducible rfl)
   refine (HDO.out x0 hMx0 (fun q hq=>by have:=HF.out q hq;have:=HYS.out;have:=hSx0.size;omega)).mono ?_
   rintro e_ x1 ⟨vv,rfl,hc_,hMx1,hOx1⟩
   have hSx1:=hSx0.trans' hc_ (fun q hq e=>by rcases e with e | e;exact .inl e;exact .inr (Nat.le_trans hSx0.size e))
   (try have hZx1:=(hc_.block _ (lt_of_block hZx0) (by rintro (e | e);have:=HF.out _ e;have:=HG8.out;have:=HYS.out;omega;have:=lt_of_block hZx0;omega)).trans hZx0)
   (try have HNB:=Lh (show ∀ q,Value.ownBlock vv=some q→q≠g8 from fun q hq e=>by have h1:=(own_ltB hOx1 q hq).2;have h2:=lt_of_block hZx0;omega))
   have hOx1:=own_base_le hOx1 hSx0.size
   clear hc_
   refine ⟨_,rfl,sameS hSx1 ?_⟩
   (try dsimp only [Act.put])
   try simp only [List.setIfInBounds_toArray,List.set_cons_zero,List.set_cons_succ]
   show runC _ _ _ 8 _ [14,15,16,17,18,19,20,21] _ _
   refine runC_at 14 (v:=?_) (by rfl) (by rfl) (by rfl) (by kernel_rfl) (by rfl) ?_ ?_
   rotate_left
   focus (intro w_ hw_;have g1_:=((hw_.block _ (lt_of_block HRY.out.blk) (by rintro (e | e);exact HBF.out e;have:=lt_of_block HRY.out.blk;omega)).trans HRY.out.blk);have g2_:=((hw_.block _ (lt_of_block HTY.out) (by rintro (e | e);have:=HF.out _ e;have:=HYS.out;omega;have:=HYS.out;omega)).trans HTY.out);have f1_:=(cell_at g1_ (run_at HSO.out).2.2.2.2.1).1;have f2_:=(cell_at g2_ (show (insRow x.1++[Value.int .i64 x.2])[9]? = some (.int .i64 x.2) from rfl)).1;go_simp;(try with_reducible rfl);done)
   (try dsimp only [Act.put])
   show runC _ _ _ 7 _ [15,16,17,18,19,20,21] _ _
   try simp only [List.setIfInBounds_toArray,List.set_cons_zero,List.set_cons_succ]
   refine runC_at 15 (v:=?_) (by rfl) (by rfl) (by rfl) (by kernel_rfl) (by rfl) ?_ ?_
   rotate_left
   focus (intro w_ hw_;have g1_:=((hw_.block _ (lt_of_block HRY.out.blk) (by rintro (e | e);exact HBF.out e;have:=lt_of_block HRY.out.blk;omega)).trans HRY.out.blk);have g2_:=((hw_.block _ (lt_of_block HTY.out) (by rintro (e | e);have:=HF.out _ e;have:=HYS.out;omega;have:=HYS.out;omega)).trans HTY.out);have f1_:=(cell_at g1_ (run_at HSO.out).2.2.2.2.1).1;have f2_:=(cell_at g2_ (show (insRow x.1++[Value.int .i64 x.2])[9]? = some (.int .i64 x.2) from rfl)).1;go_simp;(try with_reducible rfl);done)
   (try dsimp only [Act.put])
   show runC _ _ _ 6 _ [16,17,18,19,20,21] _ _
   try simp only [List.setIfInBounds_toArray,List.set_cons_zero,List.set_cons_succ]
   refine runC_at 16 (v:=?_) (by rfl) (by rfl) (by rfl) (by kernel_rfl) (by rfl) ?_ ?_
   rotate_left
   focus (intro w_ hw_;have g1_:=((hw_.block _ (lt_of_block HRY.out.blk) (by rintro (e | e);exact HBF.out e;have:=lt_of_block HRY.out.blk;omega)).trans HRY.out.blk);have g2_:=((hw_.block _ (lt_of_block HTY.out) (by rintro (e | e);have:=HF.out _ e;have:=HYS.out;omega;have:=HYS.out;omega)).trans HTY.out);have f1_:=(cell_at g1_ (run_at HSO.out).2.2.2.2.1).1;have f2_:=(cell_at g2_ (show (insRow x.1++[Value.int .i64 x.2])[9]? = some (.int .i64 x.2) from rfl)).1;go_simp;(try with_reducible rfl);done)
   (try dsimp only [Act.put])
   show runC _ _ _ 5 _ [17,18,19,20,21] _ _
   try simp only [List.setIfInBounds_toArray,List.set_cons_zero,List.set_cons_succ]
   refine runC_at 17 (v:=?_) (by rfl) (by rfl) (by rfl) (by kernel_rfl) (by rfl) ?_ ?_
   rotate_left
   focus (intro w_ hw_;have g1_:=((hw_.block _ (lt_of_block HRY.out.blk) (by rintro (e | e);exact HBF.out e;have:=lt_of_block HRY.out.blk;omega)).trans HRY.out.blk);have g2_:=((hw_.block _ (lt_of_block HTY.out) (by rintro (e | e);have:=HF.out _ e;have:=HYS.out;omega;have:=HYS.out;omega)).trans HTY.out);have f1_:=(cell_at g1_ (run_at HSO.out).2.2.2.2.1).1;have f2_:=(cell_at g2_ (show (insRow x.1++[Value.int .i64 x.2])[9]? = some (.int .i64 x.2) from rfl)).1;go_simp;(try with_reducible rfl);done)
   (try dsimp only [Act.put])
   show runC _ _ _ 4 _ [18,19,20,21] _ _
   try simp only [List.setIfInBounds_toArray,List.set_cons_zero,List.set_cons_succ]
   refine runC_one 18 (by kernel_rfl) (by kernel_rfl) (by rfl) (by rfl) ?_
   obtain ⟨x2,h_⟩:∃ q,q=x1.alloc (.cells zeroSt.toArray 26):=⟨_,rfl⟩
   obtain ⟨g8,hg8⟩:∃ q,q=x1.heap.size:=⟨_,rfl⟩
   have hSx2:Chg (Over F Y.heap.size) Y x2:=by rw [h_];exact hSx1.alloc _
   have hMx2:=hMx1.keep (w':=x2) (fun q hq=>by rw [h_];exact heap_alloc_old _ _ (by have:=HF.out q hq;have:=HYS.out;have:=hSx1.size;omega))
   (try have HNB:=Lh (show ∀ q,Value.ownBlock vv=some q→q≠g8 from fun q hq e=>by have h1:=(own_ltB hOx1 q hq).1;rw [hg8] at e;omega))
   (try have hOx2:=(hOx1.alloc (.cells zeroSt.toArray 26)))
   (try rw [←h_] at hOx2)
   have hZx2:x2.heap[g8]? = some (.cells zeroSt.toArray 26 (0,0)):=by rw [h_,hg8];exact heap_alloc_new _ _
   have HG8:=Lh (show Y.heap.size≤g8 from by rw [hg8];exact hSx1.size)
   refine tdoes_op (w1:=x2) (v:=.pointer (some ⟨g8,0,none⟩)) (by rw [h_,hg8];exact exec_alloc rfl (alloc_st x1)) (sameS hSx2 ?_)
   (try dsimp only [Act.put])
   try simp only [List.setIfInBounds_toArray,List.set_cons_zero,List.set_cons_succ]
   clear h_ hg8
   show runC _ _ _ 3 _ [19,20,21] _ _
   refine runC_one 19 (by kernel_rfl) (by kernel_rfl) (by rfl) (by rfl) ?_
   obtain ⟨x3,h_⟩:∃ q,q=x2.setRow g8 (stRow r.st).toArray:=⟨_,rfl⟩
   have hSx3:Chg (Over F Y.heap.size) Y x3:=by rw [h_];exact hSx2.setRow (.inr HG8.out) _
   have hMx3:=hMx2.keep (w':=x3) (fun q hq=>by rw [h_];exact setRow_other _ _ _ _ (by have:=HF.out q hq;have:=HYS.out;have:=HG8.out;omega))
   have hOx3:=own_same (w':=x3) hOx2 (fun q hq=>by rw [h_];exact setRow_other _ _ _ _ (HNB.out q hq))
   have hIx3:x3.heap[g8]? = some (.cells (stRow r.st).toArray 26 (0,0)):=by rw [h_];exact setRow_heap _ _ _ _ _ _ hZx2
   refine tdoes_skip (w1:=x3) (by rw [h_];exact exec_store_row 26 _ _ rfl g8 _ rfl rfl 26 _ hZx2 (by rw [stRow_size HSR.out];exact infoSt) (by rw [stRow_size HSR.out];rfl) (stRow_one _)) (sameS hSx3 ?_)
   (try dsimp only [Act.put])
   try simp only [List.setIfInBounds_toArray,List.set_cons_zero,List.set_cons_succ]
   clear h_
   show runC _ _ _ 2 _ [20,21] _ _
   refine runC_at 20 (v:=?_) (by rfl) (by rfl) (by rfl) (by kernel_rfl) (by rfl) ?_ ?_
   rotate_left
   focus (intro w_ hw_;have g1_:=((hw_.block _ (lt_of_block HRY.out.blk) (by rintro (e | e);exact HBF.out e;have:=lt_of_block HRY.out.blk;omega)).trans HRY.out.blk);have g2_:=((hw_.block _ (lt_of_block HTY.out) (by rintro (e | e);have:=HF.out _ e;have:=HYS.out;omega;have:=HYS.out;omega)).trans HTY.out);have f1_:=(cell_at g1_ (run_at HSO.out).2.2.2.2.1).1;have f2_:=(cell_at g2_ (show (insRow x.1++[Value.int .i64 x.2])[9]? = some (.int .i64 x.2) from rfl)).1;go_simp;(try with_reducible rfl);done)
   (try dsimp only [Act.put])
   show runC _ _ _ 1 _ [21] _ _
   try simp only [List.setIfInBounds_toArray,List.set_cons_zero,List.set_cons_succ]
   refine runC_at 21 (v:=?_) (by rfl) (by rfl) (by rfl) (by kernel_rfl) (by rfl) ?_ ?_
   rotate_left
   focus (intro w_ hw_;have g1_:=((hw_.block _ (lt_of_block HRY.out.blk) (by rintro (e | e);exact HBF.out e;have:=lt_of_block HRY.out.blk;omega)).trans HRY.out.blk);have g2_:=((hw_.block _ (lt_of_block HTY.out) (by rintro (e | e);have:=HF.out _ e;have:=HYS.out;omega;have:=HYS.out;omega)).trans HTY.out);have f1_:=(cell_at g1_ (run_at HSO.out).2.2.2.2.1).1;have f2_:=(cell_at g2_ (show (insRow x.1++[Value.int .i64 x.2])[9]? = some (.int .i64 x.2) from rfl)).1;go_simp;(try with_reducible rfl);done)
   (try dsimp only [Act.put])
   show runC _ _ _ 0 _ [] _ _
   try simp only [List.setIfInBounds_toArray,List.set_cons_zero,List.set_cons_succ]
   refine runC_nil ?_
   have HRX:=Lh (HRY.out.chg hSx3 (by rintro (e | e);exact HBF.out e;have:=lt_of_block HRY.out.blk;omega) (by rintro (e | e);exact HGF.out e;have:=HLT.out;have:=HYS.out;omega))
   have HXM:=Lh hMx3
   have HXO:=Lh hOx3
   have HX8:=Lh hIx3
   have HXG:=Lh (show Chg (fun j=>j=b∨j=g∨F j) w x3 from (HGY.out.mono (fun q _ hq=>.inr (.inl hq))).trans' hSx3 (fun q hq e=>by rcases e with e | e;exact .inr (.inr e);have:=HYS.out;omega))
   have HWX:=Lh (show w.heap.size≤Y.heap.size from by have:=HYS.out;omega)
   clear hSx3 hMx3 hOx3 hIx3
   obtain ⟨x16_,x20_,x21_,x22_,x23_,x24_⟩:=HRX.out.cells
   have xz21_:=HRX.out.froz 21
   go_wp2
   go_ret2
   refine ⟨.slice none 0 0,rfl,HRX.out.setErr 11,HXM.out.keep (fun q hq=>Below.heap_setCell _ _ _ _ (fun e=>HBF.out (by have h9:q=b:=e;rw [←h9];exact hq))),HXG.out.setCell (p:=⟨b,21,none⟩) (.inl (.inl rfl)) _,?_⟩
   exact ⟨by simp,.inl ⟨rfl,rfl⟩⟩
 · obtain ⟨x4,h_⟩:∃ q,q=x0.alloc (.cells zeroSt.toArray 26):=⟨_,rfl⟩
   obtain ⟨g8,hg8⟩:∃ q,q=x0.heap.size:=⟨_,rfl⟩
   have hSx4:Chg (Over F Y.heap.size) Y x4:=by rw [h_];exact hSx0.alloc _
   have hMx4:=hMx0.keep (w':=x4) (fun q hq=>by rw [h_];exact heap_alloc_old _ _ (by have:=HF.out q hq;have:=HYS.out;have:=hSx0.size;omega))
   (try have HNB:=Lh (show ∀ q,Value.ownBlock vv=some q→q≠g8 from fun q hq e=>by have h1:=(own_ltB hOx0 q hq).1;rw [hg8] at e;omega))
   (try have hOx4:=(hOx0.alloc (.cells zeroSt.toArray 26)))
   (try rw [←h_] at hOx4)
   have hZx4:x4.heap[g8]? = some (.cells zeroSt.toArray 26 (0,0)):=by rw [h_,hg8];exact heap_alloc_new _ _
   have HG8:=Lh (show Y.heap.size≤g8 from by rw [hg8];exact hSx0.size)
   refine tdoes_op (w1:=x4) (v:=.pointer (some ⟨g8,0,none⟩)) (by rw [h_,hg8];exact exec_alloc rfl (alloc_st x0)) (sameS hSx4 ?_)
   (try dsimp only [Act.put])
   try simp only [List.setIfInBounds_toArray,List.set_cons_zero,List.set_cons_succ]
   clear h_ hg8
   show runC _ _ _ 8 _ [13,14,15,16,17,19,20,21] _ _
   refine runC_one 13 (by kernel_rfl) (by kernel_rfl) (by rfl) (by rfl) ?_
   refine tdoes_call (f:=?_) (args:=?_) (w1:=?_) ?_ ?_
   rotate_left 3
   focus (go_simp;refine ⟨⟨?_,?_⟩,?_⟩ <;> with_reducible rfl)
   refine (HDO.out x4 hMx4 (fun q hq=>by have:=HF.out q hq;have:=HYS.out;have:=hSx4.size;omega)).mono ?_
   rintro e_ x5 ⟨vv,rfl,hc_,hMx5,hOx5⟩
   have hSx5:=hSx4.trans' hc_ (fun q hq e=>by rcases e with e | e;exact .inl e;exact .inr (Nat.le_trans hSx4.size e))
   (try have hZx5:=(hc_.block _ (lt_of_block hZx4) (by rintro (e | e);have:=HF.out _ e;have:=HG8.out;have:=HYS.out;omega;have:=lt_of_block hZx4;omega)).trans hZx4)
   (try have HNB:=Lh (show ∀ q,Value.ownBlock vv=some q→q≠g8 from fun q hq e=>by have h1:=(own_ltB hOx5 q hq).2;have h2:=lt_of_block hZx4;omega))
   have hOx5:=own_base_le hOx5 hSx4.size
   clear hc_
   refine ⟨_,rfl,sameS hSx5 ?_⟩
   (try dsimp only [Act.put])
   try simp only [List.setIfInBounds_toArray,List.set_cons_zero,List.set_cons_succ]
   show runC _ _ _ 7 _ [14,15,16,17,19,20,21] _ _
   refine runC_at 14 (v:=?_) (by rfl) (by rfl) (by rfl) (by kernel_rfl) (by rfl) ?_ ?_
   rotate_left
   focus (intro w_ hw_;have g1_:=((hw_.block _ (lt_of_block HRY.out.blk) (by rintro (e | e);exact HBF.out e;have:=lt_of_block HRY.out.blk;omega)).trans HRY.out.blk);have g2_:=((hw_.block _ (lt_of_block HTY.out) (by rintro (e | e);have:=HF.out _ e;have:=HYS.out;omega;have:=HYS.out;omega)).trans HTY.out);have f1_:=(cell_at g1_ (run_at HSO.out).2.2.2.2.1).1;have f2_:=(cell_at g2_ (show (insRow x.1++[Value.int .i64 x.2])[9]? = some (.int .i64 x.2) from rfl)).1;go_simp;(try with_reducible rfl);done)
   (try dsimp only [Act.put])
   show runC _ _ _ 6 _ [15,16,17,19,20,21] _ _
   try simp only [List.setIfInBounds_toArray,List.set_cons_zero,List.set_cons_succ]
   refine runC_at 15 (v:=?_) (by rfl) (by rfl) (by rfl) (by kernel_rfl) (by rfl) ?_ ?_
   rotate_left
   focus (intro w_ hw_;have g1_:=((hw_.block _ (lt_of_block HRY.out.blk) (by rintro (e | e);exact HBF.out e;have:=lt_of_block HRY.out.blk;omega)).trans HRY.out.blk);have g2_:=((hw_.block _ (lt_of_block HTY.out) (by rintro (e | e);have:=HF.out _ e;have:=HYS.out;omega;have:=HYS.out;omega)).trans HTY.out);have f1_:=(cell_at g1_ (run_at HSO.out).2.2.2.2.1).1;have f2_:=(cell_at g2_ (show (insRow x.1++[Value.int .i64 x.2])[9]? = some (.int .i64 x.2) from rfl)).1;go_simp;(try with_reducible rfl);done)
   (try dsimp only [Act.put])
   show runC _ _ _ 5 _ [16,17,19,20,21] _ _
   try simp only [List.setIfInBounds_toArray,List.set_cons_zero,List.set_cons_succ]
   refine runC_at 16 (v:=?_) (by rfl) (by rfl) (by rfl) (by kernel_rfl) (by rfl) ?_ ?_
   rotate_left
   focus (intro w_ hw_;have g1_:=((hw_.block _ (lt_of_block HRY.out.blk) (by rintro (e | e);exact HBF.out e;have:=lt_of_block HRY.out.blk;omega)).trans HRY.out.blk);have g2_:=((hw_.block _ (lt_of_block HTY.out) (by rintro (e | e);have:=HF.out _ e;have:=HYS.out;omega;have:=HYS.out;omega)).trans HTY.out);have f1_:=(cell_at g1_ (run_at HSO.out).2.2.2.2.1).1;have f2_:=(cell_at g2_ (show (insRow x.1++[Value.int .i64 x.2])[9]? = some (.int .i64 x.2) from rfl)).1;go_simp;(try with_reducible rfl);done)
   (try dsimp only [Act.put])
   show runC _ _ _ 4 _ [17,19,20,21] _ _
   try simp only [List.setIfInBounds_toArray,List.set_cons_zero,List.set_cons_succ]
   refine runC_at 17 (v:=?_) (by rfl) (by rfl) (by rfl) (by kernel_rfl) (by rfl) ?_ ?_
   rotate_left
   focus (intro w_ hw_;have g1_:=((hw_.block _ (lt_of_block HRY.out.blk) (by rintro (e | e);exact HBF.out e;have:=lt_of_block HRY.out.blk;omega)).trans HRY.out.blk);have g2_:=((hw_.block _ (lt_of_block HTY.out) (by rintro (e | e);have:=HF.out _ e;have:=HYS.out;omega;have:=HYS.out;omega)).trans HTY.out);have f1_:=(cell_at g1_ (run_at HSO.out).2.2.2.2.1).1;have f2_:=(cell_at g2_ (show (insRow x.1++[Value.int .i64 x.2])[9]? = some (.int .i64 x.2) from rfl)).1;go_simp;(try with_reducible rfl);done)
   (try dsimp only [Act.put])
   show runC _ _ _ 3 _ [19,20,21] _ _
   try simp only [List.setIfInBounds_toArray,List.set_cons_zero,List.set_cons_succ]
   refine runC_one 19 (by kernel_rfl) (by kernel_rfl) (by rfl) (by rfl) ?_
   obtain ⟨x6,h_⟩:∃ q,q=x5.setRow g8 (stRow r.st).toArray:=⟨_,rfl⟩
   have hSx6:Chg (Over F Y.heap.size) Y x6:=by rw [h_];exact hSx5.setRow (.inr HG8.out) _
   have hMx6:=hMx5.keep (w':=x6) (fun q hq=>by rw [h_];exact setRow_other _ _ _ _ (by have:=HF.out q hq;have:=HYS.out;have:=HG8.out;omega))
   have hOx6:=own_same (w':=x6) hOx5 (fun q hq=>by rw [h_];exact setRow_other _ _ _ _ (HNB.out q hq))
   have hIx6:x6.heap[g8]? = some (.cells (stRow r.st).toArray 26 (0,0)):=by rw [h_];exact setRow_heap _ _ _ _ _ _ hZx5
   refine tdoes_skip (w1:=x6) (by rw [h_];exact exec_store_row 26 _ _ rfl g8 _ rfl rfl 26 _ hZx5 (by rw [stRow_size HSR.out];exact infoSt) (by rw [stRow_size HSR.out];rfl) (stRow_one _)) (sameS hSx6 ?_)
   (try dsimp only [Act.put])
   try simp only [List.setIfInBounds_toArray,List.set_cons_zero,List.set_cons_succ]
   clear h_
   show runC _ _ _ 2 _ [20,21] _ _
   refine runC_at 20 (v:=?_) (by rfl) (by rfl) (by rfl) (by kernel_rfl) (by rfl) ?_ ?_
   rotate_left
   focus (intro w_ hw_;have g1_:=((hw_.block _ (lt_of_block HRY.out.blk) (by rintro (e | e);exact HBF.out e;have:=lt_of_block HRY.out.blk;omega)).trans HRY.out.blk);have g2_:=((hw_.block _ (lt_of_block HTY.out) (by rintro (e | e);have:=HF.out _ e;have:=HYS.out;omega;have:=HYS.out;omega)).trans HTY.out);have f1_:=(cell_at g1_ (run_at HSO.out).2.2.2.2.1).1;have f2_:=(cell_at g2_ (show (insRow x.1++[Value.int .i64 x.2])[9]? = some (.int .i64 x.2) from rfl)).1;go_simp;(try with_reducible rfl);done)
   (try dsimp only [Act.put])
   show runC _ _ _ 1 _ [21] _ _
   try simp only [List.setIfInBounds_toArray,List.set_cons_zero,List.set_cons_succ]
   refine runC_at 21 (v:=?_) (by rfl) (by rfl) (by rfl) (by kernel_rfl) (by rfl) ?_ ?_
   rotate_left
   focus (intro w_ hw_;have g1_:=((hw_.block _ (lt_of_block HRY.out.blk) (by rintro (e | e);exact HBF.out e;have:=lt_of_block HRY.out.blk;omega)).trans HRY.out.blk);have g2_:=((hw_.block _ (lt_of_block HTY.out) (by rintro (e | e);have:=HF.out _ e;have:=HYS.out;omega;have:=HYS.out;omega)).trans HTY.out);have f1_:=(cell_at g1_ (run_at HSO.out).2.2.2.2.1).1;have f2_:=(cell_at g2_ (show (insRow x.1++[Value.int .i64 x.2])[9]? = some (.int .i64 x.2) from rfl)).1;go_simp;(try with_reducible rfl);done)
   (try dsimp only [Act.put])
   show runC _ _ _ 0 _ [] _ _
   try simp only [List.setIfInBounds_toArray,List.set_cons_zero,List.set_cons_succ]
   refine runC_nil ?_
   have HRX:=Lh (HRY.out.chg hSx6 (by rintro (e | e);exact HBF.out e;have:=lt_of_block HRY.out.blk;omega) (by rintro (e | e);exact HGF.out e;have:=HLT.out;have:=HYS.out;omega))
   have HXM:=Lh hMx6
   have HXO:=Lh hOx6
   have HX8:=Lh hIx6
   have HXG:=Lh (show Chg (fun j=>j=b∨j=g∨F j) w x6 from (HGY.out.mono (fun q _ hq=>.inr (.inl hq))).trans' hSx6 (fun q hq e=>by rcases e with e | e;exact .inr (.inr e);have:=HYS.out;omega))
   have HWX:=Lh (show w.heap.size≤Y.heap.size from by have:=HYS.out;omega)
   clear hSx6 hMx6 hOx6 hIx6
   obtain ⟨x16_,x20_,x21_,x22_,x23_,x24_⟩:=HRX.out.cells
   have xz21_:=HRX.out.froz 21
   go_wp2
   go_ret2
   refine ⟨.slice none 0 0,rfl,HRX.out.setErr 11,HXM.out.keep (fun q hq=>Below.heap_setCell _ _ _ _ (fun e=>HBF.out (by have h9:q=b:=e;rw [←h9];exact hq))),HXG.out.setCell (p:=⟨b,21,none⟩) (.inl (.inl rfl)) _,?_⟩
   exact ⟨by simp,.inl ⟨rfl,rfl⟩⟩
set_option maxHeartbeats 8000000 in
theorem next_ok {code:List UInt8} {m:Value} {b g k:Nat} {w:World} {s:St} {n fuel:Int} {F:Nat→Prop} {rs:List Reg} (h:RunAt code m b g k w s n 0) (hm:MemAt w F m rs) (hF:∀ q,F q→q < w.heap.size) (hbF:¬ F b) (hgF:¬ F g) (hpc:s.pc≠1) (hn:n≠fuel) {x:Ins×Nat} (hi:InsOk x.1) (hfe:Calls Tryz.prog 67 #[.pointer (some ⟨b,0,none⟩)] w (fun e w'=>e=.returned (.tuple #[fetV x,.bool true])∧RunAt code m b g (k+1) w' s n 0∧Chg (fun j=>j=g) w w')) (hn2:0≤n∧n < 2000000000) (r:StepR) (hr:r=stepF s x.1 x.2 rs) (hso:StOk r.st) (hcode:r.code=0):Calls Tryz.prog 41 #[.pointer (some ⟨b,0,none⟩),.int .i64 fuel] w (NextPost code m b g k w F r.st (n+1) 0 r.rs r.evs true):=by
 have HDO:=Lh (fun (w_:World) (hm_:MemAt w_ F m rs) (hF_:∀ q,F q→q < w_.heap.size)=>show Calls Tryz.prog 68 #[.agg (stRow s).toArray,.agg (insRow x.1).toArray,.int .i64 x.2,m] w_ (DoPost w_ F m r) from hr▸Do_any s x.1 x.2 m w_ F rs h.st hi hm_ hF_)
 have HSR:=Lh hso
 have dc:(r.code != 0)=false:=by rw [hcode];rfl
 clear hr hso hcode hi
 obtain ⟨c16_,c20_,c21_,c22_,c23_,c24_⟩:=h.cells
 have d1:((s.pc:Int) == 1)=false:=beq_eq_false_iff_ne.2 (by omega)
 have d2:(n == fuel)=false:=beq_eq_false_iff_ne.2 hn
 have HLT:=Lh (show b < w.heap.size∧g < w.heap.size from ⟨lt_of_block h.blk,by obtain ⟨c,D,_,h2,_⟩:=h.known;exact h2.lt⟩)
 have HM:=Lh hm
 have HF:=Lh hF
 have HBF:=Lh hbF
 have HGF:=Lh hgF
 have HFE:=Lh hfe
 have HNE:=Lh h.ne
 have HSO:=Lh h.st
 clear h hm hF hbF hgF hfe hpc hn
 go_enter Tryz.func41,Tryz.ntmps41
 go_wp2_with (first | ((with_reducible refine HFE.out.mono ?_);rintro e_ w1 ⟨rfl,hr1,hg1⟩;have HR1:=Lh hr1;have HG1:=Lh hg1;clear hr1 hg1) | (refine wpList_store_row rfl 129 _ _ rfl w1.heap.size (insRow x.1++[Value.int .i64 x.2]).toArray rfl rfl 129 _ (heap_alloc_new w1 _) (by kernel_rfl) (by rfl) (by kernel_rfl) ?_;generalize hY:World.setRow (w1.alloc (.cells #[.int .i64 0,.int .i64 0,.int .i64 0,.int .i64 0,.int .i64 0,.int .i64 0,.int .i64 0,.int .i64 0,.int .i64 0,.int .i64 0] 129)) w1.heap.size (insRow x.1++[Value.int .i64 x.2]).toArray=Y;have HTY:=Lh (show Y.heap[w1.heap.size]? = some (.cells (insRow x.1++[Value.int .i64 x.2]).toArray 129 (0,0)) from by rw [←hY];exact setRow_heap _ _ _ _ _ _ (heap_alloc_new w1 _));have hc1:Chg (fun j=>j=w1.heap.size) w1 Y:=(by rw [←hY];exact ((Chg.refl (fun j=>j=w1.heap.size) w1).alloc _).setRow (.inl rfl) _);have HS1:=Lh (HG1.out.size);have HRY:=Lh (HR1.out.chg hc1 (fun e=>by have h9:b=w1.heap.size:=e;have:=HLT.out;have:=HS1.out;omega) (fun e=>by have h9:g=w1.heap.size:=e;have:=HLT.out;have:=HS1.out;omega));have HGY:=Lh (show Chg (fun j=>j=g) w Y from HG1.out.trans' hc1 (fun q hq e=>by have h9:q=w1.heap.size:=e;have:=HS1.out;omega));have HMY:=Lh (HM.out.keep (HGY.out.same (fun q hq=>⟨HF.out q hq,fun e=>HGF.out (by have h9:q=g:=e;rw [←h9];exact hq)⟩)));clear hY hc1;obtain ⟨y16_,y20_,y21_,y22_,y23_,y24_⟩:=HRY.out.cells;have z20_:=HRY.out.froz 20;have z21_:=HRY.out.froz 21))
 have HYS:=Lh (show w1.heap.size < Y.heap.size∧w.heap.size≤w1.heap.size from ⟨lt_of_block HTY.out,HS1.out⟩)
 refine wp_region_grow (Chg (Over F Y.heap.size) Y) (by kernel_rfl) (by kernel_rfl) (Chg.refl _ Y).drew ?_
 have hSx0:=(Chg.refl (Over F Y.heap.size) Y).drew
 have hMx0:MemAt Y.drew F m rs:=HMY.out.keep (fun _ _=>rfl)
 obtain ⟨x0,hx0⟩:∃ x0,x0=Y.drew:=⟨_,rfl⟩
 rw [←hx0] at hSx0 hMx0 ⊢
 clear hx0
 show runC _ _ _ 22 _ [0,1,2,3,4,5,6,7,8,9,10,11,12,13,14,15,16,17,18,19,20,21] _ _
 refine runC_at 0 (v:=?_) (by rfl) (by rfl) (by rfl) (by kernel_rfl) (by rfl) ?_ ?_
 rotate_left
 focus (intro w_ hw_;have g1_:=((hw_.block _ (lt_of_block HRY.out.blk) (by rintro (e | e);exact HBF.out e;have:=lt_of_block HRY.out.blk;omega)).trans HRY.out.blk);have g2_:=((hw_.block _ (lt_of_block HTY.out) (by rintro (e | e);have:=HF.out _ e;have:=HYS.out;omega;have:=HYS.out;omega)).trans HTY.out);have f1_:=(cell_at g1_ (run_at HSO.out).2.2.2.2.1).1;have f2_:=(cell_at g2_ (show (insRow x.1++[Value.int .i64 x.2])[9]? = some (.int .i64 x.2) from rfl)).1;go_simp;(try with_reducible rfl);done)
 (try dsimp only [Act.put])
 show runC _ _ _ 21 _ [1,2,3,4,5,6,7,8,9,10,11,12,13,14,15,16,17,18,19,20,21] _ _
 try simp only [List.setIfInBounds_toArray,List.set_cons_zero,List.set_cons_succ]
 refine runC_at 1 (v:=?_) (by rfl) (by rfl) (by rfl) (by kernel_rfl) (by rfl) ?_ ?_
 rotate_left
 focus (intro w_ hw_;have g1_:=((hw_.block _ (lt_of_block HRY.out.blk) (by rintro (e | e);exact HBF.out e;have:=lt_of_block HRY.out.blk;omega)).trans HRY.out.blk);have g2_:=((hw_.block _ (lt_of_block HTY.out) (by rintro (e | e);have:=HF.out _ e;have:=HYS.out;omega;have:=HYS.out;omega)).trans HTY.out);have f1_:=(cell_at g1_ (run_at HSO.out).2.2.2.2.1).1;have f2_:=(cell_at g2_ (show (insRow x.1++[Value.int .i64 x.2])[9]? = some (.int .i64 x.2) from rfl)).1;go_simp;(try with_reducible rfl);done)
 (try dsimp only [Act.put])
 show runC _ _ _ 20 _ [2,3,4,5,6,7,8,9,10,11,12,13,14,15,16,17,18,19,20,21] _ _
 try simp only [List.setIfInBounds_toArray,List.set_cons_zero,List.set_cons_succ]
 refine runC_at 2 (v:=?_) (by rfl) (by rfl) (by rfl) (by kernel_rfl) (by rfl) ?_ ?_
 rotate_left
 focus (intro w_ hw_;have g1_:=((hw_.block _ (lt_of_block HRY.out.blk) (by rintro (e | e);exact HBF.out e;have:=lt_of_block HRY.out.blk;omega)).trans HRY.out.blk);have g2_:=((hw_.block _ (lt_of_block HTY.out) (by rintro (e | e);have:=HF.out _ e;have:=HYS.out;omega;have:=HYS.out;omega)).trans HTY.out);have f1_:=(cell_at g1_ (run_at HSO.out).2.2.2.2.1).1;have f2_:=(cell_at g2_ (show (insRow x.1++[Value.int .i64 x.2])[9]? = some (.int .i64 x.2) from rfl)).1;go_simp;(try with_reducible rfl);done)
 (try dsimp only [Act.put])
 show runC _ _ _ 19 _ [3,4,5,6,7,8,9,10,11,12,13,14,15,16,17,18,19,20,21] _ _
 try simp only [List.setIfInBounds_toArray,List.set_cons_zero,List.set_cons_succ]
 refine runC_at 3 (v:=?_) (by rfl) (by rfl) (by rfl) (by kernel_rfl) (by rfl) ?_ ?_
 rotate_left
 focus (intro w_ hw_;have g1_:=((hw_.block _ (lt_of_block HRY.out.blk) (by rintro (e | e);exact HBF.out e;have:=lt_of_block HRY.out.blk;omega)).trans HRY.out.blk);have g2_:=((hw_.block _ (lt_of_block HTY.out) (by rintro (e | e);have:=HF.out _ e;have:=HYS.out;omega;have:=HYS.out;omega)).trans HTY.out);have f1_:=(cell_at g1_ (run_at HSO.out).2.2.2.2.1).1;have f2_:=(cell_at g2_ (show (insRow x.1++[Value.int .i64 x.2])[9]? = some (.int .i64 x.2) from rfl)).1;go_simp;(try with_reducible rfl);done)
 (try dsimp only [Act.put])
 show runC _ _ _ 18 _ [4,5,6,7,8,9,10,11,12,13,14,15,16,17,18,19,20,21] _ _
 try simp only [List.setIfInBounds_toArray,List.set_cons_zero,List.set_cons_succ]
 refine runC_at 4 (v:=.agg (stRow s).toArray) (by rfl) (by rfl) (by rfl) (by kernel_rfl) (by rfl) (fun w_ hw_=>exec_load 26 _ rfl ⟨b,0,none⟩ rfl _ _ Tryz.underlying26 rfl (by show _=some (stRow s).toArray.size;rw [stRow_size HSO.out];exact infoSt) (fun j v hv=>by rw [add_plain,Nat.zero_add];exact (cell_at ((hw_.block _ (lt_of_block HRY.out.blk) (by rintro (e | e);exact HBF.out e;have:=lt_of_block HRY.out.blk;omega)).trans HRY.out.blk) (by unfold runRow;rw [List.getElem?_append_left (List.getElem?_eq_some_iff.1 hv).1];exact hv)).1)) ?_
 (try dsimp only [Act.put])
 show runC _ _ _ 17 _ [5,6,7,8,9,10,11,12,13,14,15,16,17,18,19,20,21] _ _
 try simp only [List.setIfInBounds_toArray,List.set_cons_zero,List.set_cons_succ]
 refine runC_at 5 (v:=?_) (by rfl) (by rfl) (by rfl) (by kernel_rfl) (by rfl) ?_ ?_
 rotate_left
 focus (intro w_ hw_;have g1_:=((hw_.block _ (lt_of_block HRY.out.blk) (by rintro (e | e);exact HBF.out e;have:=lt_of_block HRY.out.blk;omega)).trans HRY.out.blk);have g2_:=((hw_.block _ (lt_of_block HTY.out) (by rintro (e | e);have:=HF.out _ e;have:=HYS.out;omega;have:=HYS.out;omega)).trans HTY.out);have f1_:=(cell_at g1_ (run_at HSO.out).2.2.2.2.1).1;have f2_:=(cell_at g2_ (show (insRow x.1++[Value.int .i64 x.2])[9]? = some (.int .i64 x.2) from rfl)).1;go_simp;(try with_reducible rfl);done)
 (try dsimp only [Act.put])
 show runC _ _ _ 16 _ [6,7,8,9,10,11,12,13,14,15,16,17,18,19,20,21] _ _
 try simp only [List.setIfInBounds_toArray,List.set_cons_zero,List.set_cons_succ]
 refine runC_at 6 (v:=.agg (insRow x.1).toArray) (by rfl) (by rfl) (by rfl) (by kernel_rfl) (by rfl) (fun w_ hw_=>exec_load 40 _ rfl ⟨w1.heap.size,0,none⟩ rfl _ _ Tryz.underlying40 rfl (by kernel_rfl) (fun j v hv=>by rw [add_plain,Nat.zero_add];exact (cell_at ((hw_.block _ (lt_of_block HTY.out) (by rintro (e | e);have:=HF.out _ e;have:=HYS.out;omega;have:=HYS.out;omega)).trans HTY.out) (by rw [List.getElem?_append_left (List.getElem?_eq_some_iff.1 hv).1];exact hv)).1)) ?_
 (try dsimp only [Act.put])
 show runC _ _ _ 15 _ [7,8,9,10,11,12,13,14,15,16,17,18,19,20,21] _ _
 try simp only [List.setIfInBounds_toArray,List.set_cons_zero,List.set_cons_succ]
 refine runC_at 7 (v:=?_) (by rfl) (by rfl) (by rfl) (by kernel_rfl) (by rfl) ?_ ?_
 rotate_left
 focus (intro w_ hw_;have g1_:=((hw_.block _ (lt_of_block HRY.out.blk) (by rintro (e | e);exact HBF.out e;have:=lt_of_block HRY.out.blk;omega)).trans HRY.out.blk);have g2_:=((hw_.block _ (lt_of_block HTY.out) (by rintro (e | e);have:=HF.out _ e;have:=HYS.out;omega;have:=HYS.out;omega)).trans HTY.out);have f1_:=(cell_at g1_ (run_at HSO.out).2.2.2.2.1).1;have f2_:=(cell_at g2_ (show (insRow x.1++[Value.int .i64 x.2])[9]? = some (.int .i64 x.2) from rfl)).1;go_simp;(try with_reducible rfl);done)
 (try dsimp only [Act.put])
 show runC _ _ _ 14 _ [8,9,10,11,12,13,14,15,16,17,18,19,20,21] _ _
 try simp only [List.setIfInBounds_toArray,List.set_cons_zero,List.set_cons_succ]
 refine runC_at 8 (v:=?_) (by rfl) (by rfl) (by rfl) (by kernel_rfl) (by rfl) ?_ ?_
 rotate_left
 focus (intro w_ hw_;have g1_:=((hw_.block _ (lt_of_block HRY.out.blk) (by rintro (e | e);exact HBF.out e;have:=lt_of_block HRY.out.blk;omega)).trans HRY.out.blk);have g2_:=((hw_.block _ (lt_of_block HTY.out) (by rintro (e | e);have:=HF.out _ e;have:=HYS.out;omega;have:=HYS.out;omega)).trans HTY.out);have f1_:=(cell_at g1_ (run_at HSO.out).2.2.2.2.1).1;have f2_:=(cell_at g2_ (show (insRow x.1++[Value.int .i64 x.2])[9]? = some (.int .i64 x.2) from rfl)).1;go_simp;(try with_reducible rfl);done)
 (try dsimp only [Act.put])
 show runC _ _ _ 13 _ [9,10,11,12,13,14,15,16,17,18,19,20,21] _ _
 try simp only [List.setIfInBounds_toArray,List.set_cons_zero,List.set_cons_succ]
 refine runC_at 9 (v:=?_) (by rfl) (by rfl) (by rfl) (by kernel_rfl) (by rfl) ?_ ?_
 rotate_left
 focus (intro w_ hw_;have g1_:=((hw_.block _ (lt_of_block HRY.out.blk) (by rintro (e | e);exact HBF.out e;have:=lt_of_block HRY.out.blk;omega)).trans HRY.out.blk);have g2_:=((hw_.block _ (lt_of_block HTY.out) (by rintro (e | e);have:=HF.out _ e;have:=HYS.out;omega;have:=HYS.out;omega)).trans HTY.out);have f1_:=(cell_at g1_ (run_at HSO.out).2.2.2.2.1).1;have f2_:=(cell_at g2_ (show (insRow x.1++[Value.int .i64 x.2])[9]? = some (.int .i64 x.2) from rfl)).1;go_simp;(try with_reducible rfl);done)
 (try dsimp only [Act.put])
 show runC _ _ _ 12 _ [10,11,12,13,14,15,16,17,18,19,20,21] _ _
 try simp only [List.setIfInBounds_toArray,List.set_cons_zero,List.set_cons_succ]
 refine runC_at 10 (v:=?_) (by rfl) (by rfl) (by rfl) (by kernel_rfl) (by rfl) ?_ ?_
 rotate_left
 focus (intro w_ hw_;have g1_:=((hw_.block _ (lt_of_block HRY.out.blk) (by rintro (e | e);exact HBF.out e;have:=lt_of_block HRY.out.blk;omega)).trans HRY.out.blk);have g2_:=((hw_.block _ (lt_of_block HTY.out) (by rintro (e | e);have:=HF.out _ e;have:=HYS.out;omega;have:=HYS.out;omega)).trans HTY.out);have f1_:=(cell_at g1_ (run_at HSO.out).2.2.2.2.1).1;have f2_:=(cell_at g2_ (show (insRow x.1++[Value.int .i64 x.2])[9]? = some (.int .i64 x.2) from rfl)).1;go_simp;(try with_reducible rfl);done)
 (try dsimp only [Act.put])
 show runC _ _ _ 11 _ [11,12,13,14,15,16,17,18,19,20,21] _ _
 try simp only [List.setIfInBounds_toArray,List.set_cons_zero,List.set_cons_succ]
 refine runC_at 11 (v:=?_) (by rfl) (by rfl) (by rfl) (by kernel_rfl) (by rfl) ?_ ?_
 rotate_left
 focus (intro w_ hw_;have g1_:=((hw_.block _ (lt_of_block HRY.out.blk) (by rintro (e | e);exact HBF.out e;have:=lt_of_block HRY.out.blk;omega)).trans HRY.out.blk);have g2_:=((hw_.block _ (lt_of_block HTY.out) (by rintro (e | e);have:=HF.out _ e;have:=HYS.out;omega;have:=HYS.out;omega)).trans HTY.out);have f1_:=(cell_at g1_ (run_at HSO.out).2.2.2.2.1).1;have f2_:=(cell_at g2_ (show (insRow x.1++[Value.int .i64 x.2])[9]? = some (.int .i64 x.2) from rfl)).1;go_simp;(try with_reducible rfl);done)
 (try dsimp only [Act.put])
 show runC _ _ _ 10 _ [12,13,14,15,16,17,18,19,20,21] _ _
 try simp only [List.setIfInBounds_toArray,List.set_cons_zero,List.set_cons_succ]
 refine runC_at 12 (v:=?_) (by rfl) (by rfl) (by rfl) (by kernel_rfl) (by rfl) ?_ ?_
 rotate_left
 focus (intro w_ hw_;have g1_:=((hw_.block _ (lt_of_block HRY.out.blk) (by rintro (e | e);exact HBF.out e;have:=lt_of_block HRY.out.blk;omega)).trans HRY.out.blk);have g2_:=((hw_.block _ (lt_of_block HTY.out) (by rintro (e | e);have:=HF.out _ e;have:=HYS.out;omega;have:=HYS.out;omega)).trans HTY.out);have f1_:=(cell_at g1_ (run_at HSO.out).2.2.2.2.1).1;have f2_:=(cell_at g2_ (show (insRow x.1++[Value.int .i64 x.2])[9]? = some (.int .i64 x.2) from rfl)).1;go_simp;(try with_reducible rfl);done)
 (try dsimp only [Act.put])
 show runC _ _ _ 9 _ [13,14,15,16,17,18,19,20,21] _ _
 try simp only [List.setIfInBounds_toArray,List.set_cons_zero,List.set_cons_succ]
 refine runC_two 13 18 (by kernel_rfl) (by kernel_rfl) (by rfl) (by rfl) (by rfl) (by rfl) ?_ ?_
 · refine tdoes_call (f:=?_) (args:=?_) (w1:=?_) ?_ ?_
   rotate_left 3
   focus (go_simp;refine ⟨⟨?_,?_⟩,?_⟩ <;> with_reducible rfl)
   refine (HDO.out x0 hMx0 (fun q hq=>by have:=HF.out q hq;have:=HYS.out;have:=hSx0.size;omega)).mono ?_
   rintro e_ x1 ⟨vv,rfl,hc_,hMx1,hOx1⟩
   have hSx1:=hSx0.trans' hc_ (fun q hq e=>by rcases e with e | e;exact .inl e;exact .inr (Nat.le_trans hSx0.size e))
   (try have hZx1:=(hc_.block _ (lt_of_block hZx0) (by rintro (e | e);have:=HF.out _ e;have:=HG8.out;have:=HYS.out;omega;have:=lt_of_block hZx0;omega)).trans hZx0)
   (try have HNB:=Lh (show ∀ q,Value.ownBlock vv=some q→q≠g8 from fun q hq e=>by have h1:=(own_ltB hOx1 q hq).2;have h2:=lt_of_block hZx0;omega))
   have hOx1:=own_base_le hOx1 hSx0.size
   clear hc_
   refine ⟨_,rfl,sameS hSx1 ?_⟩
   (try dsimp only [Act.put])
   try simp only [List.setIfInBounds_toArray,List.set_cons_zero,List.set_cons_succ]
   show runC _ _ _ 8 _ [14,15,16,17,18,19,20,21] _ _
   refine runC_at 14 (v:=?_) (by rfl) (by rfl) (by rfl) (by kernel_rfl) (by rfl) ?_ ?_
   rotate_left
   focus (intro w_ hw_;have g1_:=((hw_.block _ (lt_of_block HRY.out.blk) (by rintro (e | e);exact HBF.out e;have:=lt_of_block HRY.out.blk;omega)).trans HRY.out.blk);have g2_:=((hw_.block _ (lt_of_block HTY.out) (by rintro (e | e);have:=HF.out _ e;have:=HYS.out;omega;have:=HYS.out;omega)).trans HTY.out);have f1_:=(cell_at g1_ (run_at HSO.out).2.2.2.2.1).1;have f2_:=(cell_at g2_ (show (insRow x.1++[Value.int .i64 x.2])[9]? = some (.int .i64 x.2) from rfl)).1;go_simp;(try with_reducible rfl);done)
   (try dsimp only [Act.put])
   show runC _ _ _ 7 _ [15,16,17,18,19,20,21] _ _
   try simp only [List.setIfInBounds_toArray,List.set_cons_zero,List.set_cons_succ]
   refine runC_at 15 (v:=?_) (by rfl) (by rfl) (by rfl) (by kernel_rfl) (by rfl) ?_ ?_
   rotate_left
   focus (intro w_ hw_;have g1_:=((hw_.block _ (lt_of_block HRY.out.blk) (by rintro (e | e);exact HBF.out e;have:=lt_of_block HRY.out.blk;omega)).trans HRY.out.blk);have g2_:=((hw_.block _ (lt_of_block HTY.out) (by rintro (e | e);have:=HF.out _ e;have:=HYS.out;omega;have:=HYS.out;omega)).trans HTY.out);have f1_:=(cell_at g1_ (run_at HSO.out).2.2.2.2.1).1;have f2_:=(cell_at g2_ (show (insRow x.1++[Value.int .i64 x.2])[9]? = some (.int .i64 x.2) from rfl)).1;go_simp;(try with_reducible rfl);done)
   (try dsimp only [Act.put])
   show runC _ _ _ 6 _ [16,17,18,19,20,21] _ _
   try simp only [List.setIfInBounds_toArray,List.set_cons_zero,List.set_cons_succ]
   refine runC_at 16 (v:=?_) (by rfl) (by rfl) (by rfl) (by kernel_rfl) (by rfl) ?_ ?_
   rotate_left
   focus (intro w_ hw_;have g1_:=((hw_.block _ (lt_of_block HRY.out.blk) (by rintro (e | e);exact HBF.out e;have:=lt_of_block HRY.out.blk;omega)).trans HRY.out.blk);have g2_:=((hw_.block _ (lt_of_block HTY.out) (by rintro (e | e);have:=HF.out _ e;have:=HYS.out;omega;have:=HYS.out;omega)).trans HTY.out);have f1_:=(cell_at g1_ (run_at HSO.out).2.2.2.2.1).1;have f2_:=(cell_at g2_ (show (insRow x.1++[Value.int .i64 x.2])[9]? = some (.int .i64 x.2) from rfl)).1;go_simp;(try with_reducible rfl);done)
   (try dsimp only [Act.put])
   show runC _ _ _ 5 _ [17,18,19,20,21] _ _
   try simp only [List.setIfInBounds_toArray,List.set_cons_zero,List.set_cons_succ]
   refine runC_at 17 (v:=?_) (by rfl) (by rfl) (by rfl) (by kernel_rfl) (by rfl) ?_ ?_
   rotate_left
   focus (intro w_ hw_;have g1_:=((hw_.block _ (lt_of_block HRY.out.blk) (by rintro (e | e);exact HBF.out e;have:=lt_of_block HRY.out.blk;omega)).trans HRY.out.blk);have g2_:=((hw_.block _ (lt_of_block HTY.out) (by rintro (e | e);have:=HF.out _ e;have:=HYS.out;omega;have:=HYS.out;omega)).trans HTY.out);have f1_:=(cell_at g1_ (run_at HSO.out).2.2.2.2.1).1;have f2_:=(cell_at g2_ (show (insRow x.1++[Value.int .i64 x.2])[9]? = some (.int .i64 x.2) from rfl)).1;go_simp;(try with_reducible rfl);done)
   (try dsimp only [Act.put])
   show runC _ _ _ 4 _ [18,19,20,21] _ _
   try simp only [List.setIfInBounds_toArray,List.set_cons_zero,List.set_cons_succ]
   refine runC_one 18 (by kernel_rfl) (by kernel_rfl) (by rfl) (by rfl) ?_
   obtain ⟨x2,h_⟩:∃ q,q=x1.alloc (.cells zeroSt.toArray 26):=⟨_,rfl⟩
   obtain ⟨g8,hg8⟩:∃ q,q=x1.heap.size:=⟨_,rfl⟩
   have hSx2:Chg (Over F Y.heap.size) Y x2:=by rw [h_];exact hSx1.alloc _
   have hMx2:=hMx1.keep (w':=x2) (fun q hq=>by rw [h_];exact heap_alloc_old _ _ (by have:=HF.out q hq;have:=HYS.out;have:=hSx1.size;omega))
   (try have HNB:=Lh (show ∀ q,Value.ownBlock vv=some q→q≠g8 from fun q hq e=>by have h1:=(own_ltB hOx1 q hq).1;rw [hg8] at e;omega))
   (try have hOx2:=(hOx1.alloc (.cells zeroSt.toArray 26)))
   (try rw [←h_] at hOx2)
   have hZx2:x2.heap[g8]? = some (.cells zeroSt.toArray 26 (0,0)):=by rw [h_,hg8];exact heap_alloc_new _ _
   have HG8:=Lh (show Y.heap.size≤g8 from by rw [hg8];exact hSx1.size)
   refine tdoes_op (w1:=x2) (v:=.pointer (some ⟨g8,0,none⟩)) (by rw [h_,hg8];exact exec_alloc rfl (alloc_st x1)) (sameS hSx2 ?_)
   (try dsimp only [Act.put])
   try simp only [List.setIfInBounds_toArray,List.set_cons_zero,List.set_cons_succ]
   clear h_ hg8
   show runC _ _ _ 3 _ [19,20,21] _ _
   refine runC_one 19 (by kernel_rfl) (by kernel_rfl) (by rfl) (by rfl) ?_
   obtain ⟨x3,h_⟩:∃ q,q=x2.setRow g8 (stRow r.st).toArray:=⟨_,rfl⟩
   have hSx3:Chg (Over F Y.heap.size) Y x3:=by rw [h_];exact hSx2.setRow (.inr HG8.out) _
   have hMx3:=hMx2.keep (w':=x3) (fun q hq=>by rw [h_];exact setRow_other _ _ _ _ (by have:=HF.out q hq;have:=HYS.out;have:=HG8.out;omega))
   have hOx3:=own_same (w':=x3) hOx2 (fun q hq=>by rw [h_];exact setRow_other _ _ _ _ (HNB.out q hq))
   have hIx3:x3.heap[g8]? = some (.cells (stRow r.st).toArray 26 (0,0)):=by rw [h_];exact setRow_heap _ _ _ _ _ _ hZx2
   refine tdoes_skip (w1:=x3) (by rw [h_];exact exec_store_row 26 _ _ rfl g8 _ rfl rfl 26 _ hZx2 (by rw [stRow_size HSR.out];exact infoSt) (by rw [stRow_size HSR.out];rfl) (stRow_one _)) (sameS hSx3 ?_)
   (try dsimp only [Act.put])
   try simp only [List.setIfInBounds_toArray,List.set_cons_zero,List.set_cons_succ]
   clear h_
   show runC _ _ _ 2 _ [20,21] _ _
   refine runC_at 20 (v:=?_) (by rfl) (by rfl) (by rfl) (by kernel_rfl) (by rfl) ?_ ?_
   rotate_left
   focus (intro w_ hw_;have g1_:=((hw_.block _ (lt_of_block HRY.out.blk) (by rintro (e | e);exact HBF.out e;have:=lt_of_block HRY.out.blk;omega)).trans HRY.out.blk);have g2_:=((hw_.block _ (lt_of_block HTY.out) (by rintro (e | e);have:=HF.out _ e;have:=HYS.out;omega;have:=HYS.out;omega)).trans HTY.out);have f1_:=(cell_at g1_ (run_at HSO.out).2.2.2.2.1).1;have f2_:=(cell_at g2_ (show (insRow x.1++[Value.int .i64 x.2])[9]? = some (.int .i64 x.2) from rfl)).1;go_simp;(try with_reducible rfl);done)
   (try dsimp only [Act.put])
   show runC _ _ _ 1 _ [21] _ _
   try simp only [List.setIfInBounds_toArray,List.set_cons_zero,List.set_cons_succ]
   refine runC_at 21 (v:=?_) (by rfl) (by rfl) (by rfl) (by kernel_rfl) (by rfl) ?_ ?_
   rotate_left
   focus (intro w_ hw_;have g1_:=((hw_.block _ (lt_of_block HRY.out.blk) (by rintro (e | e);exact HBF.out e;have:=lt_of_block HRY.out.blk;omega)).trans HRY.out.blk);have g2_:=((hw_.block _ (lt_of_block HTY.out) (by rintro (e | e);have:=HF.out _ e;have:=HYS.out;omega;have:=HYS.out;omega)).trans HTY.out);have f1_:=(cell_at g1_ (run_at HSO.out).2.2.2.2.1).1;have f2_:=(cell_at g2_ (show (insRow x.1++[Value.int .i64 x.2])[9]? = some (.int .i64 x.2) from rfl)).1;go_simp;(try with_reducible rfl);done)
   (try dsimp only [Act.put])
   show runC _ _ _ 0 _ [] _ _
   try simp only [List.setIfInBounds_toArray,List.set_cons_zero,List.set_cons_succ]
   refine runC_nil ?_
   have HRX:=Lh (HRY.out.chg hSx3 (by rintro (e | e);exact HBF.out e;have:=lt_of_block HRY.out.blk;omega) (by rintro (e | e);exact HGF.out e;have:=HLT.out;have:=HYS.out;omega))
   have HXM:=Lh hMx3
   have HXO:=Lh hOx3
   have HX8:=Lh hIx3
   have HXG:=Lh (show Chg (fun j=>j=b∨j=g∨F j) w x3 from (HGY.out.mono (fun q _ hq=>.inr (.inl hq))).trans' hSx3 (fun q hq e=>by rcases e with e | e;exact .inr (.inr e);have:=HYS.out;omega))
   have HWX:=Lh (show w.heap.size≤Y.heap.size from by have:=HYS.out;omega)
   clear hSx3 hMx3 hOx3 hIx3
   obtain ⟨Z,hZ_⟩:∃ q,q=x3.setRow b (runRow r.st n 0 (strB code) m g).toArray:=⟨_,rfl⟩
   have HZ:=Lh hZ_
   have HRZ:=Lh (show RunAt code m b g (k+1) Z r.st n 0 from by rw [hZ_];exact HRX.out.setSt HSR.out)
   clear hZ_
   obtain ⟨q16_,q20_,q21_,q22_,q23_,q24_⟩:=HRZ.out.cells
   have qz20_:=HRZ.out.froz 20
   go_wp2_with (first | (refine wpList_load_row rfl 26 _ rfl g8 rfl 26 _ (0,0) _ HX8.out Tryz.underlying26 rfl (by rw [stRow_size HSR.out];exact infoSt) ?_) | (refine wpList_skipJ rfl (w':=Z) ((exec_storeRow 26 _ _ rfl b 0 (stRow r.st).toArray rfl rfl 68 _ HRX.out.blk (by rw [stRow_size HSR.out];exact infoSt) (by rw [stRow_size HSR.out];simp [runRow,stRow_len HSO.out]) (fun v hv=>st_ones _ v hv)).trans (by rw [HZ.out,run_putSt HSO.out HSR.out])) ?_))
   trace_state
   go_ret2
   refine ⟨vv,rfl,HRZ.out.setN (n+1),HXM.out.keep (fun q hq=>(Below.heap_setCell _ _ _ _ (fun e=>HBF.out (by have h9:q=b:=e;rw [←h9];exact hq))).trans (by rw [HZ.out];exact setRow_other _ _ _ _ (fun e=>HBF.out (by rw [←e];exact hq)))),?_,?_⟩
   · rw [HZ.out];exact (HXG.out.setRow (.inl (.inl rfl)) _).setCell (p:=⟨b,20,none⟩) (.inl (.inl rfl)) _
   · refine own_base_le (own_same HXO.out (fun q hq=>?_)) HWX.out
     have h1:=(own_ltB HXO.out q hq).2
     have h2:=lt_of_block HRY.out.blk
     rw [HZ.out]
     exact (Below.heap_setCell _ _ _ _ (fun e=>by have h9:q=b:=e;omega)).trans (setRow_other _ _ _ _ (by omega))
 · obtain ⟨x4,h_⟩:∃ q,q=x0.alloc (.cells zeroSt.toArray 26):=⟨_,rfl⟩
   obtain ⟨g8,hg8⟩:∃ q,q=x0.heap.size:=⟨_,rfl⟩
   have hSx4:Chg (Over F Y.heap.size) Y x4:=by rw [h_];exact hSx0.alloc _
   have hMx4:=hMx0.keep (w':=x4) (fun q hq=>by rw [h_];exact heap_alloc_old _ _ (by have:=HF.out q hq;have:=HYS.out;have:=hSx0.size;omega))
   (try have HNB:=Lh (show ∀ q,Value.ownBlock vv=some q→q≠g8 from fun q hq e=>by have h1:=(own_ltB hOx0 q hq).1;rw [hg8] at e;omega))
   (try have hOx4:=(hOx0.alloc (.cells zeroSt.toArray 26)))
   (try rw [←h_] at hOx4)
   have hZx4:x4.heap[g8]? = some (.cells zeroSt.toArray 26 (0,0)):=by rw [h_,hg8];exact heap_alloc_new _ _
   have HG8:=Lh (show Y.heap.size≤g8 from by rw [hg8];exact hSx0.size)
   refine tdoes_op (w1:=x4) (v:=.pointer (some ⟨g8,0,none⟩)) (by rw [h_,hg8];exact exec_alloc rfl (alloc_st x0)) (sameS hSx4 ?_)
   (try dsimp only [Act.put])
   try simp only [List.setIfInBounds_toArray,List.set_cons_zero,List.set_cons_succ]
   clear h_ hg8
   show runC _ _ _ 8 _ [13,14,15,16,17,19,20,21] _ _
   refine runC_one 13 (by kernel_rfl) (by kernel_rfl) (by rfl) (by rfl) ?_
   refine tdoes_call (f:=?_) (args:=?_) (w1:=?_) ?_ ?_
   rotate_left 3
   focus (go_simp;refine ⟨⟨?_,?_⟩,?_⟩ <;> with_reducible rfl)
   refine (HDO.out x4 hMx4 (fun q hq=>by have:=HF.out q hq;have:=HYS.out;have:=hSx4.size;omega)).mono ?_
   rintro e_ x5 ⟨vv,rfl,hc_,hMx5,hOx5⟩
   have hSx5:=hSx4.trans' hc_ (fun q hq e=>by rcases e with e | e;exact .inl e;exact .inr (Nat.le_trans hSx4.size e))
   (try have hZx5:=(hc_.block _ (lt_of_block hZx4) (by rintro (e | e);have:=HF.out _ e;have:=HG8.out;have:=HYS.out;omega;have:=lt_of_block hZx4;omega)).trans hZx4)
   (try have HNB:=Lh (show ∀ q,Value.ownBlock vv=some q→q≠g8 from fun q hq e=>by have h1:=(own_ltB hOx5 q hq).2;have h2:=lt_of_block hZx4;omega))
   have hOx5:=own_base_le hOx5 hSx4.size
   clear hc_
   refine ⟨_,rfl,sameS hSx5 ?_⟩
   (try dsimp only [Act.put])
   try simp only [List.setIfInBounds_toArray,List.set_cons_zero,List.set_cons_succ]
   show runC _ _ _ 7 _ [14,15,16,17,19,20,21] _ _
   refine runC_at 14 (v:=?_) (by rfl) (by rfl) (by rfl) (by kernel_rfl) (by rfl) ?_ ?_
   rotate_left
   focus (intro w_ hw_;have g1_:=((hw_.block _ (lt_of_block HRY.out.blk) (by rintro (e | e);exact HBF.out e;have:=lt_of_block HRY.out.blk;omega)).trans HRY.out.blk);have g2_:=((hw_.block _ (lt_of_block HTY.out) (by rintro (e | e);have:=HF.out _ e;have:=HYS.out;omega;have:=HYS.out;omega)).trans HTY.out);have f1_:=(cell_at g1_ (run_at HSO.out).2.2.2.2.1).1;have f2_:=(cell_at g2_ (show (insRow x.1++[Value.int .i64 x.2])[9]? = some (.int .i64 x.2) from rfl)).1;go_simp;(try with_reducible rfl);done)
   (try dsimp only [Act.put])
   show runC _ _ _ 6 _ [15,16,17,19,20,21] _ _
   try simp only [List.setIfInBounds_toArray,List.set_cons_zero,List.set_cons_succ]
   refine runC_at 15 (v:=?_) (by rfl) (by rfl) (by rfl) (by kernel_rfl) (by rfl) ?_ ?_
   rotate_left
   focus (intro w_ hw_;have g1_:=((hw_.block _ (lt_of_block HRY.out.blk) (by rintro (e | e);exact HBF.out e;have:=lt_of_block HRY.out.blk;omega)).trans HRY.out.blk);have g2_:=((hw_.block _ (lt_of_block HTY.out) (by rintro (e | e);have:=HF.out _ e;have:=HYS.out;omega;have:=HYS.out;omega)).trans HTY.out);have f1_:=(cell_at g1_ (run_at HSO.out).2.2.2.2.1).1;have f2_:=(cell_at g2_ (show (insRow x.1++[Value.int .i64 x.2])[9]? = some (.int .i64 x.2) from rfl)).1;go_simp;(try with_reducible rfl);done)
   (try dsimp only [Act.put])
   show runC _ _ _ 5 _ [16,17,19,20,21] _ _
   try simp only [List.setIfInBounds_toArray,List.set_cons_zero,List.set_cons_succ]
   refine runC_at 16 (v:=?_) (by rfl) (by rfl) (by rfl) (by kernel_rfl) (by rfl) ?_ ?_
   rotate_left
   focus (intro w_ hw_;have g1_:=((hw_.block _ (lt_of_block HRY.out.blk) (by rintro (e | e);exact HBF.out e;have:=lt_of_block HRY.out.blk;omega)).trans HRY.out.blk);have g2_:=((hw_.block _ (lt_of_block HTY.out) (by rintro (e | e);have:=HF.out _ e;have:=HYS.out;omega;have:=HYS.out;omega)).trans HTY.out);have f1_:=(cell_at g1_ (run_at HSO.out).2.2.2.2.1).1;have f2_:=(cell_at g2_ (show (insRow x.1++[Value.int .i64 x.2])[9]? = some (.int .i64 x.2) from rfl)).1;go_simp;(try with_reducible rfl);done)
   (try dsimp only [Act.put])
   show runC _ _ _ 4 _ [17,19,20,21] _ _
   try simp only [List.setIfInBounds_toArray,List.set_cons_zero,List.set_cons_succ]
   refine runC_at 17 (v:=?_) (by rfl) (by rfl) (by rfl) (by kernel_rfl) (by rfl) ?_ ?_
   rotate_left
   focus (intro w_ hw_;have g1_:=((hw_.block _ (lt_of_block HRY.out.blk) (by rintro (e | e);exact HBF.out e;have:=lt_of_block HRY.out.blk;omega)).trans HRY.out.blk);have g2_:=((hw_.block _ (lt_of_block HTY.out) (by rintro (e | e);have:=HF.out _ e;have:=HYS.out;omega;have:=HYS.out;omega)).trans HTY.out);have f1_:=(cell_at g1_ (run_at HSO.out).2.2.2.2.1).1;have f2_:=(cell_at g2_ (show (insRow x.1++[Value.int .i64 x.2])[9]? = some (.int .i64 x.2) from rfl)).1;go_simp;(try with_reducible rfl);done)
   (try dsimp only [Act.put])
   show runC _ _ _ 3 _ [19,20,21] _ _
   try simp only [List.setIfInBounds_toArray,List.set_cons_zero,List.set_cons_succ]
   refine runC_one 19 (by kernel_rfl) (by kernel_rfl) (by rfl) (by rfl) ?_
   obtain ⟨x6,h_⟩:∃ q,q=x5.setRow g8 (stRow r.st).toArray:=⟨_,rfl⟩
   have hSx6:Chg (Over F Y.heap.size) Y x6:=by rw [h_];exact hSx5.setRow (.inr HG8.out) _
   have hMx6:=hMx5.keep (w':=x6) (fun q hq=>by rw [h_];exact setRow_other _ _ _ _ (by have:=HF.out q hq;have:=HYS.out;have:=HG8.out;omega))
   have hOx6:=own_same (w':=x6) hOx5 (fun q hq=>by rw [h_];exact setRow_other _ _ _ _ (HNB.out q hq))
   have hIx6:x6.heap[g8]? = some (.cells (stRow r.st).toArray 26 (0,0)):=by rw [h_];exact setRow_heap _ _ _ _ _ _ hZx5
   refine tdoes_skip (w1:=x6) (by rw [h_];exact exec_store_row 26 _ _ rfl g8 _ rfl rfl 26 _ hZx5 (by rw [stRow_size HSR.out];exact infoSt) (by rw [stRow_size HSR.out];rfl) (stRow_one _)) (sameS hSx6 ?_)
   (try dsimp only [Act.put])
   try simp only [List.setIfInBounds_toArray,List.set_cons_zero,List.set_cons_succ]
   clear h_
   show runC _ _ _ 2 _ [20,21] _ _
   refine runC_at 20 (v:=?_) (by rfl) (by rfl) (by rfl) (by kernel_rfl) (by rfl) ?_ ?_
   rotate_left
   focus (intro w_ hw_;have g1_:=((hw_.block _ (lt_of_block HRY.out.blk) (by rintro (e | e);exact HBF.out e;have:=lt_of_block HRY.out.blk;omega)).trans HRY.out.blk);have g2_:=((hw_.block _ (lt_of_block HTY.out) (by rintro (e | e);have:=HF.out _ e;have:=HYS.out;omega;have:=HYS.out;omega)).trans HTY.out);have f1_:=(cell_at g1_ (run_at HSO.out).2.2.2.2.1).1;have f2_:=(cell_at g2_ (show (insRow x.1++[Value.int .i64 x.2])[9]? = some (.int .i64 x.2) from rfl)).1;go_simp;(try with_reducible rfl);done)
   (try dsimp only [Act.put])
   show runC _ _ _ 1 _ [21] _ _
   try simp only [List.setIfInBounds_toArray,List.set_cons_zero,List.set_cons_succ]
   refine runC_at 21 (v:=?_) (by rfl) (by rfl) (by rfl) (by kernel_rfl) (by rfl) ?_ ?_
   rotate_left
   focus (intro w_ hw_;have g1_:=((hw_.block _ (lt_of_block HRY.out.blk) (by rintro (e | e);exact HBF.out e;have:=lt_of_block HRY.out.blk;omega)).trans HRY.out.blk);have g2_:=((hw_.block _ (lt_of_block HTY.out) (by rintro (e | e);have:=HF.out _ e;have:=HYS.out;omega;have:=HYS.out;omega)).trans HTY.out);have f1_:=(cell_at g1_ (run_at HSO.out).2.2.2.2.1).1;have f2_:=(cell_at g2_ (show (insRow x.1++[Value.int .i64 x.2])[9]? = some (.int .i64 x.2) from rfl)).1;go_simp;(try with_reducible rfl);done)
   (try dsimp only [Act.put])
   show runC _ _ _ 0 _ [] _ _
   try simp only [List.setIfInBounds_toArray,List.set_cons_zero,List.set_cons_succ]
   refine runC_nil ?_
   have HRX:=Lh (HRY.out.chg hSx6 (by rintro (e | e);exact HBF.out e;have:=lt_of_block HRY.out.blk;omega) (by rintro (e | e);exact HGF.out e;have:=HLT.out;have:=HYS.out;omega))
   have HXM:=Lh hMx6
   have HXO:=Lh hOx6
   have HX8:=Lh hIx6
   have HXG:=Lh (show Chg (fun j=>j=b∨j=g∨F j) w x6 from (HGY.out.mono (fun q _ hq=>.inr (.inl hq))).trans' hSx6 (fun q hq e=>by rcases e with e | e;exact .inr (.inr e);have:=HYS.out;omega))
   have HWX:=Lh (show w.heap.size≤Y.heap.size from by have:=HYS.out;omega)
   clear hSx6 hMx6 hOx6 hIx6
   obtain ⟨Z,hZ_⟩:∃ q,q=x6.setRow b (runRow r.st n 0 (strB code) m g).toArray:=⟨_,rfl⟩
   have HZ:=Lh hZ_
   have HRZ:=Lh (show RunAt code m b g (k+1) Z r.st n 0 from by rw [hZ_];exact HRX.out.setSt HSR.out)
   clear hZ_
   obtain ⟨q16_,q20_,q21_,q22_,q23_,q24_⟩:=HRZ.out.cells
   have qz20_:=HRZ.out.froz 20
   go_wp2_with (first | (refine wpList_load_row rfl 26 _ rfl g8 rfl 26 _ (0,0) _ HX8.out Tryz.underlying26 rfl (by rw [stRow_size HSR.out];exact infoSt) ?_) | (refine wpList_skipJ rfl (w':=Z) ((exec_storeRow 26 _ _ rfl b 0 (stRow r.st).toArray rfl rfl 68 _ HRX.out.blk (by rw [stRow_size HSR.out];exact infoSt) (by rw [stRow_size HSR.out];simp [runRow,stRow_len HSO.out]) (fun v hv=>st_ones _ v hv)).trans (by rw [HZ.out,run_putSt HSO.out HSR.out])) ?_))
   trace_state
   go_ret2
   refine ⟨vv,rfl,HRZ.out.setN (n+1),HXM.out.keep (fun q hq=>(Below.heap_setCell _ _ _ _ (fun e=>HBF.out (by have h9:q=b:=e;rw [←h9];exact hq))).trans (by rw [HZ.out];exact setRow_other _ _ _ _ (fun e=>HBF.out (by rw [←e];exact hq)))),?_,?_⟩
   · rw [HZ.out];exact (HXG.out.setRow (.inl (.inl rfl)) _).setCell (p:=⟨b,20,none⟩) (.inl (.inl rfl)) _
   · refine own_base_le (own_same HXO.out (fun q hq=>?_)) HWX.out
     have h1:=(own_ltB HXO.out q hq).2
     have h2:=lt_of_block HRY.out.blk
     rw [HZ.out]
     exact (Below.heap_setCell _ _ _ _ (fun e=>by have h9:q=b:=e;omega)).trans (setRow_other _ _ _ _ (by omega))
end Go.Proofs.YtocndimihokcmaaGreat
