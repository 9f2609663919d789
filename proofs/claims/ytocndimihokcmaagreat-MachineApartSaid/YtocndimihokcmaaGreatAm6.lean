/- Part 6 of a claim; what it proves stands in its last text. -/
import Derived.Test.YtocndimihokcmaaGreatAm2
import Derived.Test.YtocndimihokcmaaGreatAm5
import Derived.Deep.Cut
import Derived.Deep.LoopGhost
import Derived.Great.BuildSlice
import Derived.Deep.DeepCutAuto
import Derived.Shelf.RegionOpenPlain
namespace Go.Proofs.YtocndimihokcmaaGreat
open Go.RowKit
set_option maxRecDepth 100000
theorem own_baseB {W:World} {base base':Nat} {e:TypeId} {size:Nat} {v:Value} {k:Nat} {xs:List Value} (h:W.ownsRow base e size v k xs) (hb:base'≤base):W.ownsRow base' e size v k xs:=by
 rcases h.2 with h1 | ⟨g,cap,cur,h1,hg,h2,h3⟩
 · exact ⟨h.1,.inl h1⟩
 · exact ⟨h.1,.inr ⟨g,cap,cur,h1,Nat.le_trans hb hg,h2,h3⟩⟩
theorem grownB_below {w w':World} {r:Option Nat} (h:Below w.heap.size w w'):w.grownBy w' r:=⟨h.os,h.tape,h.output,h.size,fun k hk _=>h.block k hk⟩
theorem own_keepB {w w':World} {base:Nat} {e:TypeId} {size:Nat} {A:Option Addr} {n c:Nat} {xs:List Value} (h:w.ownsRow base e size (.slice A n c) n xs) (hb:Below w.heap.size w w'):w'.ownsRow base e size (.slice A n c) n xs :=
 h.kept (row:=none) (grownB_below hb) (by cases hh:(Value.slice A n c).ownBlock <;> simp)
section
variable {P:Program} {o:Oper} {a:Act} {w:World}
theorem tdoes_app8 {K:Value→World→Prop} (s x:Operand)
   (ho:o.op=.call { callee:=.builtin .append,args:=#[s,x],argTypes:=#[70,70] })
   (base base2:Nat) (v u:Value) (n m:Nat) (xs ys:List Nat) (hs:a.eval s=v) (hx:a.eval x=u) (hown:w.ownsRow base 5 1 v n (u8V xs)) (hu:w.ownsRow base2 5 1 u m (u8V ys)) (h1:n+m≤1000000) (hbase:base≤w.heap.size)
   (h:∀ v' w',w'.ownsRow base 5 1 v' (n+m) (u8V (xs++ys))→w.grownBy w' v.ownBlock→K v' w'):TDoes Tryz.prog o a w K:=by
 obtain ⟨v',w',hr,h2,h3⟩:=run_app8 w base base2 o.type v u n m xs ys hown hu h1 hbase
 have he:(execOp a.eval o).run Tryz.prog w=.ok (.value v') w':=by
   unfold execOp
   simp only [ho,resolve,invoke,builtin,Sem.run_bind,Sem.run_pure,Result.andThen_ok,List.map_toArray,List.map_cons,List.map_nil,hs,hx,hr]
 exact tdoes_op he (h v' w' h2 h3)
theorem exec_u8_1 {p0:Int} (x0:Operand) (ho:o.op=.buildSlice 70 1 #[(0,x0)]) (h0:a.eval x0=.int .u8 p0) :
   (execOp a.eval o).run Tryz.prog w=.ok (.value (.slice (some ⟨w.heap.size,0,none⟩) 1 1)) (w.alloc (.cells #[.int .u8 p0] 5)):=by
 obtain ⟨j0,hie,hy0,hy1,hy2⟩:=info_parts infoU8b
 have h:=run_buildSlice (P:=Tryz.prog) w 70 5 1 #[(0,.int .u8 p0)] #[.int .u8 p0] j0 _ Tryz.underlying70 hie hy0 (by rw [hy1];decide) (by rw [hy1];decide) (by rw [hy1];kernel_rfl)
 unfold execOp
 simp only [ho,h0,List.map_toArray,List.map_cons,List.map_nil,Sem.run_bind,h,Result.andThen_ok,Sem.run_pure]
theorem exec_u8_2 {p0 p1:Int} (x0 x1:Operand) (ho:o.op=.buildSlice 70 2 #[(0,x0),(1,x1)]) (h0:a.eval x0=.int .u8 p0) (h1:a.eval x1=.int .u8 p1) :
   (execOp a.eval o).run Tryz.prog w=.ok (.value (.slice (some ⟨w.heap.size,0,none⟩) 2 2)) (w.alloc (.cells #[.int .u8 p0,.int .u8 p1] 5)):=by
 obtain ⟨j0,hie,hy0,hy1,hy2⟩:=info_parts infoU8b
 have h:=run_buildSlice (P:=Tryz.prog) w 70 5 2 #[(0,.int .u8 p0),(1,.int .u8 p1)] #[.int .u8 p0,.int .u8 p1] j0 _ Tryz.underlying70 hie hy0 (by rw [hy1];decide) (by rw [hy1];decide) (by rw [hy1];kernel_rfl)
 unfold execOp
 simp only [ho,h0,h1,List.map_toArray,List.map_cons,List.map_nil,Sem.run_bind,h,Result.andThen_ok,Sem.run_pure]
theorem exec_u8_3 {p0 p1 p2:Int} (x0 x1 x2:Operand) (ho:o.op=.buildSlice 70 3 #[(0,x0),(1,x1),(2,x2)]) (h0:a.eval x0=.int .u8 p0) (h1:a.eval x1=.int .u8 p1) (h2:a.eval x2=.int .u8 p2) :
   (execOp a.eval o).run Tryz.prog w=.ok (.value (.slice (some ⟨w.heap.size,0,none⟩) 3 3)) (w.alloc (.cells #[.int .u8 p0,.int .u8 p1,.int .u8 p2] 5)):=by
 obtain ⟨j0,hie,hy0,hy1,hy2⟩:=info_parts infoU8b
 have h:=run_buildSlice (P:=Tryz.prog) w 70 5 3 #[(0,.int .u8 p0),(1,.int .u8 p1),(2,.int .u8 p2)] #[.int .u8 p0,.int .u8 p1,.int .u8 p2] j0 _ Tryz.underlying70 hie hy0 (by rw [hy1];decide) (by rw [hy1];decide) (by rw [hy1];kernel_rfl)
 unfold execOp
 simp only [ho,h0,h1,h2,List.map_toArray,List.map_cons,List.map_nil,Sem.run_bind,h,Result.andThen_ok,Sem.run_pure]
theorem exec_u8_4 {p0 p1 p2 p3:Int} (x0 x1 x2 x3:Operand) (ho:o.op=.buildSlice 70 4 #[(0,x0),(1,x1),(2,x2),(3,x3)]) (h0:a.eval x0=.int .u8 p0) (h1:a.eval x1=.int .u8 p1) (h2:a.eval x2=.int .u8 p2) (h3:a.eval x3=.int .u8 p3) :
   (execOp a.eval o).run Tryz.prog w=.ok (.value (.slice (some ⟨w.heap.size,0,none⟩) 4 4)) (w.alloc (.cells #[.int .u8 p0,.int .u8 p1,.int .u8 p2,.int .u8 p3] 5)):=by
 obtain ⟨j0,hie,hy0,hy1,hy2⟩:=info_parts infoU8b
 have h:=run_buildSlice (P:=Tryz.prog) w 70 5 4 #[(0,.int .u8 p0),(1,.int .u8 p1),(2,.int .u8 p2),(3,.int .u8 p3)] #[.int .u8 p0,.int .u8 p1,.int .u8 p2,.int .u8 p3] j0 _ Tryz.underlying70 hie hy0 (by rw [hy1];decide) (by rw [hy1];decide) (by rw [hy1];kernel_rfl)
 unfold execOp
 simp only [ho,h0,h1,h2,h3,List.map_toArray,List.map_cons,List.map_nil,Sem.run_bind,h,Result.andThen_ok,Sem.run_pure]
theorem exec_u8_5 {p0 p1 p2 p3 p4:Int} (x0 x1 x2 x3 x4:Operand) (ho:o.op=.buildSlice 70 5 #[(0,x0),(1,x1),(2,x2),(3,x3),(4,x4)]) (h0:a.eval x0=.int .u8 p0) (h1:a.eval x1=.int .u8 p1) (h2:a.eval x2=.int .u8 p2) (h3:a.eval x3=.int .u8 p3) (h4:a.eval x4=.int .u8 p4) :
   (execOp a.eval o).run Tryz.prog w=.ok (.value (.slice (some ⟨w.heap.size,0,none⟩) 5 5)) (w.alloc (.cells #[.int .u8 p0,.int .u8 p1,.int .u8 p2,.int .u8 p3,.int .u8 p4] 5)):=by
 obtain ⟨j0,hie,hy0,hy1,hy2⟩:=info_parts infoU8b
 have h:=run_buildSlice (P:=Tryz.prog) w 70 5 5 #[(0,.int .u8 p0),(1,.int .u8 p1),(2,.int .u8 p2),(3,.int .u8 p3),(4,.int .u8 p4)] #[.int .u8 p0,.int .u8 p1,.int .u8 p2,.int .u8 p3,.int .u8 p4] j0 _ Tryz.underlying70 hie hy0 (by rw [hy1];decide) (by rw [hy1];decide) (by rw [hy1];kernel_rfl)
 unfold execOp
 simp only [ho,h0,h1,h2,h3,h4,List.map_toArray,List.map_cons,List.map_nil,Sem.run_bind,h,Result.andThen_ok,Sem.run_pure]
theorem exec_u8_6 {p0 p1 p2 p3 p4 p5:Int} (x0 x1 x2 x3 x4 x5:Operand) (ho:o.op=.buildSlice 70 6 #[(0,x0),(1,x1),(2,x2),(3,x3),(4,x4),(5,x5)]) (h0:a.eval x0=.int .u8 p0) (h1:a.eval x1=.int .u8 p1) (h2:a.eval x2=.int .u8 p2) (h3:a.eval x3=.int .u8 p3) (h4:a.eval x4=.int .u8 p4) (h5:a.eval x5=.int .u8 p5) :
   (execOp a.eval o).run Tryz.prog w=.ok (.value (.slice (some ⟨w.heap.size,0,none⟩) 6 6)) (w.alloc (.cells #[.int .u8 p0,.int .u8 p1,.int .u8 p2,.int .u8 p3,.int .u8 p4,.int .u8 p5] 5)):=by
 obtain ⟨j0,hie,hy0,hy1,hy2⟩:=info_parts infoU8b
 have h:=run_buildSlice (P:=Tryz.prog) w 70 5 6 #[(0,.int .u8 p0),(1,.int .u8 p1),(2,.int .u8 p2),(3,.int .u8 p3),(4,.int .u8 p4),(5,.int .u8 p5)] #[.int .u8 p0,.int .u8 p1,.int .u8 p2,.int .u8 p3,.int .u8 p4,.int .u8 p5] j0 _ Tryz.underlying70 hie hy0 (by rw [hy1];decide) (by rw [hy1];decide) (by rw [hy1];kernel_rfl)
 unfold execOp
 simp only [ho,h0,h1,h2,h3,h4,h5,List.map_toArray,List.map_cons,List.map_nil,Sem.run_bind,h,Result.andThen_ok,Sem.run_pure]
end
structure FormAt (w:World) (b:Nat) (c m:Nat) (i:Ins):Prop where
 form:w.heap[b]? = some (.cells #[.int .u8 (c:Nat),.int .u8 (m:Nat)] 139 (0,0))
 ins:w.heap[b+1]? = some (.cells (insRow i).toArray 40 (0,0))
theorem FormAt.cells {w:World} {b:Nat} {c m:Nat} {i:Ins} (h:FormAt w b c m i):(w.cell? ⟨b,0,none⟩=some (.int .u8 (c:Nat))∧w.cell? ⟨b,1,none⟩=some (.int .u8 (m:Nat)))∧w.cell? ⟨b+1,1,none⟩=some (.int .i64 i.d)∧w.cell? ⟨b+1,2,none⟩=some (.int .i64 i.s)∧w.cell? ⟨b+1,3,none⟩=some (.int .i64 i.t)∧w.cell? ⟨b+1,4,none⟩=some (.int .i64 i.base)∧w.cell? ⟨b+1,5,none⟩=some (.int .i64 i.index)∧w.cell? ⟨b+1,8,none⟩=some (.int .i64 i.imm):=by
 simp [World.cell?,h.form,h.ins,insRow]
set_option maxHeartbeats 8000000 in
theorem puttwo_any (c m:Nat) (i:Ins) (hd:0≤i.d∧i.d < 16) (hs:0≤i.s∧i.s < 16) (w:World):Calls Tryz.prog 101 #[.agg #[.int .u8 (c:Nat),.int .u8 (m:Nat)],.agg (insRow i).toArray] w (BytesTold ([rexF i.s 0 i.d,c,bothF i.s i.d]) w):=by
 obtain ⟨W,hW⟩:∃ W,W=(w.alloc (.cells #[.int .u8 (c:Nat),.int .u8 (m:Nat)] 139)).alloc (.cells (insRow i).toArray 40):=⟨_,rfl⟩
 have hb:Below w.heap.size w W:=by rw [hW];exact ((Below.refl _ _).alloc (Nat.le_refl _) _).alloc (by simp) _
 have hf:W.heap[w.heap.size]? = some (.cells #[.int .u8 (c:Nat),.int .u8 (m:Nat)] 139 (0,0)):=by rw [hW];exact (Below.heap_alloc _ _ _ (by simp)).trans (heap_alloc_new w _)
 have hi:W.heap[w.heap.size+1]? = some (.cells (insRow i).toArray 40 (0,0)):=by
   rw [hW]
   have:=heap_alloc_new (w.alloc (.cells #[.int .u8 (c:Nat),.int .u8 (m:Nat)] 139)) (.cells (insRow i).toArray 40)
   simpa using this
 have HC:=Lh (show ∀ w_,Below W.heap.size W w_→FormAt w_ w.heap.size c m i from fun w_ h=>⟨(h.block w.heap.size (lt_of_block hf)).trans hf,(h.block (w.heap.size+1) (lt_of_block hi)).trans hi⟩)
 have HW:=Lh hW
 have HB:=Lh hb
 clear hW hb hf hi
 have HR:=Lh (fun w_=>rex_any i.s 0 i.d hs.2 (by decide) hd.2 w_)
 have HT:=Lh (fun w_=>both_any i.s i.d w_)
 go_enter Tryz.func101,Tryz.ntmps101
 go_upto_region 1 with go_in
 rw [←HW.out]
 clear HW
 refine wp_region_grow (Below W.heap.size W) (by kernel_rfl) (by kernel_rfl) (Below.refl _ W).drew ?_
 have hSx0:=(Below.refl W.heap.size W).drew
 obtain ⟨x0,hx0⟩:∃ x0,x0=W.drew:=⟨_,rfl⟩
 rw [←hx0] at hSx0 ⊢
 clear hx0
 show runC _ _ _ 14 _ [0,1,2,3,4,5,6,7,8,9,10,11,12,13] _ _
 refine runC_at 0 (v:=?_) (by rfl) (by rfl) (by rfl) (by kernel_rfl) (by rfl) ?_ ?_
 rotate_left
 focus (intro w_ hw_;obtain ⟨⟨f0_,f1_⟩,f2_,f3_,f4_,f5_,f6_,f7_⟩:=(HC.out w_ hw_).cells;go_simp;(try with_reducible rfl);done)
 (try dsimp only [Act.put])
 show runC _ _ _ 13 _ [1,2,3,4,5,6,7,8,9,10,11,12,13] _ _
 try simp only [List.setIfInBounds_toArray,List.set_cons_zero,List.set_cons_succ]
 refine runC_at 1 (v:=?_) (by rfl) (by rfl) (by rfl) (by kernel_rfl) (by rfl) ?_ ?_
 rotate_left
 focus (intro w_ hw_;obtain ⟨⟨f0_,f1_⟩,f2_,f3_,f4_,f5_,f6_,f7_⟩:=(HC.out w_ hw_).cells;go_simp;(try with_reducible rfl);done)
 (try dsimp only [Act.put])
 show runC _ _ _ 12 _ [2,3,4,5,6,7,8,9,10,11,12,13] _ _
 try simp only [List.setIfInBounds_toArray,List.set_cons_zero,List.set_cons_succ]
 refine runC_at 2 (v:=?_) (by rfl) (by rfl) (by rfl) (by kernel_rfl) (by rfl) ?_ ?_
 rotate_left
 focus (intro w_ hw_;obtain ⟨⟨f0_,f1_⟩,f2_,f3_,f4_,f5_,f6_,f7_⟩:=(HC.out w_ hw_).cells;go_simp;(try with_reducible rfl);done)
 (try dsimp only [Act.put])
 show runC _ _ _ 11 _ [3,4,5,6,7,8,9,10,11,12,13] _ _
 try simp only [List.setIfInBounds_toArray,List.set_cons_zero,List.set_cons_succ]
 refine runC_at 3 (v:=?_) (by rfl) (by rfl) (by rfl) (by kernel_rfl) (by rfl) ?_ ?_
 rotate_left
 focus (intro w_ hw_;obtain ⟨⟨f0_,f1_⟩,f2_,f3_,f4_,f5_,f6_,f7_⟩:=(HC.out w_ hw_).cells;go_simp;(try with_reducible rfl);done)
 (try dsimp only [Act.put])
 show runC _ _ _ 10 _ [4,5,6,7,8,9,10,11,12,13] _ _
 try simp only [List.setIfInBounds_toArray,List.set_cons_zero,List.set_cons_succ]
 refine runC_at 5 (v:=?_) (by rfl) (by rfl) (by rfl) (by kernel_rfl) (by rfl) ?_ ?_
 rotate_left
 focus (intro w_ hw_;obtain ⟨⟨f0_,f1_⟩,f2_,f3_,f4_,f5_,f6_,f7_⟩:=(HC.out w_ hw_).cells;go_simp;(try with_reducible rfl);done)
 (try dsimp only [Act.put])
 show runC _ _ _ 9 _ [4,6,7,8,9,10,11,12,13] _ _
 try simp only [List.setIfInBounds_toArray,List.set_cons_zero,List.set_cons_succ]
 refine runC_at 6 (v:=?_) (by rfl) (by rfl) (by rfl) (by kernel_rfl) (by rfl) ?_ ?_
 rotate_left
 focus (intro w_ hw_;obtain ⟨⟨f0_,f1_⟩,f2_,f3_,f4_,f5_,f6_,f7_⟩:=(HC.out w_ hw_).cells;go_simp;(try with_reducible rfl);done)
 (try dsimp only [Act.put])
 show runC _ _ _ 8 _ [4,7,8,9,10,11,12,13] _ _
 try simp only [List.setIfInBounds_toArray,List.set_cons_zero,List.set_cons_succ]
 refine runC_at 7 (v:=?_) (by rfl) (by rfl) (by rfl) (by kernel_rfl) (by rfl) ?_ ?_
 rotate_left
 focus (intro w_ hw_;obtain ⟨⟨f0_,f1_⟩,f2_,f3_,f4_,f5_,f6_,f7_⟩:=(HC.out w_ hw_).cells;go_simp;(try with_reducible rfl);done)
 (try dsimp only [Act.put])
 show runC _ _ _ 7 _ [4,8,9,10,11,12,13] _ _
 try simp only [List.setIfInBounds_toArray,List.set_cons_zero,List.set_cons_succ]
 refine runC_at 8 (v:=?_) (by rfl) (by rfl) (by rfl) (by kernel_rfl) (by rfl) ?_ ?_
 rotate_left
 focus (intro w_ hw_;obtain ⟨⟨f0_,f1_⟩,f2_,f3_,f4_,f5_,f6_,f7_⟩:=(HC.out w_ hw_).cells;go_simp;(try with_reducible rfl);done)
 (try dsimp only [Act.put])
 show runC _ _ _ 6 _ [4,9,10,11,12,13] _ _
 try simp only [List.setIfInBounds_toArray,List.set_cons_zero,List.set_cons_succ]
 refine runC_at 9 (v:=?_) (by rfl) (by rfl) (by rfl) (by kernel_rfl) (by rfl) ?_ ?_
 rotate_left
 focus (intro w_ hw_;obtain ⟨⟨f0_,f1_⟩,f2_,f3_,f4_,f5_,f6_,f7_⟩:=(HC.out w_ hw_).cells;go_simp;(try with_reducible rfl);done)
 (try dsimp only [Act.put])
 show runC _ _ _ 5 _ [4,10,11,12,13] _ _
 try simp only [List.setIfInBounds_toArray,List.set_cons_zero,List.set_cons_succ]
 refine runC_at 10 (v:=?_) (by rfl) (by rfl) (by rfl) (by kernel_rfl) (by rfl) ?_ ?_
 rotate_left
 focus (intro w_ hw_;obtain ⟨⟨f0_,f1_⟩,f2_,f3_,f4_,f5_,f6_,f7_⟩:=(HC.out w_ hw_).cells;go_simp;(try with_reducible rfl);done)
 (try dsimp only [Act.put])
 show runC _ _ _ 4 _ [4,11,12,13] _ _
 try simp only [List.setIfInBounds_toArray,List.set_cons_zero,List.set_cons_succ]
 refine runC_one 4 (by kernel_rfl) (by kernel_rfl) (by rfl) (by rfl) ?_
 refine tdoes_call (f:=?_) (args:=?_) (w1:=?_) ?_ ?_
 rotate_left 3
 focus (go_simp;refine ⟨⟨?_,?_⟩,?_⟩ <;> with_reducible rfl)
 refine (HR.out x0).mono ?_
 rintro e_ w1_ ⟨rfl,hw_⟩
 subst w1_
 refine ⟨_,rfl,sameS hSx0 ?_⟩
 (try dsimp only [Act.put])
 try simp only [List.setIfInBounds_toArray,List.set_cons_zero,List.set_cons_succ]
 show runC _ _ _ 3 _ [11,12,13] _ _
 refine runC_one 11 (by kernel_rfl) (by kernel_rfl) (by rfl) (by rfl) ?_
 refine tdoes_call (f:=?_) (args:=?_) (w1:=?_) ?_ ?_
 rotate_left 3
 focus (go_simp;refine ⟨⟨?_,?_⟩,?_⟩ <;> with_reducible rfl)
 refine (HT.out x0).mono ?_
 rintro e_ w1_ ⟨rfl,hw_⟩
 subst w1_
 refine ⟨_,rfl,sameS hSx0 ?_⟩
 (try dsimp only [Act.put])
 try simp only [List.setIfInBounds_toArray,List.set_cons_zero,List.set_cons_succ]
 show runC _ _ _ 2 _ [12,13] _ _
 refine runC_one 12 (by kernel_rfl) (by kernel_rfl) (by rfl) (by rfl) ?_
 obtain ⟨x3,h_⟩:∃ q,q=x0.alloc (.cells #[.int .u8 (rexF i.s 0 i.d:Nat),.int .u8 (c:Nat),.int .u8 (bothF i.s i.d:Nat)] 5):=⟨_,rfl⟩
 have hb_:Below x0.heap.size x0 x3:=by rw [h_];exact (Below.refl _ _).alloc (Nat.le_refl _) _
 have hSx3:=hSx0.trans (hb_.mono hSx0.size)
 refine tdoes_op (w1:=x3) (v:=.slice (some ⟨x0.heap.size,0,none⟩) 3 3) (by rw [h_];exact exec_u8_3 _ _ _ rfl rfl rfl rfl) (sameS hSx3 ?_)
 (try dsimp only [Act.put])
 try simp only [List.setIfInBounds_toArray,List.set_cons_zero,List.set_cons_succ]
 obtain ⟨gL,hg_⟩:∃ q,q=x0.heap.size:=⟨_,rfl⟩
 have HOL:=Lh (show x3.ownsRow W.heap.size 5 1 (.slice (some ⟨gL,0,none⟩) 3 3) 3 (u8V [rexF i.s 0 i.d,c,bothF i.s i.d]) from by rw [hg_];exact own_lit8 [rexF i.s 0 i.d,c,bothF i.s i.d] #[.int .u8 (rexF i.s 0 i.d:Nat),.int .u8 (c:Nat),.int .u8 (bothF i.s i.d:Nat)] rfl hSx0.size (by simp) (by simp) (by rw [h_];exact heap_alloc_new x0 _) 3 rfl)
 have HBx3:=Lh hb_
 rw [←hg_]
 clear h_ hg_ hb_
 show runC _ _ _ 1 _ [13] _ _
 refine runC_at 13 (v:=?_) (by rfl) (by rfl) (by rfl) (by kernel_rfl) (by rfl) ?_ ?_
 rotate_left
 focus (intro w_ hw_;obtain ⟨⟨f0_,f1_⟩,f2_,f3_,f4_,f5_,f6_,f7_⟩:=(HC.out w_ hw_).cells;go_simp;(try with_reducible rfl);done)
 (try dsimp only [Act.put])
 show runC _ _ _ 0 _ [] _ _
 try simp only [List.setIfInBounds_toArray,List.set_cons_zero,List.set_cons_succ]
 refine runC_nil ?_
 (try dsimp only [Act.put])
 try simp only [List.setIfInBounds_toArray,List.set_cons_zero,List.set_cons_succ]
 go_wp2
 go_ret
 exact ⟨_,_,_,by rfl,own_baseB HOL.out HB.out.size,by simp,HB.out.trans (hSx3.mono HB.out.size)⟩
set_option maxHeartbeats 8000000 in
theorem putchain_any (c m:Nat) (i:Ins) (hd:0≤i.d∧i.d < 16) (hs:0≤i.s∧i.s < 16) (w:World):Calls Tryz.prog 107 #[.agg #[.int .u8 (c:Nat),.int .u8 (m:Nat)],.agg (insRow i).toArray] w (BytesTold ([c,rexF i.d 0 i.s,15,56,m,bothF i.d i.s]) w):=by
 obtain ⟨W,hW⟩:∃ W,W=(w.alloc (.cells #[.int .u8 (c:Nat),.int .u8 (m:Nat)] 139)).alloc (.cells (insRow i).toArray 40):=⟨_,rfl⟩
 have hb:Below w.heap.size w W:=by rw [hW];exact ((Below.refl _ _).alloc (Nat.le_refl _) _).alloc (by simp) _
 have hf:W.heap[w.heap.size]? = some (.cells #[.int .u8 (c:Nat),.int .u8 (m:Nat)] 139 (0,0)):=by rw [hW];exact (Below.heap_alloc _ _ _ (by simp)).trans (heap_alloc_new w _)
 have hi:W.heap[w.heap.size+1]? = some (.cells (insRow i).toArray 40 (0,0)):=by
   rw [hW]
   have:=heap_alloc_new (w.alloc (.cells #[.int .u8 (c:Nat),.int .u8 (m:Nat)] 139)) (.cells (insRow i).toArray 40)
   simpa using this
 have HC:=Lh (show ∀ w_,Below W.heap.size W w_→FormAt w_ w.heap.size c m i from fun w_ h=>⟨(h.block w.heap.size (lt_of_block hf)).trans hf,(h.block (w.heap.size+1) (lt_of_block hi)).trans hi⟩)
 have HW:=Lh hW
 have HB:=Lh hb
 clear hW hb hf hi
 have HR:=Lh (fun w_=>rex_any i.d 0 i.s hd.2 (by decide) hs.2 w_)
 have HT:=Lh (fun w_=>both_any i.d i.s w_)
 go_enter Tryz.func107,Tryz.ntmps107
 go_upto_region 1 with go_in
 rw [←HW.out]
 clear HW
 refine wp_region_grow (Below W.heap.size W) (by kernel_rfl) (by kernel_rfl) (Below.refl _ W).drew ?_
 have hSx0:=(Below.refl W.heap.size W).drew
 obtain ⟨x0,hx0⟩:∃ x0,x0=W.drew:=⟨_,rfl⟩
 rw [←hx0] at hSx0 ⊢
 clear hx0
 show runC _ _ _ 16 _ [0,1,2,3,4,5,6,7,8,9,10,11,12,13,14,15] _ _
 refine runC_at 0 (v:=?_) (by rfl) (by rfl) (by rfl) (by kernel_rfl) (by rfl) ?_ ?_
 rotate_left
 focus (intro w_ hw_;obtain ⟨⟨f0_,f1_⟩,f2_,f3_,f4_,f5_,f6_,f7_⟩:=(HC.out w_ hw_).cells;go_simp;(try with_reducible rfl);done)
 (try dsimp only [Act.put])
 show runC _ _ _ 15 _ [1,2,3,4,5,6,7,8,9,10,11,12,13,14,15] _ _
 try simp only [List.setIfInBounds_toArray,List.set_cons_zero,List.set_cons_succ]
 refine runC_at 1 (v:=?_) (by rfl) (by rfl) (by rfl) (by kernel_rfl) (by rfl) ?_ ?_
 rotate_left
 focus (intro w_ hw_;obtain ⟨⟨f0_,f1_⟩,f2_,f3_,f4_,f5_,f6_,f7_⟩:=(HC.out w_ hw_).cells;go_simp;(try with_reducible rfl);done)
 (try dsimp only [Act.put])
 show runC _ _ _ 14 _ [2,3,4,5,6,7,8,9,10,11,12,13,14,15] _ _
 try simp only [List.setIfInBounds_toArray,List.set_cons_zero,List.set_cons_succ]
 refine runC_at 2 (v:=?_) (by rfl) (by rfl) (by rfl) (by kernel_rfl) (by rfl) ?_ ?_
 rotate_left
 focus (intro w_ hw_;obtain ⟨⟨f0_,f1_⟩,f2_,f3_,f4_,f5_,f6_,f7_⟩:=(HC.out w_ hw_).cells;go_simp;(try with_reducible rfl);done)
 (try dsimp only [Act.put])
 show runC _ _ _ 13 _ [3,4,5,6,7,8,9,10,11,12,13,14,15] _ _
 try simp only [List.setIfInBounds_toArray,List.set_cons_zero,List.set_cons_succ]
 refine runC_at 3 (v:=?_) (by rfl) (by rfl) (by rfl) (by kernel_rfl) (by rfl) ?_ ?_
 rotate_left
 focus (intro w_ hw_;obtain ⟨⟨f0_,f1_⟩,f2_,f3_,f4_,f5_,f6_,f7_⟩:=(HC.out w_ hw_).cells;go_simp;(try with_reducible rfl);done)
 (try dsimp only [Act.put])
 show runC _ _ _ 12 _ [4,5,6,7,8,9,10,11,12,13,14,15] _ _
 try simp only [List.setIfInBounds_toArray,List.set_cons_zero,List.set_cons_succ]
 refine runC_at 4 (v:=?_) (by rfl) (by rfl) (by rfl) (by kernel_rfl) (by rfl) ?_ ?_
 rotate_left
 focus (intro w_ hw_;obtain ⟨⟨f0_,f1_⟩,f2_,f3_,f4_,f5_,f6_,f7_⟩:=(HC.out w_ hw_).cells;go_simp;(try with_reducible rfl);done)
 (try dsimp only [Act.put])
 show runC _ _ _ 11 _ [5,6,7,8,9,10,11,12,13,14,15] _ _
 try simp only [List.setIfInBounds_toArray,List.set_cons_zero,List.set_cons_succ]
 refine runC_at 5 (v:=?_) (by rfl) (by rfl) (by rfl) (by kernel_rfl) (by rfl) ?_ ?_
 rotate_left
 focus (intro w_ hw_;obtain ⟨⟨f0_,f1_⟩,f2_,f3_,f4_,f5_,f6_,f7_⟩:=(HC.out w_ hw_).cells;go_simp;(try with_reducible rfl);done)
 (try dsimp only [Act.put])
 show runC _ _ _ 10 _ [6,7,8,9,10,11,12,13,14,15] _ _
 try simp only [List.setIfInBounds_toArray,List.set_cons_zero,List.set_cons_succ]
 refine runC_at 7 (v:=?_) (by rfl) (by rfl) (by rfl) (by kernel_rfl) (by rfl) ?_ ?_
 rotate_left
 focus (intro w_ hw_;obtain ⟨⟨f0_,f1_⟩,f2_,f3_,f4_,f5_,f6_,f7_⟩:=(HC.out w_ hw_).cells;go_simp;(try with_reducible rfl);done)
 (try dsimp only [Act.put])
 show runC _ _ _ 9 _ [6,8,9,10,11,12,13,14,15] _ _
 try simp only [List.setIfInBounds_toArray,List.set_cons_zero,List.set_cons_succ]
 refine runC_at 8 (v:=?_) (by rfl) (by rfl) (by rfl) (by kernel_rfl) (by rfl) ?_ ?_
 rotate_left
 focus (intro w_ hw_;obtain ⟨⟨f0_,f1_⟩,f2_,f3_,f4_,f5_,f6_,f7_⟩:=(HC.out w_ hw_).cells;go_simp;(try with_reducible rfl);done)
 (try dsimp only [Act.put])
 show runC _ _ _ 8 _ [6,9,10,11,12,13,14,15] _ _
 try simp only [List.setIfInBounds_toArray,List.set_cons_zero,List.set_cons_succ]
 refine runC_at 9 (v:=?_) (by rfl) (by rfl) (by rfl) (by kernel_rfl) (by rfl) ?_ ?_
 rotate_left
 focus (intro w_ hw_;obtain ⟨⟨f0_,f1_⟩,f2_,f3_,f4_,f5_,f6_,f7_⟩:=(HC.out w_ hw_).cells;go_simp;(try with_reducible rfl);done)
 (try dsimp only [Act.put])
 show runC _ _ _ 7 _ [6,10,11,12,13,14,15] _ _
 try simp only [List.setIfInBounds_toArray,List.set_cons_zero,List.set_cons_succ]
 refine runC_at 10 (v:=?_) (by rfl) (by rfl) (by rfl) (by kernel_rfl) (by rfl) ?_ ?_
 rotate_left
 focus (intro w_ hw_;obtain ⟨⟨f0_,f1_⟩,f2_,f3_,f4_,f5_,f6_,f7_⟩:=(HC.out w_ hw_).cells;go_simp;(try with_reducible rfl);done)
 (try dsimp only [Act.put])
 show runC _ _ _ 6 _ [6,11,12,13,14,15] _ _
 try simp only [List.setIfInBounds_toArray,List.set_cons_zero,List.set_cons_succ]
 refine runC_at 11 (v:=?_) (by rfl) (by rfl) (by rfl) (by kernel_rfl) (by rfl) ?_ ?_
 rotate_left
 focus (intro w_ hw_;obtain ⟨⟨f0_,f1_⟩,f2_,f3_,f4_,f5_,f6_,f7_⟩:=(HC.out w_ hw_).cells;go_simp;(try with_reducible rfl);done)
 (try dsimp only [Act.put])
 show runC _ _ _ 5 _ [6,12,13,14,15] _ _
 try simp only [List.setIfInBounds_toArray,List.set_cons_zero,List.set_cons_succ]
 refine runC_at 12 (v:=?_) (by rfl) (by rfl) (by rfl) (by kernel_rfl) (by rfl) ?_ ?_
 rotate_left
 focus (intro w_ hw_;obtain ⟨⟨f0_,f1_⟩,f2_,f3_,f4_,f5_,f6_,f7_⟩:=(HC.out w_ hw_).cells;go_simp;(try with_reducible rfl);done)
 (try dsimp only [Act.put])
 show runC _ _ _ 4 _ [6,13,14,15] _ _
 try simp only [List.setIfInBounds_toArray,List.set_cons_zero,List.set_cons_succ]
 refine runC_one 6 (by kernel_rfl) (by kernel_rfl) (by rfl) (by rfl) ?_
 refine tdoes_call (f:=?_) (args:=?_) (w1:=?_) ?_ ?_
 rotate_left 3
 focus (go_simp;refine ⟨⟨?_,?_⟩,?_⟩ <;> with_reducible rfl)
 refine (HR.out x0).mono ?_
 rintro e_ w1_ ⟨rfl,hw_⟩
 subst w1_
 refine ⟨_,rfl,sameS hSx0 ?_⟩
 (try dsimp only [Act.put])
 try simp only [List.setIfInBounds_toArray,List.set_cons_zero,List.set_cons_succ]
 show runC _ _ _ 3 _ [13,14,15] _ _
 refine runC_one 13 (by kernel_rfl) (by kernel_rfl) (by rfl) (by rfl) ?_
 refine tdoes_call (f:=?_) (args:=?_) (w1:=?_) ?_ ?_
 rotate_left 3
 focus (go_simp;refine ⟨⟨?_,?_⟩,?_⟩ <;> with_reducible rfl)
 refine (HT.out x0).mono ?_
 rintro e_ w1_ ⟨rfl,hw_⟩
 subst w1_
 refine ⟨_,rfl,sameS hSx0 ?_⟩
 (try dsimp only [Act.put])
 try simp only [List.setIfInBounds_toArray,List.set_cons_zero,List.set_cons_succ]
 show runC _ _ _ 2 _ [14,15] _ _
 refine runC_one 14 (by kernel_rfl) (by kernel_rfl) (by rfl) (by rfl) ?_
 obtain ⟨x3,h_⟩:∃ q,q=x0.alloc (.cells #[.int .u8 (c:Nat),.int .u8 (rexF i.d 0 i.s:Nat),.int .u8 (15:Nat),.int .u8 (56:Nat),.int .u8 (m:Nat),.int .u8 (bothF i.d i.s:Nat)] 5):=⟨_,rfl⟩
 have hb_:Below x0.heap.size x0 x3:=by rw [h_];exact (Below.refl _ _).alloc (Nat.le_refl _) _
 have hSx3:=hSx0.trans (hb_.mono hSx0.size)
 refine tdoes_op (w1:=x3) (v:=.slice (some ⟨x0.heap.size,0,none⟩) 6 6) (by rw [h_];exact exec_u8_6 _ _ _ _ _ _ rfl rfl rfl rfl rfl rfl rfl) (sameS hSx3 ?_)
 (try dsimp only [Act.put])
 try simp only [List.setIfInBounds_toArray,List.set_cons_zero,List.set_cons_succ]
 obtain ⟨gL,hg_⟩:∃ q,q=x0.heap.size:=⟨_,rfl⟩
 have HOL:=Lh (show x3.ownsRow W.heap.size 5 1 (.slice (some ⟨gL,0,none⟩) 6 6) 6 (u8V [c,rexF i.d 0 i.s,15,56,m,bothF i.d i.s]) from by rw [hg_];exact own_lit8 [c,rexF i.d 0 i.s,15,56,m,bothF i.d i.s] #[.int .u8 (c:Nat),.int .u8 (rexF i.d 0 i.s:Nat),.int .u8 (15:Nat),.int .u8 (56:Nat),.int .u8 (m:Nat),.int .u8 (bothF i.d i.s:Nat)] rfl hSx0.size (by simp) (by simp) (by rw [h_];exact heap_alloc_new x0 _) 6 rfl)
 have HBx3:=Lh hb_
 rw [←hg_]
 clear h_ hg_ hb_
 show runC _ _ _ 1 _ [15] _ _
 refine runC_at 15 (v:=?_) (by rfl) (by rfl) (by rfl) (by kernel_rfl) (by rfl) ?_ ?_
 rotate_left
 focus (intro w_ hw_;obtain ⟨⟨f0_,f1_⟩,f2_,f3_,f4_,f5_,f6_,f7_⟩:=(HC.out w_ hw_).cells;go_simp;(try with_reducible rfl);done)
 (try dsimp only [Act.put])
 show runC _ _ _ 0 _ [] _ _
 try simp only [List.setIfInBounds_toArray,List.set_cons_zero,List.set_cons_succ]
 refine runC_nil ?_
 (try dsimp only [Act.put])
 try simp only [List.setIfInBounds_toArray,List.set_cons_zero,List.set_cons_succ]
 go_wp2
 go_ret
 exact ⟨_,_,_,by rfl,own_baseB HOL.out HB.out.size,by simp,HB.out.trans (hSx3.mono HB.out.size)⟩
set_option maxHeartbeats 8000000 in
theorem putmove_any (c m:Nat) (i:Ins) (hd:0≤i.d∧i.d < 16) (hs:0≤i.s∧i.s < 16) (w:World):Calls Tryz.prog 110 #[.agg #[.int .u8 (c:Nat),.int .u8 (m:Nat)],.agg (insRow i).toArray] w (BytesTold ([rexF i.d 0 i.s,c,m,bothF i.d i.s]) w):=by
 obtain ⟨W,hW⟩:∃ W,W=(w.alloc (.cells #[.int .u8 (c:Nat),.int .u8 (m:Nat)] 139)).alloc (.cells (insRow i).toArray 40):=⟨_,rfl⟩
 have hb:Below w.heap.size w W:=by rw [hW];exact ((Below.refl _ _).alloc (Nat.le_refl _) _).alloc (by simp) _
 have hf:W.heap[w.heap.size]? = some (.cells #[.int .u8 (c:Nat),.int .u8 (m:Nat)] 139 (0,0)):=by rw [hW];exact (Below.heap_alloc _ _ _ (by simp)).trans (heap_alloc_new w _)
 have hi:W.heap[w.heap.size+1]? = some (.cells (insRow i).toArray 40 (0,0)):=by
   rw [hW]
   have:=heap_alloc_new (w.alloc (.cells #[.int .u8 (c:Nat),.int .u8 (m:Nat)] 139)) (.cells (insRow i).toArray 40)
   simpa using this
 have HC:=Lh (show ∀ w_,Below W.heap.size W w_→FormAt w_ w.heap.size c m i from fun w_ h=>⟨(h.block w.heap.size (lt_of_block hf)).trans hf,(h.block (w.heap.size+1) (lt_of_block hi)).trans hi⟩)
 have HW:=Lh hW
 have HB:=Lh hb
 clear hW hb hf hi
 have HR:=Lh (fun w_=>rex_any i.d 0 i.s hd.2 (by decide) hs.2 w_)
 have HT:=Lh (fun w_=>both_any i.d i.s w_)
 go_enter Tryz.func110,Tryz.ntmps110
 go_upto_region 1 with go_in
 rw [←HW.out]
 clear HW
 refine wp_region_grow (Below W.heap.size W) (by kernel_rfl) (by kernel_rfl) (Below.refl _ W).drew ?_
 have hSx0:=(Below.refl W.heap.size W).drew
 obtain ⟨x0,hx0⟩:∃ x0,x0=W.drew:=⟨_,rfl⟩
 rw [←hx0] at hSx0 ⊢
 clear hx0
 show runC _ _ _ 16 _ [0,1,2,3,4,5,6,7,8,9,10,11,12,13,14,15] _ _
 refine runC_at 0 (v:=?_) (by rfl) (by rfl) (by rfl) (by kernel_rfl) (by rfl) ?_ ?_
 rotate_left
 focus (intro w_ hw_;obtain ⟨⟨f0_,f1_⟩,f2_,f3_,f4_,f5_,f6_,f7_⟩:=(HC.out w_ hw_).cells;go_simp;(try with_reducible rfl);done)
 (try dsimp only [Act.put])
 show runC _ _ _ 15 _ [1,2,3,4,5,6,7,8,9,10,11,12,13,14,15] _ _
 try simp only [List.setIfInBounds_toArray,List.set_cons_zero,List.set_cons_succ]
 refine runC_at 1 (v:=?_) (by rfl) (by rfl) (by rfl) (by kernel_rfl) (by rfl) ?_ ?_
 rotate_left
 focus (intro w_ hw_;obtain ⟨⟨f0_,f1_⟩,f2_,f3_,f4_,f5_,f6_,f7_⟩:=(HC.out w_ hw_).cells;go_simp;(try with_reducible rfl);done)
 (try dsimp only [Act.put])
 show runC _ _ _ 14 _ [2,3,4,5,6,7,8,9,10,11,12,13,14,15] _ _
 try simp only [List.setIfInBounds_toArray,List.set_cons_zero,List.set_cons_succ]
 refine runC_at 2 (v:=?_) (by rfl) (by rfl) (by rfl) (by kernel_rfl) (by rfl) ?_ ?_
 rotate_left
 focus (intro w_ hw_;obtain ⟨⟨f0_,f1_⟩,f2_,f3_,f4_,f5_,f6_,f7_⟩:=(HC.out w_ hw_).cells;go_simp;(try with_reducible rfl);done)
 (try dsimp only [Act.put])
 show runC _ _ _ 13 _ [3,4,5,6,7,8,9,10,11,12,13,14,15] _ _
 try simp only [List.setIfInBounds_toArray,List.set_cons_zero,List.set_cons_succ]
 refine runC_at 3 (v:=?_) (by rfl) (by rfl) (by rfl) (by kernel_rfl) (by rfl) ?_ ?_
 rotate_left
 focus (intro w_ hw_;obtain ⟨⟨f0_,f1_⟩,f2_,f3_,f4_,f5_,f6_,f7_⟩:=(HC.out w_ hw_).cells;go_simp;(try with_reducible rfl);done)
 (try dsimp only [Act.put])
 show runC _ _ _ 12 _ [4,5,6,7,8,9,10,11,12,13,14,15] _ _
 try simp only [List.setIfInBounds_toArray,List.set_cons_zero,List.set_cons_succ]
 refine runC_at 5 (v:=?_) (by rfl) (by rfl) (by rfl) (by kernel_rfl) (by rfl) ?_ ?_
 rotate_left
 focus (intro w_ hw_;obtain ⟨⟨f0_,f1_⟩,f2_,f3_,f4_,f5_,f6_,f7_⟩:=(HC.out w_ hw_).cells;go_simp;(try with_reducible rfl);done)
 (try dsimp only [Act.put])
 show runC _ _ _ 11 _ [4,6,7,8,9,10,11,12,13,14,15] _ _
 try simp only [List.setIfInBounds_toArray,List.set_cons_zero,List.set_cons_succ]
 refine runC_at 6 (v:=?_) (by rfl) (by rfl) (by rfl) (by kernel_rfl) (by rfl) ?_ ?_
 rotate_left
 focus (intro w_ hw_;obtain ⟨⟨f0_,f1_⟩,f2_,f3_,f4_,f5_,f6_,f7_⟩:=(HC.out w_ hw_).cells;go_simp;(try with_reducible rfl);done)
 (try dsimp only [Act.put])
 show runC _ _ _ 10 _ [4,7,8,9,10,11,12,13,14,15] _ _
 try simp only [List.setIfInBounds_toArray,List.set_cons_zero,List.set_cons_succ]
 refine runC_at 7 (v:=?_) (by rfl) (by rfl) (by rfl) (by kernel_rfl) (by rfl) ?_ ?_
 rotate_left
 focus (intro w_ hw_;obtain ⟨⟨f0_,f1_⟩,f2_,f3_,f4_,f5_,f6_,f7_⟩:=(HC.out w_ hw_).cells;go_simp;(try with_reducible rfl);done)
 (try dsimp only [Act.put])
 show runC _ _ _ 9 _ [4,8,9,10,11,12,13,14,15] _ _
 try simp only [List.setIfInBounds_toArray,List.set_cons_zero,List.set_cons_succ]
 refine runC_at 8 (v:=?_) (by rfl) (by rfl) (by rfl) (by kernel_rfl) (by rfl) ?_ ?_
 rotate_left
 focus (intro w_ hw_;obtain ⟨⟨f0_,f1_⟩,f2_,f3_,f4_,f5_,f6_,f7_⟩:=(HC.out w_ hw_).cells;go_simp;(try with_reducible rfl);done)
 (try dsimp only [Act.put])
 show runC _ _ _ 8 _ [4,9,10,11,12,13,14,15] _ _
 try simp only [List.setIfInBounds_toArray,List.set_cons_zero,List.set_cons_succ]
 refine runC_at 9 (v:=?_) (by rfl) (by rfl) (by rfl) (by kernel_rfl) (by rfl) ?_ ?_
 rotate_left
 focus (intro w_ hw_;obtain ⟨⟨f0_,f1_⟩,f2_,f3_,f4_,f5_,f6_,f7_⟩:=(HC.out w_ hw_).cells;go_simp;(try with_reducible rfl);done)
 (try dsimp only [Act.put])
 show runC _ _ _ 7 _ [4,10,11,12,13,14,15] _ _
 try simp only [List.setIfInBounds_toArray,List.set_cons_zero,List.set_cons_succ]
 refine runC_at 10 (v:=?_) (by rfl) (by rfl) (by rfl) (by kernel_rfl) (by rfl) ?_ ?_
 rotate_left
 focus (intro w_ hw_;obtain ⟨⟨f0_,f1_⟩,f2_,f3_,f4_,f5_,f6_,f7_⟩:=(HC.out w_ hw_).cells;go_simp;(try with_reducible rfl);done)
 (try dsimp only [Act.put])
 show runC _ _ _ 6 _ [4,11,12,13,14,15] _ _
 try simp only [List.setIfInBounds_toArray,List.set_cons_zero,List.set_cons_succ]
 refine runC_at 11 (v:=?_) (by rfl) (by rfl) (by rfl) (by kernel_rfl) (by rfl) ?_ ?_
 rotate_left
 focus (intro w_ hw_;obtain ⟨⟨f0_,f1_⟩,f2_,f3_,f4_,f5_,f6_,f7_⟩:=(HC.out w_ hw_).cells;go_simp;(try with_reducible rfl);done)
 (try dsimp only [Act.put])
 show runC _ _ _ 5 _ [4,12,13,14,15] _ _
 try simp only [List.setIfInBounds_toArray,List.set_cons_zero,List.set_cons_succ]
 refine runC_at 12 (v:=?_) (by rfl) (by rfl) (by rfl) (by kernel_rfl) (by rfl) ?_ ?_
 rotate_left
 focus (intro w_ hw_;obtain ⟨⟨f0_,f1_⟩,f2_,f3_,f4_,f5_,f6_,f7_⟩:=(HC.out w_ hw_).cells;go_simp;(try with_reducible rfl);done)
 (try dsimp only [Act.put])
 show runC _ _ _ 4 _ [4,13,14,15] _ _
 try simp only [List.setIfInBounds_toArray,List.set_cons_zero,List.set_cons_succ]
 refine runC_one 4 (by kernel_rfl) (by kernel_rfl) (by rfl) (by rfl) ?_
 refine tdoes_call (f:=?_) (args:=?_) (w1:=?_) ?_ ?_
 rotate_left 3
 focus (go_simp;refine ⟨⟨?_,?_⟩,?_⟩ <;> with_reducible rfl)
 refine (HR.out x0).mono ?_
 rintro e_ w1_ ⟨rfl,hw_⟩
 subst w1_
 refine ⟨_,rfl,sameS hSx0 ?_⟩
 (try dsimp only [Act.put])
 try simp only [List.setIfInBounds_toArray,List.set_cons_zero,List.set_cons_succ]
 show runC _ _ _ 3 _ [13,14,15] _ _
 refine runC_one 13 (by kernel_rfl) (by kernel_rfl) (by rfl) (by rfl) ?_
 refine tdoes_call (f:=?_) (args:=?_) (w1:=?_) ?_ ?_
 rotate_left 3
 focus (go_simp;refine ⟨⟨?_,?_⟩,?_⟩ <;> with_reducible rfl)
 refine (HT.out x0).mono ?_
 rintro e_ w1_ ⟨rfl,hw_⟩
 subst w1_
 refine ⟨_,rfl,sameS hSx0 ?_⟩
 (try dsimp only [Act.put])
 try simp only [List.setIfInBounds_toArray,List.set_cons_zero,List.set_cons_succ]
 show runC _ _ _ 2 _ [14,15] _ _
 refine runC_one 14 (by kernel_rfl) (by kernel_rfl) (by rfl) (by rfl) ?_
 obtain ⟨x3,h_⟩:∃ q,q=x0.alloc (.cells #[.int .u8 (rexF i.d 0 i.s:Nat),.int .u8 (c:Nat),.int .u8 (m:Nat),.int .u8 (bothF i.d i.s:Nat)] 5):=⟨_,rfl⟩
 have hb_:Below x0.heap.size x0 x3:=by rw [h_];exact (Below.refl _ _).alloc (Nat.le_refl _) _
 have hSx3:=hSx0.trans (hb_.mono hSx0.size)
 refine tdoes_op (w1:=x3) (v:=.slice (some ⟨x0.heap.size,0,none⟩) 4 4) (by rw [h_];exact exec_u8_4 _ _ _ _ rfl rfl rfl rfl rfl) (sameS hSx3 ?_)
 (try dsimp only [Act.put])
 try simp only [List.setIfInBounds_toArray,List.set_cons_zero,List.set_cons_succ]
 obtain ⟨gL,hg_⟩:∃ q,q=x0.heap.size:=⟨_,rfl⟩
 have HOL:=Lh (show x3.ownsRow W.heap.size 5 1 (.slice (some ⟨gL,0,none⟩) 4 4) 4 (u8V [rexF i.d 0 i.s,c,m,bothF i.d i.s]) from by rw [hg_];exact own_lit8 [rexF i.d 0 i.s,c,m,bothF i.d i.s] #[.int .u8 (rexF i.d 0 i.s:Nat),.int .u8 (c:Nat),.int .u8 (m:Nat),.int .u8 (bothF i.d i.s:Nat)] rfl hSx0.size (by simp) (by simp) (by rw [h_];exact heap_alloc_new x0 _) 4 rfl)
 have HBx3:=Lh hb_
 rw [←hg_]
 clear h_ hg_ hb_
 show runC _ _ _ 1 _ [15] _ _
 refine runC_at 15 (v:=?_) (by rfl) (by rfl) (by rfl) (by kernel_rfl) (by rfl) ?_ ?_
 rotate_left
 focus (intro w_ hw_;obtain ⟨⟨f0_,f1_⟩,f2_,f3_,f4_,f5_,f6_,f7_⟩:=(HC.out w_ hw_).cells;go_simp;(try with_reducible rfl);done)
 (try dsimp only [Act.put])
 show runC _ _ _ 0 _ [] _ _
 try simp only [List.setIfInBounds_toArray,List.set_cons_zero,List.set_cons_succ]
 refine runC_nil ?_
 (try dsimp only [Act.put])
 try simp only [List.setIfInBounds_toArray,List.set_cons_zero,List.set_cons_succ]
 go_wp2
 go_ret
 exact ⟨_,_,_,by rfl,own_baseB HOL.out HB.out.size,by simp,HB.out.trans (hSx3.mono HB.out.size)⟩
set_option maxHeartbeats 8000000 in
theorem putone_any (c m:Nat) (i:Ins) (hd:0≤i.d∧i.d < 16) (hm:m < 8) (w:World):Calls Tryz.prog 108 #[.agg #[.int .u8 (c:Nat),.int .u8 (m:Nat)],.agg (insRow i).toArray] w (BytesTold ([rexF 0 0 i.d,c,bothF m i.d]) w):=by
 obtain ⟨W,hW⟩:∃ W,W=(w.alloc (.cells #[.int .u8 (c:Nat),.int .u8 (m:Nat)] 139)).alloc (.cells (insRow i).toArray 40):=⟨_,rfl⟩
 have hb:Below w.heap.size w W:=by rw [hW];exact ((Below.refl _ _).alloc (Nat.le_refl _) _).alloc (by simp) _
 have hf:W.heap[w.heap.size]? = some (.cells #[.int .u8 (c:Nat),.int .u8 (m:Nat)] 139 (0,0)):=by rw [hW];exact (Below.heap_alloc _ _ _ (by simp)).trans (heap_alloc_new w _)
 have hi:W.heap[w.heap.size+1]? = some (.cells (insRow i).toArray 40 (0,0)):=by
   rw [hW]
   have:=heap_alloc_new (w.alloc (.cells #[.int .u8 (c:Nat),.int .u8 (m:Nat)] 139)) (.cells (insRow i).toArray 40)
   simpa using this
 have HC:=Lh (show ∀ w_,Below W.heap.size W w_→FormAt w_ w.heap.size c m i from fun w_ h=>⟨(h.block w.heap.size (lt_of_block hf)).trans hf,(h.block (w.heap.size+1) (lt_of_block hi)).trans hi⟩)
 have HW:=Lh hW
 have HB:=Lh hb
 clear hW hb hf hi
 have HR:=Lh (fun w_=>rex_any 0 0 i.d (by decide) (by decide) hd.2 w_)
 have HT:=Lh (fun w_=>both_any (m:Int) i.d w_)
 have f9_:IntKind.i64.wrap (m:Int)=(m:Int):=by rw [IntKind.wrap_i64];omega
 go_enter Tryz.func108,Tryz.ntmps108
 go_upto_region 1 with go_in
 rw [←HW.out]
 clear HW
 refine wp_region_grow (Below W.heap.size W) (by kernel_rfl) (by kernel_rfl) (Below.refl _ W).drew ?_
 have hSx0:=(Below.refl W.heap.size W).drew
 obtain ⟨x0,hx0⟩:∃ x0,x0=W.drew:=⟨_,rfl⟩
 rw [←hx0] at hSx0 ⊢
 clear hx0
 show runC _ _ _ 13 _ [0,1,2,3,4,5,6,7,8,9,10,11,12] _ _
 refine runC_at 0 (v:=?_) (by rfl) (by rfl) (by rfl) (by kernel_rfl) (by rfl) ?_ ?_
 rotate_left
 focus (intro w_ hw_;obtain ⟨⟨f0_,f1_⟩,f2_,f3_,f4_,f5_,f6_,f7_⟩:=(HC.out w_ hw_).cells;go_simp;(try with_reducible rfl);done)
 (try dsimp only [Act.put])
 show runC _ _ _ 12 _ [1,2,3,4,5,6,7,8,9,10,11,12] _ _
 try simp only [List.setIfInBounds_toArray,List.set_cons_zero,List.set_cons_succ]
 refine runC_at 1 (v:=?_) (by rfl) (by rfl) (by rfl) (by kernel_rfl) (by rfl) ?_ ?_
 rotate_left
 focus (intro w_ hw_;obtain ⟨⟨f0_,f1_⟩,f2_,f3_,f4_,f5_,f6_,f7_⟩:=(HC.out w_ hw_).cells;go_simp;(try with_reducible rfl);done)
 (try dsimp only [Act.put])
 show runC _ _ _ 11 _ [2,3,4,5,6,7,8,9,10,11,12] _ _
 try simp only [List.setIfInBounds_toArray,List.set_cons_zero,List.set_cons_succ]
 refine runC_at 3 (v:=?_) (by rfl) (by rfl) (by rfl) (by kernel_rfl) (by rfl) ?_ ?_
 rotate_left
 focus (intro w_ hw_;obtain ⟨⟨f0_,f1_⟩,f2_,f3_,f4_,f5_,f6_,f7_⟩:=(HC.out w_ hw_).cells;go_simp;(try with_reducible rfl);done)
 (try dsimp only [Act.put])
 show runC _ _ _ 10 _ [2,4,5,6,7,8,9,10,11,12] _ _
 try simp only [List.setIfInBounds_toArray,List.set_cons_zero,List.set_cons_succ]
 refine runC_at 4 (v:=?_) (by rfl) (by rfl) (by rfl) (by kernel_rfl) (by rfl) ?_ ?_
 rotate_left
 focus (intro w_ hw_;obtain ⟨⟨f0_,f1_⟩,f2_,f3_,f4_,f5_,f6_,f7_⟩:=(HC.out w_ hw_).cells;go_simp;(try with_reducible rfl);done)
 (try dsimp only [Act.put])
 show runC _ _ _ 9 _ [2,5,6,7,8,9,10,11,12] _ _
 try simp only [List.setIfInBounds_toArray,List.set_cons_zero,List.set_cons_succ]
 refine runC_at 5 (v:=?_) (by rfl) (by rfl) (by rfl) (by kernel_rfl) (by rfl) ?_ ?_
 rotate_left
 focus (intro w_ hw_;obtain ⟨⟨f0_,f1_⟩,f2_,f3_,f4_,f5_,f6_,f7_⟩:=(HC.out w_ hw_).cells;go_simp;(try with_reducible rfl);done)
 (try dsimp only [Act.put])
 show runC _ _ _ 8 _ [2,6,7,8,9,10,11,12] _ _
 try simp only [List.setIfInBounds_toArray,List.set_cons_zero,List.set_cons_succ]
 refine runC_at 6 (v:=?_) (by rfl) (by rfl) (by rfl) (by kernel_rfl) (by rfl) ?_ ?_
 rotate_left
 focus (intro w_ hw_;obtain ⟨⟨f0_,f1_⟩,f2_,f3_,f4_,f5_,f6_,f7_⟩:=(HC.out w_ hw_).cells;go_simp;(try with_reducible rfl);done)
 (try dsimp only [Act.put])
 show runC _ _ _ 7 _ [2,7,8,9,10,11,12] _ _
 try simp only [List.setIfInBounds_toArray,List.set_cons_zero,List.set_cons_succ]
 refine runC_at 7 (v:=?_) (by rfl) (by rfl) (by rfl) (by kernel_rfl) (by rfl) ?_ ?_
 rotate_left
 focus (intro w_ hw_;obtain ⟨⟨f0_,f1_⟩,f2_,f3_,f4_,f5_,f6_,f7_⟩:=(HC.out w_ hw_).cells;go_simp;(try with_reducible rfl);done)
 (try dsimp only [Act.put])
 show runC _ _ _ 6 _ [2,8,9,10,11,12] _ _
 try simp only [List.setIfInBounds_toArray,List.set_cons_zero,List.set_cons_succ]
 refine runC_at 8 (v:=?_) (by rfl) (by rfl) (by rfl) (by kernel_rfl) (by rfl) ?_ ?_
 rotate_left
 focus (intro w_ hw_;obtain ⟨⟨f0_,f1_⟩,f2_,f3_,f4_,f5_,f6_,f7_⟩:=(HC.out w_ hw_).cells;go_simp;(try with_reducible rfl);done)
 (try dsimp only [Act.put])
 show runC _ _ _ 5 _ [2,9,10,11,12] _ _
 try simp only [List.setIfInBounds_toArray,List.set_cons_zero,List.set_cons_succ]
 refine runC_at 9 (v:=?_) (by rfl) (by rfl) (by rfl) (by kernel_rfl) (by rfl) ?_ ?_
 rotate_left
 focus (intro w_ hw_;obtain ⟨⟨f0_,f1_⟩,f2_,f3_,f4_,f5_,f6_,f7_⟩:=(HC.out w_ hw_).cells;go_simp;(try with_reducible rfl);done)
 (try dsimp only [Act.put])
 show runC _ _ _ 4 _ [2,10,11,12] _ _
 try simp only [List.setIfInBounds_toArray,List.set_cons_zero,List.set_cons_succ]
 refine runC_one 2 (by kernel_rfl) (by kernel_rfl) (by rfl) (by rfl) ?_
 refine tdoes_call (f:=?_) (args:=?_) (w1:=?_) ?_ ?_
 rotate_left 3
 focus (go_simp;refine ⟨⟨?_,?_⟩,?_⟩ <;> with_reducible rfl)
 refine (HR.out x0).mono ?_
 rintro e_ w1_ ⟨rfl,hw_⟩
 subst w1_
 refine ⟨_,rfl,sameS hSx0 ?_⟩
 (try dsimp only [Act.put])
 try simp only [List.setIfInBounds_toArray,List.set_cons_zero,List.set_cons_succ]
 show runC _ _ _ 3 _ [10,11,12] _ _
 refine runC_one 10 (by kernel_rfl) (by kernel_rfl) (by rfl) (by rfl) ?_
 refine tdoes_call (f:=?_) (args:=?_) (w1:=?_) ?_ ?_
 rotate_left 3
 focus (go_simp;refine ⟨⟨?_,?_⟩,?_⟩ <;> with_reducible rfl)
 refine (HT.out x0).mono ?_
 rintro e_ w1_ ⟨rfl,hw_⟩
 subst w1_
 refine ⟨_,rfl,sameS hSx0 ?_⟩
 (try dsimp only [Act.put])
 try simp only [List.setIfInBounds_toArray,List.set_cons_zero,List.set_cons_succ]
 show runC _ _ _ 2 _ [11,12] _ _
 refine runC_one 11 (by kernel_rfl) (by kernel_rfl) (by rfl) (by rfl) ?_
 obtain ⟨x3,h_⟩:∃ q,q=x0.alloc (.cells #[.int .u8 (rexF 0 0 i.d:Nat),.int .u8 (c:Nat),.int .u8 (bothF m i.d:Nat)] 5):=⟨_,rfl⟩
 have hb_:Below x0.heap.size x0 x3:=by rw [h_];exact (Below.refl _ _).alloc (Nat.le_refl _) _
 have hSx3:=hSx0.trans (hb_.mono hSx0.size)
 refine tdoes_op (w1:=x3) (v:=.slice (some ⟨x0.heap.size,0,none⟩) 3 3) (by rw [h_];exact exec_u8_3 _ _ _ rfl rfl rfl rfl) (sameS hSx3 ?_)
 (try dsimp only [Act.put])
 try simp only [List.setIfInBounds_toArray,List.set_cons_zero,List.set_cons_succ]
 obtain ⟨gL,hg_⟩:∃ q,q=x0.heap.size:=⟨_,rfl⟩
 have HOL:=Lh (show x3.ownsRow W.heap.size 5 1 (.slice (some ⟨gL,0,none⟩) 3 3) 3 (u8V [rexF 0 0 i.d,c,bothF m i.d]) from by rw [hg_];exact own_lit8 [rexF 0 0 i.d,c,bothF m i.d] #[.int .u8 (rexF 0 0 i.d:Nat),.int .u8 (c:Nat),.int .u8 (bothF m i.d:Nat)] rfl hSx0.size (by simp) (by simp) (by rw [h_];exact heap_alloc_new x0 _) 3 rfl)
 have HBx3:=Lh hb_
 rw [←hg_]
 clear h_ hg_ hb_
 show runC _ _ _ 1 _ [12] _ _
 refine runC_at 12 (v:=?_) (by rfl) (by rfl) (by rfl) (by kernel_rfl) (by rfl) ?_ ?_
 rotate_left
 focus (intro w_ hw_;obtain ⟨⟨f0_,f1_⟩,f2_,f3_,f4_,f5_,f6_,f7_⟩:=(HC.out w_ hw_).cells;go_simp;(try with_reducible rfl);done)
 (try dsimp only [Act.put])
 show runC _ _ _ 0 _ [] _ _
 try simp only [List.setIfInBounds_toArray,List.set_cons_zero,List.set_cons_succ]
 refine runC_nil ?_
 (try dsimp only [Act.put])
 try simp only [List.setIfInBounds_toArray,List.set_cons_zero,List.set_cons_succ]
 go_wp2
 go_ret
 exact ⟨_,_,_,by rfl,own_baseB HOL.out HB.out.size,by simp,HB.out.trans (hSx3.mono HB.out.size)⟩
theorem mulx_q:∀ q:Fin 16,Go.bits .or .u8 131 (((8*(q:Nat)):Nat):Int)=((131+8*(q:Nat):Nat):Int):=by decide +kernel
theorem mulx_bits {d t s:Int} (hd:d < 16) (ht:t < 16) (hs:0≤s∧s < 16):∃ a p s1 b t1 x1 y1:Nat,
   IntKind.u8.wrap (1 - (hi3 d:Int))=(a:Int)∧IntKind.u8.wrap ((a:Int)*128)=(p:Int)∧Go.bits .or .u8 66 (p:Int)=(s1:Int) ∧
   IntKind.u8.wrap (1 - (hi3 t:Int))=(b:Int)∧IntKind.u8.wrap ((b:Int)*32)=(t1:Int)∧Go.bits .or .u8 (s1:Int) (t1:Int)=((66+128*(1 - hi3 d)+32*(1 - hi3 t):Nat):Int) ∧
   IntKind.i64.wrap (15 - s)=(x1:Int)∧IntKind.u8.wrap (x1:Int)=(x1:Int)∧IntKind.u8.wrap ((x1:Int)*8)=(y1:Int)∧Go.bits .or .u8 131 (y1:Int)=((131+8*(15 - s).toNat:Nat):Int):=by
 obtain ⟨q,hq⟩:∃ q:Fin 16,(15 - s).toNat=q:=⟨⟨(15 - s).toNat,by omega⟩,rfl⟩
 have hql:=q.isLt
 rw [hq]
 rcases hi3_01 hd with e1 | e1 <;> rcases hi3_01 ht with e2 | e2 <;> rw [e1,e2]
 · exact ⟨1,128,194,1,32,q,8*q,by decide,by decide,by decide,by decide,by decide,by decide,by rw [IntKind.wrap_i64];omega,by rw [wrapU8];omega,by rw [wrapU8];omega,mulx_q q⟩
 · exact ⟨1,128,194,0,0,q,8*q,by decide,by decide,by decide,by decide,by decide,by decide,by rw [IntKind.wrap_i64];omega,by rw [wrapU8];omega,by rw [wrapU8];omega,mulx_q q⟩
 · exact ⟨0,0,66,1,32,q,8*q,by decide,by decide,by decide,by decide,by decide,by decide,by rw [IntKind.wrap_i64];omega,by rw [wrapU8];omega,by rw [wrapU8];omega,mulx_q q⟩
 · exact ⟨0,0,66,0,0,q,8*q,by decide,by decide,by decide,by decide,by decide,by decide,by rw [IntKind.wrap_i64];omega,by rw [wrapU8];omega,by rw [wrapU8];omega,mulx_q q⟩
set_option maxHeartbeats 8000000 in
theorem putmulx_any (c m:Nat) (i:Ins) (hd:0≤i.d∧i.d < 16) (hs:0≤i.s∧i.s < 16) (ht:0≤i.t∧i.t < 16) (w:World):Calls Tryz.prog 106 #[.agg #[.int .u8 (c:Nat),.int .u8 (m:Nat)],.agg (insRow i).toArray] w (BytesTold ([c,66+128*(1 - hi3 i.d)+32*(1 - hi3 i.t),131+8*(15 - i.s).toNat,m,bothF i.d i.t]) w):=by
 obtain ⟨W,hW⟩:∃ W,W=(w.alloc (.cells #[.int .u8 (c:Nat),.int .u8 (m:Nat)] 139)).alloc (.cells (insRow i).toArray 40):=⟨_,rfl⟩
 have hb:Below w.heap.size w W:=by rw [hW];exact ((Below.refl _ _).alloc (Nat.le_refl _) _).alloc (by simp) _
 have hf:W.heap[w.heap.size]? = some (.cells #[.int .u8 (c:Nat),.int .u8 (m:Nat)] 139 (0,0)):=by rw [hW];exact (Below.heap_alloc _ _ _ (by simp)).trans (heap_alloc_new w _)
 have hi:W.heap[w.heap.size+1]? = some (.cells (insRow i).toArray 40 (0,0)):=by
   rw [hW]
   have:=heap_alloc_new (w.alloc (.cells #[.int .u8 (c:Nat),.int .u8 (m:Nat)] 139)) (.cells (insRow i).toArray 40)
   simpa using this
 have HC:=Lh (show ∀ w_,Below W.heap.size W w_→FormAt w_ w.heap.size c m i from fun w_ h=>⟨(h.block w.heap.size (lt_of_block hf)).trans hf,(h.block (w.heap.size+1) (lt_of_block hi)).trans hi⟩)
 have HW:=Lh hW
 have HB:=Lh hb
 clear hW hb hf hi
 have HH1:=Lh (fun w_=>high_any i.d hd.2 w_)
 have HH2:=Lh (fun w_=>high_any i.t ht.2 w_)
 have HT:=Lh (fun w_=>both_any i.d i.t w_)
 obtain ⟨a1,p1,s1,b1,t1,z1,z2,f11_,f12_,f13_,f14_,f15_,f16_,f17_,f18_,f19_,f20_⟩:=mulx_bits hd.2 ht.2 hs
 obtain ⟨q1,hq1⟩:∃ q,q=66+128*(1 - hi3 i.d)+32*(1 - hi3 i.t):=⟨_,rfl⟩
 obtain ⟨q2,hq2⟩:∃ q,q=131+8*(15 - i.s).toNat:=⟨_,rfl⟩
 rw [←hq1] at f16_
 rw [←hq2] at f20_
 rw [←hq1,←hq2]
 clear hq1 hq2
 go_enter Tryz.func106,Tryz.ntmps106
 go_upto_region 1 with go_in
 rw [←HW.out]
 clear HW
 refine wp_region_grow (Below W.heap.size W) (by kernel_rfl) (by kernel_rfl) (Below.refl _ W).drew ?_
 have hSx0:=(Below.refl W.heap.size W).drew
 obtain ⟨x0,hx0⟩:∃ x0,x0=W.drew:=⟨_,rfl⟩
 rw [←hx0] at hSx0 ⊢
 clear hx0
 show runC _ _ _ 29 _ [0,1,2,3,4,5,6,7,8,9,10,11,12,13,14,15,16,17,18,19,20,21,22,23,24,25,26,27,28] _ _
 refine runC_at 0 (v:=?_) (by rfl) (by rfl) (by rfl) (by kernel_rfl) (by rfl) ?_ ?_
 rotate_left
 focus (intro w_ hw_;obtain ⟨⟨f0_,f1_⟩,f2_,f3_,f4_,f5_,f6_,f7_⟩:=(HC.out w_ hw_).cells;go_simp;(try with_reducible rfl);done)
 (try dsimp only [Act.put])
 show runC _ _ _ 28 _ [1,2,3,4,5,6,7,8,9,10,11,12,13,14,15,16,17,18,19,20,21,22,23,24,25,26,27,28] _ _
 try simp only [List.setIfInBounds_toArray,List.set_cons_zero,List.set_cons_succ]
 refine runC_at 1 (v:=?_) (by rfl) (by rfl) (by rfl) (by kernel_rfl) (by rfl) ?_ ?_
 rotate_left
 focus (intro w_ hw_;obtain ⟨⟨f0_,f1_⟩,f2_,f3_,f4_,f5_,f6_,f7_⟩:=(HC.out w_ hw_).cells;go_simp;(try with_reducible rfl);done)
 (try dsimp only [Act.put])
 show runC _ _ _ 27 _ [2,3,4,5,6,7,8,9,10,11,12,13,14,15,16,17,18,19,20,21,22,23,24,25,26,27,28] _ _
 try simp only [List.setIfInBounds_toArray,List.set_cons_zero,List.set_cons_succ]
 refine runC_at 2 (v:=?_) (by rfl) (by rfl) (by rfl) (by kernel_rfl) (by rfl) ?_ ?_
 rotate_left
 focus (intro w_ hw_;obtain ⟨⟨f0_,f1_⟩,f2_,f3_,f4_,f5_,f6_,f7_⟩:=(HC.out w_ hw_).cells;go_simp;(try with_reducible rfl);done)
 (try dsimp only [Act.put])
 show runC _ _ _ 26 _ [3,4,5,6,7,8,9,10,11,12,13,14,15,16,17,18,19,20,21,22,23,24,25,26,27,28] _ _
 try simp only [List.setIfInBounds_toArray,List.set_cons_zero,List.set_cons_succ]
 refine runC_at 3 (v:=?_) (by rfl) (by rfl) (by rfl) (by kernel_rfl) (by rfl) ?_ ?_
 rotate_left
 focus (intro w_ hw_;obtain ⟨⟨f0_,f1_⟩,f2_,f3_,f4_,f5_,f6_,f7_⟩:=(HC.out w_ hw_).cells;go_simp;(try with_reducible rfl);done)
 (try dsimp only [Act.put])
 show runC _ _ _ 25 _ [4,5,6,7,8,9,10,11,12,13,14,15,16,17,18,19,20,21,22,23,24,25,26,27,28] _ _
 try simp only [List.setIfInBounds_toArray,List.set_cons_zero,List.set_cons_succ]
 refine runC_at 8 (v:=?_) (by rfl) (by rfl) (by rfl) (by kernel_rfl) (by rfl) ?_ ?_
 rotate_left
 focus (intro w_ hw_;obtain ⟨⟨f0_,f1_⟩,f2_,f3_,f4_,f5_,f6_,f7_⟩:=(HC.out w_ hw_).cells;go_simp;(try with_reducible rfl);done)
 (try dsimp only [Act.put])
 show runC _ _ _ 24 _ [4,5,6,7,9,10,11,12,13,14,15,16,17,18,19,20,21,22,23,24,25,26,27,28] _ _
 try simp only [List.setIfInBounds_toArray,List.set_cons_zero,List.set_cons_succ]
 refine runC_at 9 (v:=?_) (by rfl) (by rfl) (by rfl) (by kernel_rfl) (by rfl) ?_ ?_
 rotate_left
 focus (intro w_ hw_;obtain ⟨⟨f0_,f1_⟩,f2_,f3_,f4_,f5_,f6_,f7_⟩:=(HC.out w_ hw_).cells;go_simp;(try with_reducible rfl);done)
 (try dsimp only [Act.put])
 show runC _ _ _ 23 _ [4,5,6,7,10,11,12,13,14,15,16,17,18,19,20,21,22,23,24,25,26,27,28] _ _
 try simp only [List.setIfInBounds_toArray,List.set_cons_zero,List.set_cons_succ]
 refine runC_at 14 (v:=?_) (by rfl) (by rfl) (by rfl) (by kernel_rfl) (by rfl) ?_ ?_
 rotate_left
 focus (intro w_ hw_;obtain ⟨⟨f0_,f1_⟩,f2_,f3_,f4_,f5_,f6_,f7_⟩:=(HC.out w_ hw_).cells;go_simp;(try with_reducible rfl);done)
 (try dsimp only [Act.put])
 show runC _ _ _ 22 _ [4,5,6,7,10,11,12,13,15,16,17,18,19,20,21,22,23,24,25,26,27,28] _ _
 try simp only [List.setIfInBounds_toArray,List.set_cons_zero,List.set_cons_succ]
 refine runC_at 15 (v:=?_) (by rfl) (by rfl) (by rfl) (by kernel_rfl) (by rfl) ?_ ?_
 rotate_left
 focus (intro w_ hw_;obtain ⟨⟨f0_,f1_⟩,f2_,f3_,f4_,f5_,f6_,f7_⟩:=(HC.out w_ hw_).cells;go_simp;(try with_reducible rfl);done)
 (try dsimp only [Act.put])
 show runC _ _ _ 21 _ [4,5,6,7,10,11,12,13,16,17,18,19,20,21,22,23,24,25,26,27,28] _ _
 try simp only [List.setIfInBounds_toArray,List.set_cons_zero,List.set_cons_succ]
 refine runC_at 16 (v:=?_) (by rfl) (by rfl) (by rfl) (by kernel_rfl) (by rfl) ?_ ?_
 rotate_left
 focus (intro w_ hw_;obtain ⟨⟨f0_,f1_⟩,f2_,f3_,f4_,f5_,f6_,f7_⟩:=(HC.out w_ hw_).cells;go_simp;(try with_reducible rfl);done)
 (try dsimp only [Act.put])
 show runC _ _ _ 20 _ [4,5,6,7,10,11,12,13,17,18,19,20,21,22,23,24,25,26,27,28] _ _
 try simp only [List.setIfInBounds_toArray,List.set_cons_zero,List.set_cons_succ]
 refine runC_at 17 (v:=?_) (by rfl) (by rfl) (by rfl) (by kernel_rfl) (by rfl) ?_ ?_
 rotate_left
 focus (intro w_ hw_;obtain ⟨⟨f0_,f1_⟩,f2_,f3_,f4_,f5_,f6_,f7_⟩:=(HC.out w_ hw_).cells;go_simp;(try with_reducible rfl);done)
 (try dsimp only [Act.put])
 show runC _ _ _ 19 _ [4,5,6,7,10,11,12,13,18,19,20,21,22,23,24,25,26,27,28] _ _
 try simp only [List.setIfInBounds_toArray,List.set_cons_zero,List.set_cons_succ]
 refine runC_at 18 (v:=?_) (by rfl) (by rfl) (by rfl) (by kernel_rfl) (by rfl) ?_ ?_
 rotate_left
 focus (intro w_ hw_;obtain ⟨⟨f0_,f1_⟩,f2_,f3_,f4_,f5_,f6_,f7_⟩:=(HC.out w_ hw_).cells;go_simp;(try with_reducible rfl);done)
 (try dsimp only [Act.put])
 show runC _ _ _ 18 _ [4,5,6,7,10,11,12,13,19,20,21,22,23,24,25,26,27,28] _ _
 try simp only [List.setIfInBounds_toArray,List.set_cons_zero,List.set_cons_succ]
 refine runC_at 19 (v:=?_) (by rfl) (by rfl) (by rfl) (by kernel_rfl) (by rfl) ?_ ?_
 rotate_left
 focus (intro w_ hw_;obtain ⟨⟨f0_,f1_⟩,f2_,f3_,f4_,f5_,f6_,f7_⟩:=(HC.out w_ hw_).cells;go_simp;(try with_reducible rfl);done)
 (try dsimp only [Act.put])
 show runC _ _ _ 17 _ [4,5,6,7,10,11,12,13,20,21,22,23,24,25,26,27,28] _ _
 try simp only [List.setIfInBounds_toArray,List.set_cons_zero,List.set_cons_succ]
 refine runC_at 20 (v:=?_) (by rfl) (by rfl) (by rfl) (by kernel_rfl) (by rfl) ?_ ?_
 rotate_left
 focus (intro w_ hw_;obtain ⟨⟨f0_,f1_⟩,f2_,f3_,f4_,f5_,f6_,f7_⟩:=(HC.out w_ hw_).cells;go_simp;(try with_reducible rfl);done)
 (try dsimp only [Act.put])
 show runC _ _ _ 16 _ [4,5,6,7,10,11,12,13,21,22,23,24,25,26,27,28] _ _
 try simp only [List.setIfInBounds_toArray,List.set_cons_zero,List.set_cons_succ]
 refine runC_at 21 (v:=?_) (by rfl) (by rfl) (by rfl) (by kernel_rfl) (by rfl) ?_ ?_
 rotate_left
 focus (intro w_ hw_;obtain ⟨⟨f0_,f1_⟩,f2_,f3_,f4_,f5_,f6_,f7_⟩:=(HC.out w_ hw_).cells;go_simp;(try with_reducible rfl);done)
 (try dsimp only [Act.put])
 show runC _ _ _ 15 _ [4,5,6,7,10,11,12,13,22,23,24,25,26,27,28] _ _
 try simp only [List.setIfInBounds_toArray,List.set_cons_zero,List.set_cons_succ]
 refine runC_at 22 (v:=?_) (by rfl) (by rfl) (by rfl) (by kernel_rfl) (by rfl) ?_ ?_
 rotate_left
 focus (intro w_ hw_;obtain ⟨⟨f0_,f1_⟩,f2_,f3_,f4_,f5_,f6_,f7_⟩:=(HC.out w_ hw_).cells;go_simp;(try with_reducible rfl);done)
 (try dsimp only [Act.put])
 show runC _ _ _ 14 _ [4,5,6,7,10,11,12,13,23,24,25,26,27,28] _ _
 try simp only [List.setIfInBounds_toArray,List.set_cons_zero,List.set_cons_succ]
 refine runC_at 23 (v:=?_) (by rfl) (by rfl) (by rfl) (by kernel_rfl) (by rfl) ?_ ?_
 rotate_left
 focus (intro w_ hw_;obtain ⟨⟨f0_,f1_⟩,f2_,f3_,f4_,f5_,f6_,f7_⟩:=(HC.out w_ hw_).cells;go_simp;(try with_reducible rfl);done)
 (try dsimp only [Act.put])
 show runC _ _ _ 13 _ [4,5,6,7,10,11,12,13,24,25,26,27,28] _ _
 try simp only [List.setIfInBounds_toArray,List.set_cons_zero,List.set_cons_succ]
 refine runC_at 24 (v:=?_) (by rfl) (by rfl) (by rfl) (by kernel_rfl) (by rfl) ?_ ?_
 rotate_left
 focus (intro w_ hw_;obtain ⟨⟨f0_,f1_⟩,f2_,f3_,f4_,f5_,f6_,f7_⟩:=(HC.out w_ hw_).cells;go_simp;(try with_reducible rfl);done)
 (try dsimp only [Act.put])
 show runC _ _ _ 12 _ [4,5,6,7,10,11,12,13,25,26,27,28] _ _
 try simp only [List.setIfInBounds_toArray,List.set_cons_zero,List.set_cons_succ]
 refine runC_at 25 (v:=?_) (by rfl) (by rfl) (by rfl) (by kernel_rfl) (by rfl) ?_ ?_
 rotate_left
 focus (intro w_ hw_;obtain ⟨⟨f0_,f1_⟩,f2_,f3_,f4_,f5_,f6_,f7_⟩:=(HC.out w_ hw_).cells;go_simp;(try with_reducible rfl);done)
 (try dsimp only [Act.put])
 show runC _ _ _ 11 _ [4,5,6,7,10,11,12,13,26,27,28] _ _
 try simp only [List.setIfInBounds_toArray,List.set_cons_zero,List.set_cons_succ]
 refine runC_one 4 (by kernel_rfl) (by kernel_rfl) (by rfl) (by rfl) ?_
 refine tdoes_call (f:=?_) (args:=?_) (w1:=?_) ?_ ?_
 rotate_left 3
 focus (go_simp;refine ⟨⟨?_,?_⟩,?_⟩ <;> with_reducible rfl)
 refine (HH1.out x0).mono ?_
 rintro e_ w1_ ⟨rfl,hw_⟩
 subst w1_
 refine ⟨_,rfl,sameS hSx0 ?_⟩
 (try dsimp only [Act.put])
 try simp only [List.setIfInBounds_toArray,List.set_cons_zero,List.set_cons_succ]
 show runC _ _ _ 10 _ [5,6,7,10,11,12,13,26,27,28] _ _
 refine runC_at 5 (v:=?_) (by rfl) (by rfl) (by rfl) (by kernel_rfl) (by rfl) ?_ ?_
 rotate_left
 focus (intro w_ hw_;obtain ⟨⟨f0_,f1_⟩,f2_,f3_,f4_,f5_,f6_,f7_⟩:=(HC.out w_ hw_).cells;go_simp;(try with_reducible rfl);done)
 (try dsimp only [Act.put])
 show runC _ _ _ 9 _ [6,7,10,11,12,13,26,27,28] _ _
 try simp only [List.setIfInBounds_toArray,List.set_cons_zero,List.set_cons_succ]
 refine runC_at 6 (v:=?_) (by rfl) (by rfl) (by rfl) (by kernel_rfl) (by rfl) ?_ ?_
 rotate_left
 focus (intro w_ hw_;obtain ⟨⟨f0_,f1_⟩,f2_,f3_,f4_,f5_,f6_,f7_⟩:=(HC.out w_ hw_).cells;go_simp;(try with_reducible rfl);done)
 (try dsimp only [Act.put])
 show runC _ _ _ 8 _ [7,10,11,12,13,26,27,28] _ _
 try simp only [List.setIfInBounds_toArray,List.set_cons_zero,List.set_cons_succ]
 refine runC_at 7 (v:=?_) (by rfl) (by rfl) (by rfl) (by kernel_rfl) (by rfl) ?_ ?_
 rotate_left
 focus (intro w_ hw_;obtain ⟨⟨f0_,f1_⟩,f2_,f3_,f4_,f5_,f6_,f7_⟩:=(HC.out w_ hw_).cells;go_simp;(try with_reducible rfl);done)
 (try dsimp only [Act.put])
 show runC _ _ _ 7 _ [10,11,12,13,26,27,28] _ _
 try simp only [List.setIfInBounds_toArray,List.set_cons_zero,List.set_cons_succ]
 refine runC_one 10 (by kernel_rfl) (by kernel_rfl) (by rfl) (by rfl) ?_
 refine tdoes_call (f:=?_) (args:=?_) (w1:=?_) ?_ ?_
 rotate_left 3
 focus (go_simp;refine ⟨⟨?_,?_⟩,?_⟩ <;> with_reducible rfl)
 refine (HH2.out x0).mono ?_
 rintro e_ w1_ ⟨rfl,hw_⟩
 subst w1_
 refine ⟨_,rfl,sameS hSx0 ?_⟩
 (try dsimp only [Act.put])
 try simp only [List.setIfInBounds_toArray,List.set_cons_zero,List.set_cons_succ]
 show runC _ _ _ 6 _ [11,12,13,26,27,28] _ _
 refine runC_at 11 (v:=?_) (by rfl) (by rfl) (by rfl) (by kernel_rfl) (by rfl) ?_ ?_
 rotate_left
 focus (intro w_ hw_;obtain ⟨⟨f0_,f1_⟩,f2_,f3_,f4_,f5_,f6_,f7_⟩:=(HC.out w_ hw_).cells;go_simp;(try with_reducible rfl);done)
 (try dsimp only [Act.put])
 show runC _ _ _ 5 _ [12,13,26,27,28] _ _
 try simp only [List.setIfInBounds_toArray,List.set_cons_zero,List.set_cons_succ]
 refine runC_at 12 (v:=?_) (by rfl) (by rfl) (by rfl) (by kernel_rfl) (by rfl) ?_ ?_
 rotate_left
 focus (intro w_ hw_;obtain ⟨⟨f0_,f1_⟩,f2_,f3_,f4_,f5_,f6_,f7_⟩:=(HC.out w_ hw_).cells;go_simp;(try with_reducible rfl);done)
 (try dsimp only [Act.put])
 show runC _ _ _ 4 _ [13,26,27,28] _ _
 try simp only [List.setIfInBounds_toArray,List.set_cons_zero,List.set_cons_succ]
 refine runC_at 13 (v:=?_) (by rfl) (by rfl) (by rfl) (by kernel_rfl) (by rfl) ?_ ?_
 rotate_left
 focus (intro w_ hw_;obtain ⟨⟨f0_,f1_⟩,f2_,f3_,f4_,f5_,f6_,f7_⟩:=(HC.out w_ hw_).cells;go_simp;(try with_reducible rfl);done)
 (try dsimp only [Act.put])
 show runC _ _ _ 3 _ [26,27,28] _ _
 try simp only [List.setIfInBounds_toArray,List.set_cons_zero,List.set_cons_succ]
 refine runC_one 26 (by kernel_rfl) (by kernel_rfl) (by rfl) (by rfl) ?_
 refine tdoes_call (f:=?_) (args:=?_) (w1:=?_) ?_ ?_
 rotate_left 3
 focus (go_simp;refine ⟨⟨?_,?_⟩,?_⟩ <;> with_reducible rfl)
 refine (HT.out x0).mono ?_
 rintro e_ w1_ ⟨rfl,hw_⟩
 subst w1_
 refine ⟨_,rfl,sameS hSx0 ?_⟩
 (try dsimp only [Act.put])
 try simp only [List.setIfInBounds_toArray,List.set_cons_zero,List.set_cons_succ]
 show runC _ _ _ 2 _ [27,28] _ _
 refine runC_one 27 (by kernel_rfl) (by kernel_rfl) (by rfl) (by rfl) ?_
 obtain ⟨x4,h_⟩:∃ q,q=x0.alloc (.cells #[.int .u8 (c:Nat),.int .u8 (q1:Nat),.int .u8 (q2:Nat),.int .u8 (m:Nat),.int .u8 (bothF i.d i.t:Nat)] 5):=⟨_,rfl⟩
 have hb_:Below x0.heap.size x0 x4:=by rw [h_];exact (Below.refl _ _).alloc (Nat.le_refl _) _
 have hSx4:=hSx0.trans (hb_.mono hSx0.size)
 refine tdoes_op (w1:=x4) (v:=.slice (some ⟨x0.heap.size,0,none⟩) 5 5) (by rw [h_];exact exec_u8_5 _ _ _ _ _ rfl rfl rfl rfl rfl rfl) (sameS hSx4 ?_)
 (try dsimp only [Act.put])
 try simp only [List.setIfInBounds_toArray,List.set_cons_zero,List.set_cons_succ]
 obtain ⟨gL,hg_⟩:∃ q,q=x0.heap.size:=⟨_,rfl⟩
 have HOL:=Lh (show x4.ownsRow W.heap.size 5 1 (.slice (some ⟨gL,0,none⟩) 5 5) 5 (u8V [c,q1,q2,m,bothF i.d i.t]) from by rw [hg_];exact own_lit8 [c,q1,q2,m,bothF i.d i.t] #[.int .u8 (c:Nat),.int .u8 (q1:Nat),.int .u8 (q2:Nat),.int .u8 (m:Nat),.int .u8 (bothF i.d i.t:Nat)] rfl hSx0.size (by simp) (by simp) (by rw [h_];exact heap_alloc_new x0 _) 5 rfl)
 have HBx4:=Lh hb_
 rw [←hg_]
 clear h_ hg_ hb_
 show runC _ _ _ 1 _ [28] _ _
 refine runC_at 28 (v:=?_) (by rfl) (by rfl) (by rfl) (by kernel_rfl) (by rfl) ?_ ?_
 rotate_left
 focus (intro w_ hw_;obtain ⟨⟨f0_,f1_⟩,f2_,f3_,f4_,f5_,f6_,f7_⟩:=(HC.out w_ hw_).cells;go_simp;(try with_reducible rfl);done)
 (try dsimp only [Act.put])
 show runC _ _ _ 0 _ [] _ _
 try simp only [List.setIfInBounds_toArray,List.set_cons_zero,List.set_cons_succ]
 refine runC_nil ?_
 (try dsimp only [Act.put])
 try simp only [List.setIfInBounds_toArray,List.set_cons_zero,List.set_cons_succ]
 go_wp2
 go_ret
 exact ⟨_,_,_,by rfl,own_baseB HOL.out HB.out.size,by simp,HB.out.trans (hSx4.mono HB.out.size)⟩
set_option maxHeartbeats 8000000 in
theorem putwide_any (c m:Nat) (i:Ins) (hd:0≤i.d∧i.d < 16) (hc:c < 248) (w:World):Calls Tryz.prog 102 #[.agg #[.int .u8 (c:Nat),.int .u8 (m:Nat)],.agg (insRow i).toArray] w (BytesTold ([rexF 0 0 i.d,c+lo3 i.d]++littleF (i.imm) 8) w):=by
 obtain ⟨W,hW⟩:∃ W,W=(w.alloc (.cells #[.int .u8 (c:Nat),.int .u8 (m:Nat)] 139)).alloc (.cells (insRow i).toArray 40):=⟨_,rfl⟩
 have hb:Below w.heap.size w W:=by rw [hW];exact ((Below.refl _ _).alloc (Nat.le_refl _) _).alloc (by simp) _
 have hf:W.heap[w.heap.size]? = some (.cells #[.int .u8 (c:Nat),.int .u8 (m:Nat)] 139 (0,0)):=by rw [hW];exact (Below.heap_alloc _ _ _ (by simp)).trans (heap_alloc_new w _)
 have hi:W.heap[w.heap.size+1]? = some (.cells (insRow i).toArray 40 (0,0)):=by
   rw [hW]
   have:=heap_alloc_new (w.alloc (.cells #[.int .u8 (c:Nat),.int .u8 (m:Nat)] 139)) (.cells (insRow i).toArray 40)
   simpa using this
 have HC:=Lh (show ∀ w_,Below W.heap.size W w_→FormAt w_ w.heap.size c m i from fun w_ h=>⟨(h.block w.heap.size (lt_of_block hf)).trans hf,(h.block (w.heap.size+1) (lt_of_block hi)).trans hi⟩)
 have HW:=Lh hW
 have HB:=Lh hb
 clear hW hb hf hi
 have HR:=Lh (fun w_=>rex_any 0 0 i.d (by decide) (by decide) hd.2 w_)
 have HLW:=Lh (fun w_=>low_any i.d w_)
 have HLT:=Lh (fun w_=>show Calls Tryz.prog 138 #[.int .i64 (i.imm),.int .i64 8] w_ (BytesTold (littleF (i.imm) 8) w_) from little_any (i.imm) 8 (by decide) w_)
 have f9_:IntKind.u8.wrap ((c:Int)+(lo3 i.d:Int))=((c+lo3 i.d:Nat):Int):=by have:=lo3_lt i.d;rw [wrapU8];omega
 go_enter Tryz.func102,Tryz.ntmps102
 go_upto_region 1 with go_in
 rw [←HW.out]
 clear HW
 refine wp_region_grow (Below W.heap.size W) (by kernel_rfl) (by kernel_rfl) (Below.refl _ W).drew ?_
 have hSx0:=(Below.refl W.heap.size W).drew
 obtain ⟨x0,hx0⟩:∃ x0,x0=W.drew:=⟨_,rfl⟩
 rw [←hx0] at hSx0 ⊢
 clear hx0
 show runC _ _ _ 15 _ [0,1,2,3,4,5,6,7,8,9,10,11,12,13,14] _ _
 refine runC_at 0 (v:=?_) (by rfl) (by rfl) (by rfl) (by kernel_rfl) (by rfl) ?_ ?_
 rotate_left
 focus (intro w_ hw_;obtain ⟨⟨f0_,f1_⟩,f2_,f3_,f4_,f5_,f6_,f7_⟩:=(HC.out w_ hw_).cells;go_simp;(try with_reducible rfl);done)
 (try dsimp only [Act.put])
 show runC _ _ _ 14 _ [1,2,3,4,5,6,7,8,9,10,11,12,13,14] _ _
 try simp only [List.setIfInBounds_toArray,List.set_cons_zero,List.set_cons_succ]
 refine runC_at 1 (v:=?_) (by rfl) (by rfl) (by rfl) (by kernel_rfl) (by rfl) ?_ ?_
 rotate_left
 focus (intro w_ hw_;obtain ⟨⟨f0_,f1_⟩,f2_,f3_,f4_,f5_,f6_,f7_⟩:=(HC.out w_ hw_).cells;go_simp;(try with_reducible rfl);done)
 (try dsimp only [Act.put])
 show runC _ _ _ 13 _ [2,3,4,5,6,7,8,9,10,11,12,13,14] _ _
 try simp only [List.setIfInBounds_toArray,List.set_cons_zero,List.set_cons_succ]
 refine runC_at 3 (v:=?_) (by rfl) (by rfl) (by rfl) (by kernel_rfl) (by rfl) ?_ ?_
 rotate_left
 focus (intro w_ hw_;obtain ⟨⟨f0_,f1_⟩,f2_,f3_,f4_,f5_,f6_,f7_⟩:=(HC.out w_ hw_).cells;go_simp;(try with_reducible rfl);done)
 (try dsimp only [Act.put])
 show runC _ _ _ 12 _ [2,4,5,6,7,8,9,10,11,12,13,14] _ _
 try simp only [List.setIfInBounds_toArray,List.set_cons_zero,List.set_cons_succ]
 refine runC_at 4 (v:=?_) (by rfl) (by rfl) (by rfl) (by kernel_rfl) (by rfl) ?_ ?_
 rotate_left
 focus (intro w_ hw_;obtain ⟨⟨f0_,f1_⟩,f2_,f3_,f4_,f5_,f6_,f7_⟩:=(HC.out w_ hw_).cells;go_simp;(try with_reducible rfl);done)
 (try dsimp only [Act.put])
 show runC _ _ _ 11 _ [2,5,6,7,8,9,10,11,12,13,14] _ _
 try simp only [List.setIfInBounds_toArray,List.set_cons_zero,List.set_cons_succ]
 refine runC_at 5 (v:=?_) (by rfl) (by rfl) (by rfl) (by kernel_rfl) (by rfl) ?_ ?_
 rotate_left
 focus (intro w_ hw_;obtain ⟨⟨f0_,f1_⟩,f2_,f3_,f4_,f5_,f6_,f7_⟩:=(HC.out w_ hw_).cells;go_simp;(try with_reducible rfl);done)
 (try dsimp only [Act.put])
 show runC _ _ _ 10 _ [2,6,7,8,9,10,11,12,13,14] _ _
 try simp only [List.setIfInBounds_toArray,List.set_cons_zero,List.set_cons_succ]
 refine runC_at 6 (v:=?_) (by rfl) (by rfl) (by rfl) (by kernel_rfl) (by rfl) ?_ ?_
 rotate_left
 focus (intro w_ hw_;obtain ⟨⟨f0_,f1_⟩,f2_,f3_,f4_,f5_,f6_,f7_⟩:=(HC.out w_ hw_).cells;go_simp;(try with_reducible rfl);done)
 (try dsimp only [Act.put])
 show runC _ _ _ 9 _ [2,7,8,9,10,11,12,13,14] _ _
 try simp only [List.setIfInBounds_toArray,List.set_cons_zero,List.set_cons_succ]
 refine runC_at 10 (v:=?_) (by rfl) (by rfl) (by rfl) (by kernel_rfl) (by rfl) ?_ ?_
 rotate_left
 focus (intro w_ hw_;obtain ⟨⟨f0_,f1_⟩,f2_,f3_,f4_,f5_,f6_,f7_⟩:=(HC.out w_ hw_).cells;go_simp;(try with_reducible rfl);done)
 (try dsimp only [Act.put])
 show runC _ _ _ 8 _ [2,7,8,9,11,12,13,14] _ _
 try simp only [List.setIfInBounds_toArray,List.set_cons_zero,List.set_cons_succ]
 refine runC_at 11 (v:=?_) (by rfl) (by rfl) (by rfl) (by kernel_rfl) (by rfl) ?_ ?_
 rotate_left
 focus (intro w_ hw_;obtain ⟨⟨f0_,f1_⟩,f2_,f3_,f4_,f5_,f6_,f7_⟩:=(HC.out w_ hw_).cells;go_simp;(try with_reducible rfl);done)
 (try dsimp only [Act.put])
 show runC _ _ _ 7 _ [2,7,8,9,12,13,14] _ _
 try simp only [List.setIfInBounds_toArray,List.set_cons_zero,List.set_cons_succ]
 refine runC_one 2 (by kernel_rfl) (by kernel_rfl) (by rfl) (by rfl) ?_
 refine tdoes_call (f:=?_) (args:=?_) (w1:=?_) ?_ ?_
 rotate_left 3
 focus (go_simp;refine ⟨⟨?_,?_⟩,?_⟩ <;> with_reducible rfl)
 refine (HR.out x0).mono ?_
 rintro e_ w1_ ⟨rfl,hw_⟩
 subst w1_
 refine ⟨_,rfl,sameS hSx0 ?_⟩
 (try dsimp only [Act.put])
 try simp only [List.setIfInBounds_toArray,List.set_cons_zero,List.set_cons_succ]
 show runC _ _ _ 6 _ [7,8,9,12,13,14] _ _
 refine runC_one 7 (by kernel_rfl) (by kernel_rfl) (by rfl) (by rfl) ?_
 refine tdoes_call (f:=?_) (args:=?_) (w1:=?_) ?_ ?_
 rotate_left 3
 focus (go_simp;refine ⟨⟨?_,?_⟩,?_⟩ <;> with_reducible rfl)
 refine (HLW.out x0).mono ?_
 rintro e_ w1_ ⟨rfl,hw_⟩
 subst w1_
 refine ⟨_,rfl,sameS hSx0 ?_⟩
 (try dsimp only [Act.put])
 try simp only [List.setIfInBounds_toArray,List.set_cons_zero,List.set_cons_succ]
 show runC _ _ _ 5 _ [8,9,12,13,14] _ _
 refine runC_at 8 (v:=?_) (by rfl) (by rfl) (by rfl) (by kernel_rfl) (by rfl) ?_ ?_
 rotate_left
 focus (intro w_ hw_;obtain ⟨⟨f0_,f1_⟩,f2_,f3_,f4_,f5_,f6_,f7_⟩:=(HC.out w_ hw_).cells;go_simp;(try with_reducible rfl);done)
 (try dsimp only [Act.put])
 show runC _ _ _ 4 _ [9,12,13,14] _ _
 try simp only [List.setIfInBounds_toArray,List.set_cons_zero,List.set_cons_succ]
 refine runC_two 9 12 (by kernel_rfl) (by kernel_rfl) (by rfl) (by rfl) (by rfl) (by rfl) ?_ ?_
 · obtain ⟨x3,h_⟩:∃ q,q=x0.alloc (.cells #[.int .u8 (rexF 0 0 i.d:Nat),.int .u8 (c+lo3 i.d:Nat)] 5):=⟨_,rfl⟩
   have hb_:Below x0.heap.size x0 x3:=by rw [h_];exact (Below.refl _ _).alloc (Nat.le_refl _) _
   have hSx3:=hSx0.trans (hb_.mono hSx0.size)
   refine tdoes_op (w1:=x3) (v:=.slice (some ⟨x0.heap.size,0,none⟩) 2 2) (by rw [h_];exact exec_u8_2 _ _ rfl rfl rfl) (sameS hSx3 ?_)
   (try dsimp only [Act.put])
   try simp only [List.setIfInBounds_toArray,List.set_cons_zero,List.set_cons_succ]
   obtain ⟨gL,hg_⟩:∃ q,q=x0.heap.size:=⟨_,rfl⟩
   have HOL:=Lh (show x3.ownsRow W.heap.size 5 1 (.slice (some ⟨gL,0,none⟩) 2 2) 2 (u8V [rexF 0 0 i.d,c+lo3 i.d]) from by rw [hg_];exact own_lit8 [rexF 0 0 i.d,c+lo3 i.d] #[.int .u8 (rexF 0 0 i.d:Nat),.int .u8 (c+lo3 i.d:Nat)] rfl hSx0.size (by simp) (by simp) (by rw [h_];exact heap_alloc_new x0 _) 2 rfl)
   have HBx3:=Lh hb_
   rw [←hg_]
   clear h_ hg_ hb_
   show runC _ _ _ 3 _ [12,13,14] _ _
   refine runC_one 12 (by kernel_rfl) (by kernel_rfl) (by rfl) (by rfl) ?_
   refine tdoes_call (f:=?_) (args:=?_) (w1:=?_) ?_ ?_
   rotate_left 3
   focus (go_simp;refine ⟨⟨?_,?_⟩,?_⟩ <;> with_reducible rfl)
   refine (HLT.out x3).mono ?_
   rintro e_ x4 ⟨AT,nT,cT,rfl,ho_,hn_,hb_⟩
   have hSx4:=hSx3.trans (hb_.mono hSx3.size)
   have HOT:=Lh ho_
   have HNT:=Lh hn_
   have HBx4:=Lh hb_
   clear ho_ hn_ hb_
   refine ⟨_,rfl,sameS hSx4 ?_⟩
   (try dsimp only [Act.put])
   try simp only [List.setIfInBounds_toArray,List.set_cons_zero,List.set_cons_succ]
   show runC _ _ _ 2 _ [13,14] _ _
   refine runC_one 13 (by kernel_rfl) (by kernel_rfl) (by rfl) (by rfl) ?_
   have hA_:x4.ownsRow W.heap.size 5 1 (.slice (some ⟨gL,0,none⟩) 2 2) 2 (u8V ([rexF 0 0 i.d,c+lo3 i.d])):=by first | exact HOL.out | exact own_keepB HOL.out HBx4.out
   have hB_:∃ b_,x4.ownsRow b_ 5 1 (.slice AT nT cT) nT (u8V (littleF (i.imm) 8)):=by first | exact ⟨_,HOT.out⟩ | exact ⟨_,own_keepB HOT.out HBx4.out⟩
   obtain ⟨b_,hB_⟩:=hB_
   refine tdoes_app8 _ _ rfl W.heap.size b_ (.slice (some ⟨gL,0,none⟩) 2 2) (.slice AT nT cT) 2 nT ([rexF 0 0 i.d,c+lo3 i.d]) (littleF (i.imm) 8) rfl rfl hA_ hB_ (by have:=HNT.out;rw [little_len] at this;omega) hSx4.size ?_
   intro v_ x5 ho_ hg_
   obtain ⟨Ar,cr,rfl,h_⟩:=own_formB ho_
   have hSx5:=Below.grown hSx4 hg_ hSx4.size (fun k_ hk_=>(own_ltB hA_ k_ hk_).2)
   have HOr:=Lh ho_
   clear ho_ hg_ h_ hA_ hB_
   refine sameS hSx5 ?_
   (try dsimp only [Act.put])
   try simp only [List.setIfInBounds_toArray,List.set_cons_zero,List.set_cons_succ]
   show runC _ _ _ 1 _ [14] _ _
   refine runC_at 14 (v:=?_) (by rfl) (by rfl) (by rfl) (by kernel_rfl) (by rfl) ?_ ?_
   rotate_left
   focus (intro w_ hw_;obtain ⟨⟨f0_,f1_⟩,f2_,f3_,f4_,f5_,f6_,f7_⟩:=(HC.out w_ hw_).cells;go_simp;(try with_reducible rfl);done)
   (try dsimp only [Act.put])
   show runC _ _ _ 0 _ [] _ _
   try simp only [List.setIfInBounds_toArray,List.set_cons_zero,List.set_cons_succ]
   refine runC_nil ?_
   (try dsimp only [Act.put])
   try simp only [List.setIfInBounds_toArray,List.set_cons_zero,List.set_cons_succ]
   go_wp2
   go_ret
   exact ⟨_,_,_,by rfl,own_baseB HOr.out HB.out.size,by have:=HNT.out;simp [little_len] at *;omega,HB.out.trans (hSx5.mono HB.out.size)⟩
 · refine tdoes_call (f:=?_) (args:=?_) (w1:=?_) ?_ ?_
   rotate_left 3
   focus (go_simp;refine ⟨⟨?_,?_⟩,?_⟩ <;> with_reducible rfl)
   refine (HLT.out x0).mono ?_
   rintro e_ x6 ⟨AT,nT,cT,rfl,ho_,hn_,hb_⟩
   have hSx6:=hSx0.trans (hb_.mono hSx0.size)
   have HOT:=Lh ho_
   have HNT:=Lh hn_
   have HBx6:=Lh hb_
   clear ho_ hn_ hb_
   refine ⟨_,rfl,sameS hSx6 ?_⟩
   (try dsimp only [Act.put])
   try simp only [List.setIfInBounds_toArray,List.set_cons_zero,List.set_cons_succ]
   show runC _ _ _ 3 _ [9,13,14] _ _
   refine runC_one 9 (by kernel_rfl) (by kernel_rfl) (by rfl) (by rfl) ?_
   obtain ⟨x7,h_⟩:∃ q,q=x6.alloc (.cells #[.int .u8 (rexF 0 0 i.d:Nat),.int .u8 (c+lo3 i.d:Nat)] 5):=⟨_,rfl⟩
   have hb_:Below x6.heap.size x6 x7:=by rw [h_];exact (Below.refl _ _).alloc (Nat.le_refl _) _
   have hSx7:=hSx6.trans (hb_.mono hSx6.size)
   refine tdoes_op (w1:=x7) (v:=.slice (some ⟨x6.heap.size,0,none⟩) 2 2) (by rw [h_];exact exec_u8_2 _ _ rfl rfl rfl) (sameS hSx7 ?_)
   (try dsimp only [Act.put])
   try simp only [List.setIfInBounds_toArray,List.set_cons_zero,List.set_cons_succ]
   obtain ⟨gL,hg_⟩:∃ q,q=x6.heap.size:=⟨_,rfl⟩
   have HOL:=Lh (show x7.ownsRow W.heap.size 5 1 (.slice (some ⟨gL,0,none⟩) 2 2) 2 (u8V [rexF 0 0 i.d,c+lo3 i.d]) from by rw [hg_];exact own_lit8 [rexF 0 0 i.d,c+lo3 i.d] #[.int .u8 (rexF 0 0 i.d:Nat),.int .u8 (c+lo3 i.d:Nat)] rfl hSx6.size (by simp) (by simp) (by rw [h_];exact heap_alloc_new x6 _) 2 rfl)
   have HBx7:=Lh hb_
   rw [←hg_]
   clear h_ hg_ hb_
   show runC _ _ _ 2 _ [13,14] _ _
   refine runC_one 13 (by kernel_rfl) (by kernel_rfl) (by rfl) (by rfl) ?_
   have hA_:x7.ownsRow W.heap.size 5 1 (.slice (some ⟨gL,0,none⟩) 2 2) 2 (u8V ([rexF 0 0 i.d,c+lo3 i.d])):=by first | exact HOL.out | exact own_keepB HOL.out HBx7.out
   have hB_:∃ b_,x7.ownsRow b_ 5 1 (.slice AT nT cT) nT (u8V (littleF (i.imm) 8)):=by first | exact ⟨_,HOT.out⟩ | exact ⟨_,own_keepB HOT.out HBx7.out⟩
   obtain ⟨b_,hB_⟩:=hB_
   refine tdoes_app8 _ _ rfl W.heap.size b_ (.slice (some ⟨gL,0,none⟩) 2 2) (.slice AT nT cT) 2 nT ([rexF 0 0 i.d,c+lo3 i.d]) (littleF (i.imm) 8) rfl rfl hA_ hB_ (by have:=HNT.out;rw [little_len] at this;omega) hSx7.size ?_
   intro v_ x8 ho_ hg_
   obtain ⟨Ar,cr,rfl,h_⟩:=own_formB ho_
   have hSx8:=Below.grown hSx7 hg_ hSx7.size (fun k_ hk_=>(own_ltB hA_ k_ hk_).2)
   have HOr:=Lh ho_
   clear ho_ hg_ h_ hA_ hB_
   refine sameS hSx8 ?_
   (try dsimp only [Act.put])
   try simp only [List.setIfInBounds_toArray,List.set_cons_zero,List.set_cons_succ]
   show runC _ _ _ 1 _ [14] _ _
   refine runC_at 14 (v:=?_) (by rfl) (by rfl) (by rfl) (by kernel_rfl) (by rfl) ?_ ?_
   rotate_left
   focus (intro w_ hw_;obtain ⟨⟨f0_,f1_⟩,f2_,f3_,f4_,f5_,f6_,f7_⟩:=(HC.out w_ hw_).cells;go_simp;(try with_reducible rfl);done)
   (try dsimp only [Act.put])
   show runC _ _ _ 0 _ [] _ _
   try simp only [List.setIfInBounds_toArray,List.set_cons_zero,List.set_cons_succ]
   refine runC_nil ?_
   (try dsimp only [Act.put])
   try simp only [List.setIfInBounds_toArray,List.set_cons_zero,List.set_cons_succ]
   go_wp2
   go_ret
   exact ⟨_,_,_,by rfl,own_baseB HOr.out HB.out.size,by have:=HNT.out;simp [little_len] at *;omega,HB.out.trans (hSx8.mono HB.out.size)⟩
set_option maxHeartbeats 8000000 in
theorem putnumber_any (c m:Nat) (i:Ins) (hd:0≤i.d∧i.d < 16) (hm:m < 8) (w:World):Calls Tryz.prog 105 #[.agg #[.int .u8 (c:Nat),.int .u8 (m:Nat)],.agg (insRow i).toArray] w (BytesTold ([rexF 0 0 i.d,c,bothF m i.d]++littleF (i.imm) 4) w):=by
 obtain ⟨W,hW⟩:∃ W,W=(w.alloc (.cells #[.int .u8 (c:Nat),.int .u8 (m:Nat)] 139)).alloc (.cells (insRow i).toArray 40):=⟨_,rfl⟩
 have hb:Below w.heap.size w W:=by rw [hW];exact ((Below.refl _ _).alloc (Nat.le_refl _) _).alloc (by simp) _
 have hf:W.heap[w.heap.size]? = some (.cells #[.int .u8 (c:Nat),.int .u8 (m:Nat)] 139 (0,0)):=by rw [hW];exact (Below.heap_alloc _ _ _ (by simp)).trans (heap_alloc_new w _)
 have hi:W.heap[w.heap.size+1]? = some (.cells (insRow i).toArray 40 (0,0)):=by
   rw [hW]
   have:=heap_alloc_new (w.alloc (.cells #[.int .u8 (c:Nat),.int .u8 (m:Nat)] 139)) (.cells (insRow i).toArray 40)
   simpa using this
 have HC:=Lh (show ∀ w_,Below W.heap.size W w_→FormAt w_ w.heap.size c m i from fun w_ h=>⟨(h.block w.heap.size (lt_of_block hf)).trans hf,(h.block (w.heap.size+1) (lt_of_block hi)).trans hi⟩)
 have HW:=Lh hW
 have HB:=Lh hb
 clear hW hb hf hi
 have HR:=Lh (fun w_=>rex_any 0 0 i.d (by decide) (by decide) hd.2 w_)
 have HT:=Lh (fun w_=>both_any (m:Int) i.d w_)
 have HLT:=Lh (fun w_=>show Calls Tryz.prog 138 #[.int .i64 (i.imm),.int .i64 4] w_ (BytesTold (littleF (i.imm) 4) w_) from little_any (i.imm) 4 (by decide) w_)
 have f9_:IntKind.i64.wrap (m:Int)=(m:Int):=by rw [IntKind.wrap_i64];omega
 go_enter Tryz.func105,Tryz.ntmps105
 go_upto_region 1 with go_in
 rw [←HW.out]
 clear HW
 refine wp_region_grow (Below W.heap.size W) (by kernel_rfl) (by kernel_rfl) (Below.refl _ W).drew ?_
 have hSx0:=(Below.refl W.heap.size W).drew
 obtain ⟨x0,hx0⟩:∃ x0,x0=W.drew:=⟨_,rfl⟩
 rw [←hx0] at hSx0 ⊢
 clear hx0
 show runC _ _ _ 17 _ [0,1,2,3,4,5,6,7,8,9,10,11,12,13,14,15,16] _ _
 refine runC_at 0 (v:=?_) (by rfl) (by rfl) (by rfl) (by kernel_rfl) (by rfl) ?_ ?_
 rotate_left
 focus (intro w_ hw_;obtain ⟨⟨f0_,f1_⟩,f2_,f3_,f4_,f5_,f6_,f7_⟩:=(HC.out w_ hw_).cells;go_simp;(try with_reducible rfl);done)
 (try dsimp only [Act.put])
 show runC _ _ _ 16 _ [1,2,3,4,5,6,7,8,9,10,11,12,13,14,15,16] _ _
 try simp only [List.setIfInBounds_toArray,List.set_cons_zero,List.set_cons_succ]
 refine runC_at 1 (v:=?_) (by rfl) (by rfl) (by rfl) (by kernel_rfl) (by rfl) ?_ ?_
 rotate_left
 focus (intro w_ hw_;obtain ⟨⟨f0_,f1_⟩,f2_,f3_,f4_,f5_,f6_,f7_⟩:=(HC.out w_ hw_).cells;go_simp;(try with_reducible rfl);done)
 (try dsimp only [Act.put])
 show runC _ _ _ 15 _ [2,3,4,5,6,7,8,9,10,11,12,13,14,15,16] _ _
 try simp only [List.setIfInBounds_toArray,List.set_cons_zero,List.set_cons_succ]
 refine runC_at 3 (v:=?_) (by rfl) (by rfl) (by rfl) (by kernel_rfl) (by rfl) ?_ ?_
 rotate_left
 focus (intro w_ hw_;obtain ⟨⟨f0_,f1_⟩,f2_,f3_,f4_,f5_,f6_,f7_⟩:=(HC.out w_ hw_).cells;go_simp;(try with_reducible rfl);done)
 (try dsimp only [Act.put])
 show runC _ _ _ 14 _ [2,4,5,6,7,8,9,10,11,12,13,14,15,16] _ _
 try simp only [List.setIfInBounds_toArray,List.set_cons_zero,List.set_cons_succ]
 refine runC_at 4 (v:=?_) (by rfl) (by rfl) (by rfl) (by kernel_rfl) (by rfl) ?_ ?_
 rotate_left
 focus (intro w_ hw_;obtain ⟨⟨f0_,f1_⟩,f2_,f3_,f4_,f5_,f6_,f7_⟩:=(HC.out w_ hw_).cells;go_simp;(try with_reducible rfl);done)
 (try dsimp only [Act.put])
 show runC _ _ _ 13 _ [2,5,6,7,8,9,10,11,12,13,14,15,16] _ _
 try simp only [List.setIfInBounds_toArray,List.set_cons_zero,List.set_cons_succ]
 refine runC_at 5 (v:=?_) (by rfl) (by rfl) (by rfl) (by kernel_rfl) (by rfl) ?_ ?_
 rotate_left
 focus (intro w_ hw_;obtain ⟨⟨f0_,f1_⟩,f2_,f3_,f4_,f5_,f6_,f7_⟩:=(HC.out w_ hw_).cells;go_simp;(try with_reducible rfl);done)
 (try dsimp only [Act.put])
 show runC _ _ _ 12 _ [2,6,7,8,9,10,11,12,13,14,15,16] _ _
 try simp only [List.setIfInBounds_toArray,List.set_cons_zero,List.set_cons_succ]
 refine runC_at 6 (v:=?_) (by rfl) (by rfl) (by rfl) (by kernel_rfl) (by rfl) ?_ ?_
 rotate_left
 focus (intro w_ hw_;obtain ⟨⟨f0_,f1_⟩,f2_,f3_,f4_,f5_,f6_,f7_⟩:=(HC.out w_ hw_).cells;go_simp;(try with_reducible rfl);done)
 (try dsimp only [Act.put])
 show runC _ _ _ 11 _ [2,7,8,9,10,11,12,13,14,15,16] _ _
 try simp only [List.setIfInBounds_toArray,List.set_cons_zero,List.set_cons_succ]
 refine runC_at 7 (v:=?_) (by rfl) (by rfl) (by rfl) (by kernel_rfl) (by rfl) ?_ ?_
 rotate_left
 focus (intro w_ hw_;obtain ⟨⟨f0_,f1_⟩,f2_,f3_,f4_,f5_,f6_,f7_⟩:=(HC.out w_ hw_).cells;go_simp;(try with_reducible rfl);done)
 (try dsimp only [Act.put])
 show runC _ _ _ 10 _ [2,8,9,10,11,12,13,14,15,16] _ _
 try simp only [List.setIfInBounds_toArray,List.set_cons_zero,List.set_cons_succ]
 refine runC_at 8 (v:=?_) (by rfl) (by rfl) (by rfl) (by kernel_rfl) (by rfl) ?_ ?_
 rotate_left
 focus (intro w_ hw_;obtain ⟨⟨f0_,f1_⟩,f2_,f3_,f4_,f5_,f6_,f7_⟩:=(HC.out w_ hw_).cells;go_simp;(try with_reducible rfl);done)
 (try dsimp only [Act.put])
 show runC _ _ _ 9 _ [2,9,10,11,12,13,14,15,16] _ _
 try simp only [List.setIfInBounds_toArray,List.set_cons_zero,List.set_cons_succ]
 refine runC_at 9 (v:=?_) (by rfl) (by rfl) (by rfl) (by kernel_rfl) (by rfl) ?_ ?_
 rotate_left
 focus (intro w_ hw_;obtain ⟨⟨f0_,f1_⟩,f2_,f3_,f4_,f5_,f6_,f7_⟩:=(HC.out w_ hw_).cells;go_simp;(try with_reducible rfl);done)
 (try dsimp only [Act.put])
 show runC _ _ _ 8 _ [2,10,11,12,13,14,15,16] _ _
 try simp only [List.setIfInBounds_toArray,List.set_cons_zero,List.set_cons_succ]
 refine runC_at 12 (v:=?_) (by rfl) (by rfl) (by rfl) (by kernel_rfl) (by rfl) ?_ ?_
 rotate_left
 focus (intro w_ hw_;obtain ⟨⟨f0_,f1_⟩,f2_,f3_,f4_,f5_,f6_,f7_⟩:=(HC.out w_ hw_).cells;go_simp;(try with_reducible rfl);done)
 (try dsimp only [Act.put])
 show runC _ _ _ 7 _ [2,10,11,13,14,15,16] _ _
 try simp only [List.setIfInBounds_toArray,List.set_cons_zero,List.set_cons_succ]
 refine runC_at 13 (v:=?_) (by rfl) (by rfl) (by rfl) (by kernel_rfl) (by rfl) ?_ ?_
 rotate_left
 focus (intro w_ hw_;obtain ⟨⟨f0_,f1_⟩,f2_,f3_,f4_,f5_,f6_,f7_⟩:=(HC.out w_ hw_).cells;go_simp;(try with_reducible rfl);done)
 (try dsimp only [Act.put])
 show runC _ _ _ 6 _ [2,10,11,14,15,16] _ _
 try simp only [List.setIfInBounds_toArray,List.set_cons_zero,List.set_cons_succ]
 refine runC_one 2 (by kernel_rfl) (by kernel_rfl) (by rfl) (by rfl) ?_
 refine tdoes_call (f:=?_) (args:=?_) (w1:=?_) ?_ ?_
 rotate_left 3
 focus (go_simp;refine ⟨⟨?_,?_⟩,?_⟩ <;> with_reducible rfl)
 refine (HR.out x0).mono ?_
 rintro e_ w1_ ⟨rfl,hw_⟩
 subst w1_
 refine ⟨_,rfl,sameS hSx0 ?_⟩
 (try dsimp only [Act.put])
 try simp only [List.setIfInBounds_toArray,List.set_cons_zero,List.set_cons_succ]
 show runC _ _ _ 5 _ [10,11,14,15,16] _ _
 refine runC_one 10 (by kernel_rfl) (by kernel_rfl) (by rfl) (by rfl) ?_
 refine tdoes_call (f:=?_) (args:=?_) (w1:=?_) ?_ ?_
 rotate_left 3
 focus (go_simp;refine ⟨⟨?_,?_⟩,?_⟩ <;> with_reducible rfl)
 refine (HT.out x0).mono ?_
 rintro e_ w1_ ⟨rfl,hw_⟩
 subst w1_
 refine ⟨_,rfl,sameS hSx0 ?_⟩
 (try dsimp only [Act.put])
 try simp only [List.setIfInBounds_toArray,List.set_cons_zero,List.set_cons_succ]
 show runC _ _ _ 4 _ [11,14,15,16] _ _
 refine runC_two 11 14 (by kernel_rfl) (by kernel_rfl) (by rfl) (by rfl) (by rfl) (by rfl) ?_ ?_
 · obtain ⟨x3,h_⟩:∃ q,q=x0.alloc (.cells #[.int .u8 (rexF 0 0 i.d:Nat),.int .u8 (c:Nat),.int .u8 (bothF m i.d:Nat)] 5):=⟨_,rfl⟩
   have hb_:Below x0.heap.size x0 x3:=by rw [h_];exact (Below.refl _ _).alloc (Nat.le_refl _) _
   have hSx3:=hSx0.trans (hb_.mono hSx0.size)
   refine tdoes_op (w1:=x3) (v:=.slice (some ⟨x0.heap.size,0,none⟩) 3 3) (by rw [h_];exact exec_u8_3 _ _ _ rfl rfl rfl rfl) (sameS hSx3 ?_)
   (try dsimp only [Act.put])
   try simp only [List.setIfInBounds_toArray,List.set_cons_zero,List.set_cons_succ]
   obtain ⟨gL,hg_⟩:∃ q,q=x0.heap.size:=⟨_,rfl⟩
   have HOL:=Lh (show x3.ownsRow W.heap.size 5 1 (.slice (some ⟨gL,0,none⟩) 3 3) 3 (u8V [rexF 0 0 i.d,c,bothF m i.d]) from by rw [hg_];exact own_lit8 [rexF 0 0 i.d,c,bothF m i.d] #[.int .u8 (rexF 0 0 i.d:Nat),.int .u8 (c:Nat),.int .u8 (bothF m i.d:Nat)] rfl hSx0.size (by simp) (by simp) (by rw [h_];exact heap_alloc_new x0 _) 3 rfl)
   have HBx3:=Lh hb_
   rw [←hg_]
   clear h_ hg_ hb_
   show runC _ _ _ 3 _ [14,15,16] _ _
   refine runC_one 14 (by kernel_rfl) (by kernel_rfl) (by rfl) (by rfl) ?_
   refine tdoes_call (f:=?_) (args:=?_) (w1:=?_) ?_ ?_
   rotate_left 3
   focus (go_simp;refine ⟨⟨?_,?_⟩,?_⟩ <;> with_reducible rfl)
   refine (HLT.out x3).mono ?_
   rintro e_ x4 ⟨AT,nT,cT,rfl,ho_,hn_,hb_⟩
   have hSx4:=hSx3.trans (hb_.mono hSx3.size)
   have HOT:=Lh ho_
   have HNT:=Lh hn_
   have HBx4:=Lh hb_
   clear ho_ hn_ hb_
   refine ⟨_,rfl,sameS hSx4 ?_⟩
   (try dsimp only [Act.put])
   try simp only [List.setIfInBounds_toArray,List.set_cons_zero,List.set_cons_succ]
   show runC _ _ _ 2 _ [15,16] _ _
   refine runC_one 15 (by kernel_rfl) (by kernel_rfl) (by rfl) (by rfl) ?_
   have hA_:x4.ownsRow W.heap.size 5 1 (.slice (some ⟨gL,0,none⟩) 3 3) 3 (u8V ([rexF 0 0 i.d,c,bothF m i.d])):=by first | exact HOL.out | exact own_keepB HOL.out HBx4.out
   have hB_:∃ b_,x4.ownsRow b_ 5 1 (.slice AT nT cT) nT (u8V (littleF (i.imm) 4)):=by first | exact ⟨_,HOT.out⟩ | exact ⟨_,own_keepB HOT.out HBx4.out⟩
   obtain ⟨b_,hB_⟩:=hB_
   refine tdoes_app8 _ _ rfl W.heap.size b_ (.slice (some ⟨gL,0,none⟩) 3 3) (.slice AT nT cT) 3 nT ([rexF 0 0 i.d,c,bothF m i.d]) (littleF (i.imm) 4) rfl rfl hA_ hB_ (by have:=HNT.out;rw [little_len] at this;omega) hSx4.size ?_
   intro v_ x5 ho_ hg_
   obtain ⟨Ar,cr,rfl,h_⟩:=own_formB ho_
   have hSx5:=Below.grown hSx4 hg_ hSx4.size (fun k_ hk_=>(own_ltB hA_ k_ hk_).2)
   have HOr:=Lh ho_
   clear ho_ hg_ h_ hA_ hB_
   refine sameS hSx5 ?_
   (try dsimp only [Act.put])
   try simp only [List.setIfInBounds_toArray,List.set_cons_zero,List.set_cons_succ]
   show runC _ _ _ 1 _ [16] _ _
   refine runC_at 16 (v:=?_) (by rfl) (by rfl) (by rfl) (by kernel_rfl) (by rfl) ?_ ?_
   rotate_left
   focus (intro w_ hw_;obtain ⟨⟨f0_,f1_⟩,f2_,f3_,f4_,f5_,f6_,f7_⟩:=(HC.out w_ hw_).cells;go_simp;(try with_reducible rfl);done)
   (try dsimp only [Act.put])
   show runC _ _ _ 0 _ [] _ _
   try simp only [List.setIfInBounds_toArray,List.set_cons_zero,List.set_cons_succ]
   refine runC_nil ?_
   (try dsimp only [Act.put])
   try simp only [List.setIfInBounds_toArray,List.set_cons_zero,List.set_cons_succ]
   go_wp2
   go_ret
   exact ⟨_,_,_,by rfl,own_baseB HOr.out HB.out.size,by have:=HNT.out;simp [little_len] at *;omega,HB.out.trans (hSx5.mono HB.out.size)⟩
 · refine tdoes_call (f:=?_) (args:=?_) (w1:=?_) ?_ ?_
   rotate_left 3
   focus (go_simp;refine ⟨⟨?_,?_⟩,?_⟩ <;> with_reducible rfl)
   refine (HLT.out x0).mono ?_
   rintro e_ x6 ⟨AT,nT,cT,rfl,ho_,hn_,hb_⟩
   have hSx6:=hSx0.trans (hb_.mono hSx0.size)
   have HOT:=Lh ho_
   have HNT:=Lh hn_
   have HBx6:=Lh hb_
   clear ho_ hn_ hb_
   refine ⟨_,rfl,sameS hSx6 ?_⟩
   (try dsimp only [Act.put])
   try simp only [List.setIfInBounds_toArray,List.set_cons_zero,List.set_cons_succ]
   show runC _ _ _ 3 _ [11,15,16] _ _
   refine runC_one 11 (by kernel_rfl) (by kernel_rfl) (by rfl) (by rfl) ?_
   obtain ⟨x7,h_⟩:∃ q,q=x6.alloc (.cells #[.int .u8 (rexF 0 0 i.d:Nat),.int .u8 (c:Nat),.int .u8 (bothF m i.d:Nat)] 5):=⟨_,rfl⟩
   have hb_:Below x6.heap.size x6 x7:=by rw [h_];exact (Below.refl _ _).alloc (Nat.le_refl _) _
   have hSx7:=hSx6.trans (hb_.mono hSx6.size)
   refine tdoes_op (w1:=x7) (v:=.slice (some ⟨x6.heap.size,0,none⟩) 3 3) (by rw [h_];exact exec_u8_3 _ _ _ rfl rfl rfl rfl) (sameS hSx7 ?_)
   (try dsimp only [Act.put])
   try simp only [List.setIfInBounds_toArray,List.set_cons_zero,List.set_cons_succ]
   obtain ⟨gL,hg_⟩:∃ q,q=x6.heap.size:=⟨_,rfl⟩
   have HOL:=Lh (show x7.ownsRow W.heap.size 5 1 (.slice (some ⟨gL,0,none⟩) 3 3) 3 (u8V [rexF 0 0 i.d,c,bothF m i.d]) from by rw [hg_];exact own_lit8 [rexF 0 0 i.d,c,bothF m i.d] #[.int .u8 (rexF 0 0 i.d:Nat),.int .u8 (c:Nat),.int .u8 (bothF m i.d:Nat)] rfl hSx6.size (by simp) (by simp) (by rw [h_];exact heap_alloc_new x6 _) 3 rfl)
   have HBx7:=Lh hb_
   rw [←hg_]
   clear h_ hg_ hb_
   show runC _ _ _ 2 _ [15,16] _ _
   refine runC_one 15 (by kernel_rfl) (by kernel_rfl) (by rfl) (by rfl) ?_
   have hA_:x7.ownsRow W.heap.size 5 1 (.slice (some ⟨gL,0,none⟩) 3 3) 3 (u8V ([rexF 0 0 i.d,c,bothF m i.d])):=by first | exact HOL.out | exact own_keepB HOL.out HBx7.out
   have hB_:∃ b_,x7.ownsRow b_ 5 1 (.slice AT nT cT) nT (u8V (littleF (i.imm) 4)):=by first | exact ⟨_,HOT.out⟩ | exact ⟨_,own_keepB HOT.out HBx7.out⟩
   obtain ⟨b_,hB_⟩:=hB_
   refine tdoes_app8 _ _ rfl W.heap.size b_ (.slice (some ⟨gL,0,none⟩) 3 3) (.slice AT nT cT) 3 nT ([rexF 0 0 i.d,c,bothF m i.d]) (littleF (i.imm) 4) rfl rfl hA_ hB_ (by have:=HNT.out;rw [little_len] at this;omega) hSx7.size ?_
   intro v_ x8 ho_ hg_
   obtain ⟨Ar,cr,rfl,h_⟩:=own_formB ho_
   have hSx8:=Below.grown hSx7 hg_ hSx7.size (fun k_ hk_=>(own_ltB hA_ k_ hk_).2)
   have HOr:=Lh ho_
   clear ho_ hg_ h_ hA_ hB_
   refine sameS hSx8 ?_
   (try dsimp only [Act.put])
   try simp only [List.setIfInBounds_toArray,List.set_cons_zero,List.set_cons_succ]
   show runC _ _ _ 1 _ [16] _ _
   refine runC_at 16 (v:=?_) (by rfl) (by rfl) (by rfl) (by kernel_rfl) (by rfl) ?_ ?_
   rotate_left
   focus (intro w_ hw_;obtain ⟨⟨f0_,f1_⟩,f2_,f3_,f4_,f5_,f6_,f7_⟩:=(HC.out w_ hw_).cells;go_simp;(try with_reducible rfl);done)
   (try dsimp only [Act.put])
   show runC _ _ _ 0 _ [] _ _
   try simp only [List.setIfInBounds_toArray,List.set_cons_zero,List.set_cons_succ]
   refine runC_nil ?_
   (try dsimp only [Act.put])
   try simp only [List.setIfInBounds_toArray,List.set_cons_zero,List.set_cons_succ]
   go_wp2
   go_ret
   exact ⟨_,_,_,by rfl,own_baseB HOr.out HB.out.size,by have:=HNT.out;simp [little_len] at *;omega,HB.out.trans (hSx8.mono HB.out.size)⟩
end Go.Proofs.YtocndimihokcmaaGreat
