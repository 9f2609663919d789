/- Part 25 of a claim; what it proves stands in its last text. -/
import Derived.Test.YtjbabpnepjhllaaGreatSx24
namespace Go.Proofs.YtjbabpnepjhllaaGreat
open Go.RowKit
set_option maxRecDepth 100000
theorem row_block {w:World} {g sz t n cap:Nat} {fr:Nat×Nat} {cur:Array Value} {rows:List (List Value)} (h:w.heap[g]? = some (.cells cur t fr)) (hc:∀ (i j:Nat) (r:List Value) (u:Value),rows[i]? = some r→r[j]? = some u→cur[i*sz+j]? = some u) (hs:∀ r∈rows,r.length=sz) (hn:rows.length=n) (hcap:n≤cap):Rows w (fun k=>k=g) sz (.slice (some ⟨g,0,none⟩) n cap) rows :=
 ⟨_,cap,by rw [hn],by omega,hs,fun _=>⟨g,0,rfl,rfl,fun i j r u hr hu=>by
   rw [Nat.zero_add]
   simp only [World.cell?,h]
   exact hc i j r u hr hu⟩⟩
theorem infoVar:(Tryz.prog.info? 60).map (fun i=>(i.zero,i.size,i.bytes))=some (some (.agg #[.int .i64 0,.bool false,.int .i64 0]),3,24):=by kernel_rfl
theorem infoKop:(Tryz.prog.info? 43).map (fun i=>(i.zero,i.size,i.bytes))=some (some (.agg #[.int .i64 0,.int .i64 0,.int .i64 0,.int .i64 0,.int .i64 0,.int .i64 0,.int .u64 0]),7,56):=by kernel_rfl
def exK:Krn:=⟨[⟨1,true,2⟩,⟨1,true,2⟩,⟨1,true,3⟩],[⟨12,2,-1,0,0,1,0⟩],[⟨17,-1,-1,1,-1,-1,1⟩,⟨17,-1,-1,0,1,-1,2⟩]⟩
def vCells:Array Value:=#[.int .i64 1,.bool true,.int .i64 2,.int .i64 1,.bool true,.int .i64 2,.int .i64 1,.bool true,.int .i64 3]
def oCells:Array Value:=#[.int .i64 12,.int .i64 2,.int .i64 (-1),.int .i64 0,.int .i64 0,.int .i64 1,.int .u64 0]
def rCells:Array Value:=#[.int .i64 17,.int .i64 (-1),.int .i64 (-1),.int .i64 1,.int .i64 (-1),.int .i64 (-1),.int .u64 1,.int .i64 17,.int .i64 (-1),.int .i64 (-1),.int .i64 0,.int .i64 1,.int .i64 (-1),.int .u64 2]
section
variable {o:Oper} {a:Act} {w:World}
theorem exec_vars (x y z:Operand) (ho:o.op=.buildSlice 22 3 #[(0,x),(1,y),(2,z)]) (hx:a.eval x=.agg #[.int .i64 1,.bool true,.int .i64 2]) (hy:a.eval y=.agg #[.int .i64 1,.bool true,.int .i64 2]) (hz:a.eval z=.agg #[.int .i64 1,.bool true,.int .i64 3]) :
   (execOp a.eval o).run Tryz.prog w=.ok (.value (.slice (some ⟨w.heap.size,0,none⟩) 3 3)) (w.alloc (.cells vCells 60)):=by
 obtain ⟨j0,hie,hy0,hy1,hy2⟩:=info_parts infoVar
 have hr:=run_buildSlice (P:=Tryz.prog) w 22 60 3 #[(0,.agg #[.int .i64 1,.bool true,.int .i64 2]),(1,.agg #[.int .i64 1,.bool true,.int .i64 2]),(2,.agg #[.int .i64 1,.bool true,.int .i64 3])] vCells j0 _ Tryz.underlying22 hie hy0 (by rw [hy1];decide) (by rw [hy1];decide) (by rw [hy1];kernel_rfl)
 unfold execOp
 simp only [ho,hx,hy,hz,List.map_toArray,List.map_cons,List.map_nil,Sem.run_bind,hr,Result.andThen_ok,Sem.run_pure]
theorem exec_kop1 (x:Operand) (ho:o.op=.buildSlice 23 1 #[(0,x)]) (hx:a.eval x=.agg oCells) :
   (execOp a.eval o).run Tryz.prog w=.ok (.value (.slice (some ⟨w.heap.size,0,none⟩) 1 1)) (w.alloc (.cells oCells 43)):=by
 obtain ⟨j0,hie,hy0,hy1,hy2⟩:=info_parts infoKop
 have hr:=run_buildSlice (P:=Tryz.prog) w 23 43 1 #[(0,.agg oCells)] oCells j0 _ Tryz.underlying23 hie hy0 (by rw [hy1];decide) (by rw [hy1];decide) (by rw [hy1];kernel_rfl)
 unfold execOp
 simp only [ho,hx,List.map_toArray,List.map_cons,List.map_nil,Sem.run_bind,hr,Result.andThen_ok,Sem.run_pure]
theorem exec_kop2 (x y:Operand) (ho:o.op=.buildSlice 23 2 #[(0,x),(1,y)]) (hx:a.eval x=.agg #[.int .i64 17,.int .i64 (-1),.int .i64 (-1),.int .i64 1,.int .i64 (-1),.int .i64 (-1),.int .u64 1]) (hy:a.eval y=.agg #[.int .i64 17,.int .i64 (-1),.int .i64 (-1),.int .i64 0,.int .i64 1,.int .i64 (-1),.int .u64 2]) :
   (execOp a.eval o).run Tryz.prog w=.ok (.value (.slice (some ⟨w.heap.size,0,none⟩) 2 2)) (w.alloc (.cells rCells 43)):=by
 obtain ⟨j0,hie,hy0,hy1,hy2⟩:=info_parts infoKop
 have hr:=run_buildSlice (P:=Tryz.prog) w 23 43 2 #[(0,.agg #[.int .i64 17,.int .i64 (-1),.int .i64 (-1),.int .i64 1,.int .i64 (-1),.int .i64 (-1),.int .u64 1]),(1,.agg #[.int .i64 17,.int .i64 (-1),.int .i64 (-1),.int .i64 0,.int .i64 1,.int .i64 (-1),.int .u64 2])] rCells j0 _ Tryz.underlying23 hie hy0 (by rw [hy1];decide) (by rw [hy1];decide) (by rw [hy1];kernel_rfl)
 unfold execOp
 simp only [ho,hx,hy,List.map_toArray,List.map_cons,List.map_nil,Sem.run_bind,hr,Result.andThen_ok,Sem.run_pure]
end
section
variable {P:Program} {ops:Array Oper} {S:World→Prop} {Q:Act→World→Prop}
theorem runB_three {n:Nat} {l:List Nat} {a:Act} {w:World} (j k m:Nat) (hL:nextT ops l=[j,k,m]) (hs:stuckB ops l=true) {o p q:Oper} (ho:oAt ops.toList j=some o) (hw:Region.wanted o (yielded ops a.tmps)=true) (hp:oAt ops.toList k=some p) (hwp:Region.wanted p (yielded ops a.tmps)=true) (hq:oAt ops.toList m=some q) (hwq:Region.wanted q (yielded ops a.tmps)=true)
   (h:TDoes P o a w fun v w'=>S w'∧runB P ops S Q n (l.erase j) (a.put o.dst v) w') (h':TDoes P p a w fun v w'=>S w'∧runB P ops S Q n (l.erase k) (a.put p.dst v) w') (h'':TDoes P q a w fun v w'=>S w'∧runB P ops S Q n (l.erase m) (a.put q.dst v) w'):runB P ops S Q (n+1) l a w :=
 runB_next [j,k,m] hL hs fun x hx=>by
   rcases List.mem_cons.1 hx with rfl | hx
   · exact ⟨o,oAt_get ho,hw,h⟩
   · rcases List.mem_cons.1 hx with rfl | hx
     · exact ⟨p,oAt_get hp,hwp,h'⟩
     · rw [List.mem_singleton] at hx;subst hx;exact ⟨q,oAt_get hq,hwq,h''⟩
end
structure ExS (w:World) (B:Nat) (w_:World):Prop where
 below:Below w.heap.size w w_
 lt:B < w_.heap.size
 ge:w.heap.size < B
 v0:w_.cell? ⟨B,0,none⟩=some (.int .i64 1)
 v1:w_.cell? ⟨B,1,none⟩=some (.bool true)
 v2:w_.cell? ⟨B,2,none⟩=some (.int .i64 2)
theorem ExS.next {w w_ w':World} {B:Nat} (h:ExS w B w_) (hb:Below w_.heap.size w_ w'):ExS w B w':=⟨h.below.trans (hb.mono h.below.size),Nat.lt_of_lt_of_le h.lt hb.size,h.ge,(hb.cell (p:=⟨B,0,none⟩) h.lt).trans h.v0,(hb.cell (p:=⟨B,1,none⟩) h.lt).trans h.v1,(hb.cell (p:=⟨B,2,none⟩) h.lt).trans h.v2⟩
theorem cell_other {w:World} {g B j:Nat} (cs:Array Value) (h:B≠g):(w.setRow g cs).cell? ⟨B,j,none⟩=w.cell? ⟨B,j,none⟩:=World.cell?_of_block (w:=w) (a:=⟨B,j,none⟩) (setRow_other _ _ _ _ h)
theorem ExS.store {w w_:World} {B:Nat} (h:ExS w B w_) (cs:Array Value):ExS w B (w_.setRow w.heap.size cs):=by
 have hne:B≠w.heap.size:=by have:=h.ge;omega
 have hsz:(w_.setRow w.heap.size cs).heap.size=w_.heap.size:=by simp [World.setRow]
 exact ⟨below_setRow h.below (Nat.le_refl _) cs,by rw [hsz];exact h.lt,h.ge,(cell_other cs hne).trans h.v0,(cell_other cs hne).trans h.v1,(cell_other cs hne).trans h.v2⟩
theorem keep_blk {w_ w':World} {g:Nat} {o:Obj} (h:w_.heap[g]? = some o) (hb:Below w_.heap.size w_ w'):w'.heap[g]? = some o:=(hb.block g (lt_of_block h)).trans h
def ExSay (w:World) (e:Ending) (w':World):Prop:=∃ b1 b2 b3:Nat,e=.returned (.agg #[.slice (some ⟨b1,0,none⟩) 3 3,.slice (some ⟨b2,0,none⟩) 1 1,.slice (some ⟨b3,0,none⟩) 2 2])∧w.heap.size≤b1∧w.heap.size≤b2∧w.heap.size≤b3 ∧
 w'.heap[b1]? = some (.cells vCells 60 (0,0))∧w'.heap[b2]? = some (.cells oCells 43 (0,0))∧w'.heap[b3]? = some (.cells rCells 43 (0,0))∧Below w.heap.size w w'
set_option maxHeartbeats 20000000 in
theorem example_any (w:World):Calls Tryz.prog 24 #[] w (ExSay w):=by
 obtain ⟨W1,hW1⟩:∃ W,W=w.alloc (.cells #[.slice none 0 0,.slice none 0 0,.slice none 0 0] 25):=⟨_,rfl⟩
 have hb1:Below w.heap.size w W1:=by rw [hW1];exact (Below.refl _ _).alloc (Nat.le_refl _) _
 have hz1:W1.heap.size=w.heap.size+1:=by rw [hW1];simp
 have hk1:W1.heap[w.heap.size]? = some (.cells #[.slice none 0 0,.slice none 0 0,.slice none 0 0] 25 (0,0)):=by rw [hW1];exact heap_alloc_new w _
 go_enter Tryz.func24,Tryz.ntmps24
 go_upto_region 1 with fail
 rw [←hW1]
 have HF0:=Lh hk1
 have HB1:=Lh hb1
 have HZ1:=Lh hz1
 clear hW1 hk1 hb1 hz1
 go_upto_region 2 with fail
 obtain ⟨x0,hx0⟩:∃ q,q=(W1.alloc (.cells #[.int .i64 1,.bool true,.int .i64 2] 60)).drew:=⟨_,rfl⟩
 have hbd:Below W1.heap.size W1 x0:=by rw [hx0];exact ((Below.refl _ _).alloc (Nat.le_refl _) _).drew
 have hc:∀ (j:Nat) (v:Value),#[Value.int .i64 1,.bool true,.int .i64 2][j]? = some v→x0.cell? ⟨W1.heap.size,j,none⟩=some v:=fun j v h=>by rw [hx0];exact cell_new W1 _ _ h
 have hzx:x0.heap.size=W1.heap.size+1:=by rw [hx0];simp
 have hSx0:ExS w W1.heap.size x0:=⟨HB1.out.trans (hbd.mono HB1.out.size),by omega,by have:=HZ1.out;omega,hc 0 _ rfl,hc 1 _ rfl,hc 2 _ rfl⟩
 have F0:=keep_blk HF0.out hbd
 refine wp_region_branch (ExS w W1.heap.size) (by kernel_rfl) (by kernel_rfl) (hx0▸hSx0) ?_
 rw [←hx0]
 clear hx0 hbd hc hzx HF0 HB1
 show runB _ _ _ _ 11 [0,1,2,3,4,5,6,7,8,9,10] _ _
 refine runB_at 0 (v:=?_) (by rfl) (by rfl) (by rfl) (by kernel_rfl) (by rfl) ?_ ?_
 rotate_left
 focus (intro w_ hw_;have f0_:=hw_.v0;have f1_:=hw_.v1;have f2_:=hw_.v2;go_simp;(try with_reducible rfl);done)
 (try dsimp only [Act.put])
 show runB _ _ _ _ 10 [1,2,3,4,5,6,7,8,9,10] _ _
 try simp only [List.setIfInBounds_toArray,List.set_cons_zero,List.set_cons_succ]
 refine runB_at 1 (v:=?_) (by rfl) (by rfl) (by rfl) (by kernel_rfl) (by rfl) ?_ ?_
 rotate_left
 focus (intro w_ hw_;have f0_:=hw_.v0;have f1_:=hw_.v1;have f2_:=hw_.v2;go_simp;(try with_reducible rfl);done)
 (try dsimp only [Act.put])
 show runB _ _ _ _ 9 [2,3,4,5,6,7,8,9,10] _ _
 try simp only [List.setIfInBounds_toArray,List.set_cons_zero,List.set_cons_succ]
 refine runB_at 2 (v:=?_) (by rfl) (by rfl) (by rfl) (by kernel_rfl) (by rfl) ?_ ?_
 rotate_left
 focus (intro w_ hw_;have f0_:=hw_.v0;have f1_:=hw_.v1;have f2_:=hw_.v2;go_simp;(try with_reducible rfl);done)
 (try dsimp only [Act.put])
 show runB _ _ _ _ 8 [3,4,5,6,7,8,9,10] _ _
 try simp only [List.setIfInBounds_toArray,List.set_cons_zero,List.set_cons_succ]
 refine runB_two 3 4 (by kernel_rfl) (by kernel_rfl) (by rfl) (by rfl) (by rfl) (by rfl) ?_ ?_
 · refine tdoes_op (w1:=x0.alloc (.cells vCells 60)) (v:=.slice (some ⟨x0.heap.size,0,none⟩) 3 3) (exec_vars _ _ _ rfl rfl rfl rfl) ⟨hSx0.next ((Below.refl _ _).alloc (Nat.le_refl _) _),?_⟩
   (try dsimp only [Act.put])
   try simp only [List.setIfInBounds_toArray,List.set_cons_zero,List.set_cons_succ]
   obtain ⟨x1,h_⟩:∃ q,q=x0.alloc (.cells vCells 60):=⟨_,rfl⟩
   obtain ⟨b1,hg_⟩:∃ q,q=x0.heap.size:=⟨_,rfl⟩
   have hb_:Below x0.heap.size x0 x1:=by rw [h_];exact (Below.refl _ _).alloc (Nat.le_refl _) _
   have Fb1:x1.heap[b1]? = some (.cells vCells 60 (0,0)):=by rw [h_,hg_];exact heap_alloc_new x0 _
   have Gb1:w.heap.size < b1:=by rw [hg_];exact lt_of_block F0
   have hSx1:=hSx0.next hb_
   rw [←h_,←hg_]
   clear h_ hg_
   replace F0:=keep_blk F0 hb_
   clear hb_
   show runB _ _ _ _ 7 [4,5,6,7,8,9,10] _ _
   refine runB_one 4 (by kernel_rfl) (by kernel_rfl) (by rfl) (by rfl) ?_
   refine tdoes_call (f:=?_) (args:=?_) (w1:=?_) ?_ ?_
   rotate_left 3
   focus (go_simp;refine ⟨⟨?_,?_⟩,?_⟩ <;> with_reducible rfl)
   refine (op_any 12 2 0 0 1 0 x1).mono ?_
   rintro e_ x2 ⟨rfl,hb_⟩
   have hSx2:=hSx1.next hb_
   refine ⟨_,rfl,hSx2,?_⟩
   (try dsimp only [Act.put])
   try simp only [List.setIfInBounds_toArray,List.set_cons_zero,List.set_cons_succ]
   replace F0:=keep_blk F0 hb_
   replace Fb1:=keep_blk Fb1 hb_
   clear hb_
   show runB _ _ _ _ 6 [5,6,7,8,9,10] _ _
   refine runB_two 5 6 (by kernel_rfl) (by kernel_rfl) (by rfl) (by rfl) (by rfl) (by rfl) ?_ ?_
   · refine tdoes_op (w1:=x2.alloc (.cells oCells 43)) (v:=.slice (some ⟨x2.heap.size,0,none⟩) 1 1) (exec_kop1 _ rfl rfl) ⟨hSx2.next ((Below.refl _ _).alloc (Nat.le_refl _) _),?_⟩
     (try dsimp only [Act.put])
     try simp only [List.setIfInBounds_toArray,List.set_cons_zero,List.set_cons_succ]
     obtain ⟨x3,h_⟩:∃ q,q=x2.alloc (.cells oCells 43):=⟨_,rfl⟩
     obtain ⟨b2,hg_⟩:∃ q,q=x2.heap.size:=⟨_,rfl⟩
     have hb_:Below x2.heap.size x2 x3:=by rw [h_];exact (Below.refl _ _).alloc (Nat.le_refl _) _
     have Fb2:x3.heap[b2]? = some (.cells oCells 43 (0,0)):=by rw [h_,hg_];exact heap_alloc_new x2 _
     have Gb2:w.heap.size < b2:=by rw [hg_];exact lt_of_block F0
     have hSx3:=hSx2.next hb_
     rw [←h_,←hg_]
     clear h_ hg_
     replace F0:=keep_blk F0 hb_
     replace Fb1:=keep_blk Fb1 hb_
     clear hb_
     show runB _ _ _ _ 5 [6,7,8,9,10] _ _
     refine runB_one 6 (by kernel_rfl) (by kernel_rfl) (by rfl) (by rfl) ?_
     refine tdoes_call (f:=?_) (args:=?_) (w1:=?_) ?_ ?_
     rotate_left 3
     focus (go_simp;refine ⟨⟨?_,?_⟩,?_⟩ <;> with_reducible rfl)
     refine (lneed_any 1 1 (-1) (by decide) x3).mono ?_
     rintro e_ x4 ⟨rfl,hb_⟩
     have hSx4:=hSx3.next hb_
     refine ⟨_,rfl,hSx4,?_⟩
     (try dsimp only [Act.put])
     try simp only [List.setIfInBounds_toArray,List.set_cons_zero,List.set_cons_succ]
     replace F0:=keep_blk F0 hb_
     replace Fb1:=keep_blk Fb1 hb_
     replace Fb2:=keep_blk Fb2 hb_
     clear hb_
     show runB _ _ _ _ 4 [7,8,9,10] _ _
     refine runB_one 7 (by kernel_rfl) (by kernel_rfl) (by rfl) (by rfl) ?_
     refine tdoes_call (f:=?_) (args:=?_) (w1:=?_) ?_ ?_
     rotate_left 3
     focus (go_simp;refine ⟨⟨?_,?_⟩,?_⟩ <;> with_reducible rfl)
     refine (lneed_any 2 0 1 (by decide) x4).mono ?_
     rintro e_ x5 ⟨rfl,hb_⟩
     have hSx5:=hSx4.next hb_
     refine ⟨_,rfl,hSx5,?_⟩
     (try dsimp only [Act.put])
     try simp only [List.setIfInBounds_toArray,List.set_cons_zero,List.set_cons_succ]
     replace F0:=keep_blk F0 hb_
     replace Fb1:=keep_blk Fb1 hb_
     replace Fb2:=keep_blk Fb2 hb_
     clear hb_
     show runB _ _ _ _ 3 [8,9,10] _ _
     refine runB_one 8 (by kernel_rfl) (by kernel_rfl) (by rfl) (by rfl) ?_
     refine tdoes_op (w1:=x5.alloc (.cells rCells 43)) (v:=.slice (some ⟨x5.heap.size,0,none⟩) 2 2) (exec_kop2 _ _ rfl rfl rfl) ⟨hSx5.next ((Below.refl _ _).alloc (Nat.le_refl _) _),?_⟩
     (try dsimp only [Act.put])
     try simp only [List.setIfInBounds_toArray,List.set_cons_zero,List.set_cons_succ]
     obtain ⟨x6,h_⟩:∃ q,q=x5.alloc (.cells rCells 43):=⟨_,rfl⟩
     obtain ⟨b3,hg_⟩:∃ q,q=x5.heap.size:=⟨_,rfl⟩
     have hb_:Below x5.heap.size x5 x6:=by rw [h_];exact (Below.refl _ _).alloc (Nat.le_refl _) _
     have Fb3:x6.heap[b3]? = some (.cells rCells 43 (0,0)):=by rw [h_,hg_];exact heap_alloc_new x5 _
     have Gb3:w.heap.size < b3:=by rw [hg_];exact lt_of_block F0
     have hSx6:=hSx5.next hb_
     rw [←h_,←hg_]
     clear h_ hg_
     replace F0:=keep_blk F0 hb_
     replace Fb1:=keep_blk Fb1 hb_
     replace Fb2:=keep_blk Fb2 hb_
     clear hb_
     show runB _ _ _ _ 2 [9,10] _ _
     refine runB_at 9 (v:=?_) (by rfl) (by rfl) (by rfl) (by kernel_rfl) (by rfl) ?_ ?_
     rotate_left
     focus (intro w_ hw_;have f0_:=hw_.v0;have f1_:=hw_.v1;have f2_:=hw_.v2;go_simp;(try with_reducible rfl);done)
     (try dsimp only [Act.put])
     show runB _ _ _ _ 1 [10] _ _
     try simp only [List.setIfInBounds_toArray,List.set_cons_zero,List.set_cons_succ]
     refine runB_one 10 (by kernel_rfl) (by kernel_rfl) (by rfl) (by rfl) ?_
     refine tdoes_skip (w1:=x6.setRow w.heap.size #[.slice (some ⟨b1,0,none⟩) 3 3,.slice (some ⟨b2,0,none⟩) 1 1,.slice (some ⟨b3,0,none⟩) 2 2]) (sep_store 25 _ _ rfl w.heap.size #[.slice (some ⟨b1,0,none⟩) 3 3,.slice (some ⟨b2,0,none⟩) 1 1,.slice (some ⟨b3,0,none⟩) 2 2] rfl rfl 25 #[.slice none 0 0,.slice none 0 0,.slice none 0 0] F0 (by kernel_rfl) (by rfl) (by kernel_rfl)) ⟨hSx6.store _,?_⟩
     show runB _ _ _ _ 0 [] _ _
     refine runB_nil ?_
     (try dsimp only [Act.put])
     try simp only [List.setIfInBounds_toArray,List.set_cons_zero,List.set_cons_succ]
     go_wp2_with fail
     refine bodyPost_ret (results_cell_row (ty:=25) rfl _ _ w.heap.size 25 _ (0,0) _ rfl (setRow_heap _ _ _ _ _ _ F0) Tryz.underlying25 rfl (by kernel_rfl)) rfl ?_
     exact ⟨b1,b2,b3,rfl,Nat.le_of_lt Gb1,Nat.le_of_lt Gb2,Nat.le_of_lt Gb3,(setRow_other _ _ _ _ (by omega)).trans Fb1,(setRow_other _ _ _ _ (by omega)).trans Fb2,(setRow_other _ _ _ _ (by omega)).trans Fb3,(hSx6.store _).below⟩
   · refine tdoes_call (f:=?_) (args:=?_) (w1:=?_) ?_ ?_
     rotate_left 3
     focus (go_simp;refine ⟨⟨?_,?_⟩,?_⟩ <;> with_reducible rfl)
     refine (lneed_any 1 1 (-1) (by decide) x2).mono ?_
     rintro e_ x3 ⟨rfl,hb_⟩
     have hSx3:=hSx2.next hb_
     refine ⟨_,rfl,hSx3,?_⟩
     (try dsimp only [Act.put])
     try simp only [List.setIfInBounds_toArray,List.set_cons_zero,List.set_cons_succ]
     replace F0:=keep_blk F0 hb_
     replace Fb1:=keep_blk Fb1 hb_
     clear hb_
     show runB _ _ _ _ 5 [5,7,8,9,10] _ _
     refine runB_two 5 7 (by kernel_rfl) (by kernel_rfl) (by rfl) (by rfl) (by rfl) (by rfl) ?_ ?_
     · refine tdoes_op (w1:=x3.alloc (.cells oCells 43)) (v:=.slice (some ⟨x3.heap.size,0,none⟩) 1 1) (exec_kop1 _ rfl rfl) ⟨hSx3.next ((Below.refl _ _).alloc (Nat.le_refl _) _),?_⟩
       (try dsimp only [Act.put])
       try simp only [List.setIfInBounds_toArray,List.set_cons_zero,List.set_cons_succ]
       obtain ⟨x4,h_⟩:∃ q,q=x3.alloc (.cells oCells 43):=⟨_,rfl⟩
       obtain ⟨b2,hg_⟩:∃ q,q=x3.heap.size:=⟨_,rfl⟩
       have hb_:Below x3.heap.size x3 x4:=by rw [h_];exact (Below.refl _ _).alloc (Nat.le_refl _) _
       have Fb2:x4.heap[b2]? = some (.cells oCells 43 (0,0)):=by rw [h_,hg_];exact heap_alloc_new x3 _
       have Gb2:w.heap.size < b2:=by rw [hg_];exact lt_of_block F0
       have hSx4:=hSx3.next hb_
       rw [←h_,←hg_]
       clear h_ hg_
       replace F0:=keep_blk F0 hb_
       replace Fb1:=keep_blk Fb1 hb_
       clear hb_
       show runB _ _ _ _ 4 [7,8,9,10] _ _
       refine runB_one 7 (by kernel_rfl) (by kernel_rfl) (by rfl) (by rfl) ?_
       refine tdoes_call (f:=?_) (args:=?_) (w1:=?_) ?_ ?_
       rotate_left 3
       focus (go_simp;refine ⟨⟨?_,?_⟩,?_⟩ <;> with_reducible rfl)
       refine (lneed_any 2 0 1 (by decide) x4).mono ?_
       rintro e_ x5 ⟨rfl,hb_⟩
       have hSx5:=hSx4.next hb_
       refine ⟨_,rfl,hSx5,?_⟩
       (try dsimp only [Act.put])
       try simp only [List.setIfInBounds_toArray,List.set_cons_zero,List.set_cons_succ]
       replace F0:=keep_blk F0 hb_
       replace Fb1:=keep_blk Fb1 hb_
       replace Fb2:=keep_blk Fb2 hb_
       clear hb_
       show runB _ _ _ _ 3 [8,9,10] _ _
       refine runB_one 8 (by kernel_rfl) (by kernel_rfl) (by rfl) (by rfl) ?_
       refine tdoes_op (w1:=x5.alloc (.cells rCells 43)) (v:=.slice (some ⟨x5.heap.size,0,none⟩) 2 2) (exec_kop2 _ _ rfl rfl rfl) ⟨hSx5.next ((Below.refl _ _).alloc (Nat.le_refl _) _),?_⟩
       (try dsimp only [Act.put])
       try simp only [List.setIfInBounds_toArray,List.set_cons_zero,List.set_cons_succ]
       obtain ⟨x6,h_⟩:∃ q,q=x5.alloc (.cells rCells 43):=⟨_,rfl⟩
       obtain ⟨b3,hg_⟩:∃ q,q=x5.heap.size:=⟨_,rfl⟩
       have hb_:Below x5.heap.size x5 x6:=by rw [h_];exact (Below.refl _ _).alloc (Nat.le_refl _) _
       have Fb3:x6.heap[b3]? = some (.cells rCells 43 (0,0)):=by rw [h_,hg_];exact heap_alloc_new x5 _
       have Gb3:w.heap.size < b3:=by rw [hg_];exact lt_of_block F0
       have hSx6:=hSx5.next hb_
       rw [←h_,←hg_]
       clear h_ hg_
       replace F0:=keep_blk F0 hb_
       replace Fb1:=keep_blk Fb1 hb_
       replace Fb2:=keep_blk Fb2 hb_
       clear hb_
       show runB _ _ _ _ 2 [9,10] _ _
       refine runB_at 9 (v:=?_) (by rfl) (by rfl) (by rfl) (by kernel_rfl) (by rfl) ?_ ?_
       rotate_left
       focus (intro w_ hw_;have f0_:=hw_.v0;have f1_:=hw_.v1;have f2_:=hw_.v2;go_simp;(try with_reducible rfl);done)
       (try dsimp only [Act.put])
       show runB _ _ _ _ 1 [10] _ _
       try simp only [List.setIfInBounds_toArray,List.set_cons_zero,List.set_cons_succ]
       refine runB_one 10 (by kernel_rfl) (by kernel_rfl) (by rfl) (by rfl) ?_
       refine tdoes_skip (w1:=x6.setRow w.heap.size #[.slice (some ⟨b1,0,none⟩) 3 3,.slice (some ⟨b2,0,none⟩) 1 1,.slice (some ⟨b3,0,none⟩) 2 2]) (sep_store 25 _ _ rfl w.heap.size #[.slice (some ⟨b1,0,none⟩) 3 3,.slice (some ⟨b2,0,none⟩) 1 1,.slice (some ⟨b3,0,none⟩) 2 2] rfl rfl 25 #[.slice none 0 0,.slice none 0 0,.slice none 0 0] F0 (by kernel_rfl) (by rfl) (by kernel_rfl)) ⟨hSx6.store _,?_⟩
       show runB _ _ _ _ 0 [] _ _
       refine runB_nil ?_
       (try dsimp only [Act.put])
       try simp only [List.setIfInBounds_toArray,List.set_cons_zero,List.set_cons_succ]
       go_wp2_with fail
       refine bodyPost_ret (results_cell_row (ty:=25) rfl _ _ w.heap.size 25 _ (0,0) _ rfl (setRow_heap _ _ _ _ _ _ F0) Tryz.underlying25 rfl (by kernel_rfl)) rfl ?_
       exact ⟨b1,b2,b3,rfl,Nat.le_of_lt Gb1,Nat.le_of_lt Gb2,Nat.le_of_lt Gb3,(setRow_other _ _ _ _ (by omega)).trans Fb1,(setRow_other _ _ _ _ (by omega)).trans Fb2,(setRow_other _ _ _ _ (by omega)).trans Fb3,(hSx6.store _).below⟩
     · refine tdoes_call (f:=?_) (args:=?_) (w1:=?_) ?_ ?_
       rotate_left 3
       focus (go_simp;refine ⟨⟨?_,?_⟩,?_⟩ <;> with_reducible rfl)
       refine (lneed_any 2 0 1 (by decide) x3).mono ?_
       rintro e_ x4 ⟨rfl,hb_⟩
       have hSx4:=hSx3.next hb_
       refine ⟨_,rfl,hSx4,?_⟩
       (try dsimp only [Act.put])
       try simp only [List.setIfInBounds_toArray,List.set_cons_zero,List.set_cons_succ]
       replace F0:=keep_blk F0 hb_
       replace Fb1:=keep_blk Fb1 hb_
       clear hb_
       show runB _ _ _ _ 4 [5,8,9,10] _ _
       refine runB_two 5 8 (by kernel_rfl) (by kernel_rfl) (by rfl) (by rfl) (by rfl) (by rfl) ?_ ?_
       · refine tdoes_op (w1:=x4.alloc (.cells oCells 43)) (v:=.slice (some ⟨x4.heap.size,0,none⟩) 1 1) (exec_kop1 _ rfl rfl) ⟨hSx4.next ((Below.refl _ _).alloc (Nat.le_refl _) _),?_⟩
         (try dsimp only [Act.put])
         try simp only [List.setIfInBounds_toArray,List.set_cons_zero,List.set_cons_succ]
         obtain ⟨x5,h_⟩:∃ q,q=x4.alloc (.cells oCells 43):=⟨_,rfl⟩
         obtain ⟨b2,hg_⟩:∃ q,q=x4.heap.size:=⟨_,rfl⟩
         have hb_:Below x4.heap.size x4 x5:=by rw [h_];exact (Below.refl _ _).alloc (Nat.le_refl _) _
         have Fb2:x5.heap[b2]? = some (.cells oCells 43 (0,0)):=by rw [h_,hg_];exact heap_alloc_new x4 _
         have Gb2:w.heap.size < b2:=by rw [hg_];exact lt_of_block F0
         have hSx5:=hSx4.next hb_
         rw [←h_,←hg_]
         clear h_ hg_
         replace F0:=keep_blk F0 hb_
         replace Fb1:=keep_blk Fb1 hb_
         clear hb_
         show runB _ _ _ _ 3 [8,9,10] _ _
         refine runB_one 8 (by kernel_rfl) (by kernel_rfl) (by rfl) (by rfl) ?_
         refine tdoes_op (w1:=x5.alloc (.cells rCells 43)) (v:=.slice (some ⟨x5.heap.size,0,none⟩) 2 2) (exec_kop2 _ _ rfl rfl rfl) ⟨hSx5.next ((Below.refl _ _).alloc (Nat.le_refl _) _),?_⟩
         (try dsimp only [Act.put])
         try simp only [List.setIfInBounds_toArray,List.set_cons_zero,List.set_cons_succ]
         obtain ⟨x6,h_⟩:∃ q,q=x5.alloc (.cells rCells 43):=⟨_,rfl⟩
         obtain ⟨b3,hg_⟩:∃ q,q=x5.heap.size:=⟨_,rfl⟩
         have hb_:Below x5.heap.size x5 x6:=by rw [h_];exact (Below.refl _ _).alloc (Nat.le_refl _) _
         have Fb3:x6.heap[b3]? = some (.cells rCells 43 (0,0)):=by rw [h_,hg_];exact heap_alloc_new x5 _
         have Gb3:w.heap.size < b3:=by rw [hg_];exact lt_of_block F0
         have hSx6:=hSx5.next hb_
         rw [←h_,←hg_]
         clear h_ hg_
         replace F0:=keep_blk F0 hb_
         replace Fb1:=keep_blk Fb1 hb_
         replace Fb2:=keep_blk Fb2 hb_
         clear hb_
         show runB _ _ _ _ 2 [9,10] _ _
         refine runB_at 9 (v:=?_) (by rfl) (by rfl) (by rfl) (by kernel_rfl) (by rfl) ?_ ?_
         rotate_left
         focus (intro w_ hw_;have f0_:=hw_.v0;have f1_:=hw_.v1;have f2_:=hw_.v2;go_simp;(try with_reducible rfl);done)
         (try dsimp only [Act.put])
         show runB _ _ _ _ 1 [10] _ _
         try simp only [List.setIfInBounds_toArray,List.set_cons_zero,List.set_cons_succ]
         refine runB_one 10 (by kernel_rfl) (by kernel_rfl) (by rfl) (by rfl) ?_
         refine tdoes_skip (w1:=x6.setRow w.heap.size #[.slice (some ⟨b1,0,none⟩) 3 3,.slice (some ⟨b2,0,none⟩) 1 1,.slice (some ⟨b3,0,none⟩) 2 2]) (sep_store 25 _ _ rfl w.heap.size #[.slice (some ⟨b1,0,none⟩) 3 3,.slice (some ⟨b2,0,none⟩) 1 1,.slice (some ⟨b3,0,none⟩) 2 2] rfl rfl 25 #[.slice none 0 0,.slice none 0 0,.slice none 0 0] F0 (by kernel_rfl) (by rfl) (by kernel_rfl)) ⟨hSx6.store _,?_⟩
         show runB _ _ _ _ 0 [] _ _
         refine runB_nil ?_
         (try dsimp only [Act.put])
         try simp only [List.setIfInBounds_toArray,List.set_cons_zero,List.set_cons_succ]
         go_wp2_with fail
         refine bodyPost_ret (results_cell_row (ty:=25) rfl _ _ w.heap.size 25 _ (0,0) _ rfl (setRow_heap _ _ _ _ _ _ F0) Tryz.underlying25 rfl (by kernel_rfl)) rfl ?_
         exact ⟨b1,b2,b3,rfl,Nat.le_of_lt Gb1,Nat.le_of_lt Gb2,Nat.le_of_lt Gb3,(setRow_other _ _ _ _ (by omega)).trans Fb1,(setRow_other _ _ _ _ (by omega)).trans Fb2,(setRow_other _ _ _ _ (by omega)).trans Fb3,(hSx6.store _).below⟩
       · refine tdoes_op (w1:=x4.alloc (.cells rCells 43)) (v:=.slice (some ⟨x4.heap.size,0,none⟩) 2 2) (exec_kop2 _ _ rfl rfl rfl) ⟨hSx4.next ((Below.refl _ _).alloc (Nat.le_refl _) _),?_⟩
         (try dsimp only [Act.put])
         try simp only [List.setIfInBounds_toArray,List.set_cons_zero,List.set_cons_succ]
         obtain ⟨x5,h_⟩:∃ q,q=x4.alloc (.cells rCells 43):=⟨_,rfl⟩
         obtain ⟨b3,hg_⟩:∃ q,q=x4.heap.size:=⟨_,rfl⟩
         have hb_:Below x4.heap.size x4 x5:=by rw [h_];exact (Below.refl _ _).alloc (Nat.le_refl _) _
         have Fb3:x5.heap[b3]? = some (.cells rCells 43 (0,0)):=by rw [h_,hg_];exact heap_alloc_new x4 _
         have Gb3:w.heap.size < b3:=by rw [hg_];exact lt_of_block F0
         have hSx5:=hSx4.next hb_
         rw [←h_,←hg_]
         clear h_ hg_
         replace F0:=keep_blk F0 hb_
         replace Fb1:=keep_blk Fb1 hb_
         clear hb_
         show runB _ _ _ _ 3 [5,9,10] _ _
         refine runB_one 5 (by kernel_rfl) (by kernel_rfl) (by rfl) (by rfl) ?_
         refine tdoes_op (w1:=x5.alloc (.cells oCells 43)) (v:=.slice (some ⟨x5.heap.size,0,none⟩) 1 1) (exec_kop1 _ rfl rfl) ⟨hSx5.next ((Below.refl _ _).alloc (Nat.le_refl _) _),?_⟩
         (try dsimp only [Act.put])
         try simp only [List.setIfInBounds_toArray,List.set_cons_zero,List.set_cons_succ]
         obtain ⟨x6,h_⟩:∃ q,q=x5.alloc (.cells oCells 43):=⟨_,rfl⟩
         obtain ⟨b2,hg_⟩:∃ q,q=x5.heap.size:=⟨_,rfl⟩
         have hb_:Below x5.heap.size x5 x6:=by rw [h_];exact (Below.refl _ _).alloc (Nat.le_refl _) _
         have Fb2:x6.heap[b2]? = some (.cells oCells 43 (0,0)):=by rw [h_,hg_];exact heap_alloc_new x5 _
         have Gb2:w.heap.size < b2:=by rw [hg_];exact lt_of_block F0
         have hSx6:=hSx5.next hb_
         rw [←h_,←hg_]
         clear h_ hg_
         replace F0:=keep_blk F0 hb_
         replace Fb1:=keep_blk Fb1 hb_
         replace Fb3:=keep_blk Fb3 hb_
         clear hb_
         show runB _ _ _ _ 2 [9,10] _ _
         refine runB_at 9 (v:=?_) (by rfl) (by rfl) (by rfl) (by kernel_rfl) (by rfl) ?_ ?_
         rotate_left
         focus (intro w_ hw_;have f0_:=hw_.v0;have f1_:=hw_.v1;have f2_:=hw_.v2;go_simp;(try with_reducible rfl);done)
         (try dsimp only [Act.put])
         show runB _ _ _ _ 1 [10] _ _
         try simp only [List.setIfInBounds_toArray,List.set_cons_zero,List.set_cons_succ]
         refine runB_one 10 (by kernel_rfl) (by kernel_rfl) (by rfl) (by rfl) ?_
         refine tdoes_skip (w1:=x6.setRow w.heap.size #[.slice (some ⟨b1,0,none⟩) 3 3,.slice (some ⟨b2,0,none⟩) 1 1,.slice (some ⟨b3,0,none⟩) 2 2]) (sep_store 25 _ _ rfl w.heap.size #[.slice (some ⟨b1,0,none⟩) 3 3,.slice (some ⟨b2,0,none⟩) 1 1,.slice (some ⟨b3,0,none⟩) 2 2] rfl rfl 25 #[.slice none 0 0,.slice none 0 0,.slice none 0 0] F0 (by kernel_rfl) (by rfl) (by kernel_rfl)) ⟨hSx6.store _,?_⟩
         show runB _ _ _ _ 0 [] _ _
         refine runB_nil ?_
         (try dsimp only [Act.put])
         try simp only [List.setIfInBounds_toArray,List.set_cons_zero,List.set_cons_succ]
         go_wp2_with fail
         refine bodyPost_ret (results_cell_row (ty:=25) rfl _ _ w.heap.size 25 _ (0,0) _ rfl (setRow_heap _ _ _ _ _ _ F0) Tryz.underlying25 rfl (by kernel_rfl)) rfl ?_
         exact ⟨b1,b2,b3,rfl,Nat.le_of_lt Gb1,Nat.le_of_lt Gb2,Nat.le_of_lt Gb3,(setRow_other _ _ _ _ (by omega)).trans Fb1,(setRow_other _ _ _ _ (by omega)).trans Fb2,(setRow_other _ _ _ _ (by omega)).trans Fb3,(hSx6.store _).below⟩
 · refine tdoes_call (f:=?_) (args:=?_) (w1:=?_) ?_ ?_
   rotate_left 3
   focus (go_simp;refine ⟨⟨?_,?_⟩,?_⟩ <;> with_reducible rfl)
   refine (op_any 12 2 0 0 1 0 x0).mono ?_
   rintro e_ x1 ⟨rfl,hb_⟩
   have hSx1:=hSx0.next hb_
   refine ⟨_,rfl,hSx1,?_⟩
   (try dsimp only [Act.put])
   try simp only [List.setIfInBounds_toArray,List.set_cons_zero,List.set_cons_succ]
   replace F0:=keep_blk F0 hb_
   clear hb_
   show runB _ _ _ _ 7 [3,5,6,7,8,9,10] _ _
   refine runB_three 3 5 6 (by kernel_rfl) (by kernel_rfl) (by rfl) (by rfl) (by rfl) (by rfl) (by rfl) (by rfl) ?_ ?_ ?_
   · refine tdoes_op (w1:=x1.alloc (.cells vCells 60)) (v:=.slice (some ⟨x1.heap.size,0,none⟩) 3 3) (exec_vars _ _ _ rfl rfl rfl rfl) ⟨hSx1.next ((Below.refl _ _).alloc (Nat.le_refl _) _),?_⟩
     (try dsimp only [Act.put])
     try simp only [List.setIfInBounds_toArray,List.set_cons_zero,List.set_cons_succ]
     obtain ⟨x2,h_⟩:∃ q,q=x1.alloc (.cells vCells 60):=⟨_,rfl⟩
     obtain ⟨b1,hg_⟩:∃ q,q=x1.heap.size:=⟨_,rfl⟩
     have hb_:Below x1.heap.size x1 x2:=by rw [h_];exact (Below.refl _ _).alloc (Nat.le_refl _) _
     have Fb1:x2.heap[b1]? = some (.cells vCells 60 (0,0)):=by rw [h_,hg_];exact heap_alloc_new x1 _
     have Gb1:w.heap.size < b1:=by rw [hg_];exact lt_of_block F0
     have hSx2:=hSx1.next hb_
     rw [←h_,←hg_]
     clear h_ hg_
     replace F0:=keep_blk F0 hb_
     clear hb_
     show runB _ _ _ _ 6 [5,6,7,8,9,10] _ _
     refine runB_two 5 6 (by kernel_rfl) (by kernel_rfl) (by rfl) (by rfl) (by rfl) (by rfl) ?_ ?_
     · refine tdoes_op (w1:=x2.alloc (.cells oCells 43)) (v:=.slice (some ⟨x2.heap.size,0,none⟩) 1 1) (exec_kop1 _ rfl rfl) ⟨hSx2.next ((Below.refl _ _).alloc (Nat.le_refl _) _),?_⟩
       (try dsimp only [Act.put])
       try simp only [List.setIfInBounds_toArray,List.set_cons_zero,List.set_cons_succ]
       obtain ⟨x3,h_⟩:∃ q,q=x2.alloc (.cells oCells 43):=⟨_,rfl⟩
       obtain ⟨b2,hg_⟩:∃ q,q=x2.heap.size:=⟨_,rfl⟩
       have hb_:Below x2.heap.size x2 x3:=by rw [h_];exact (Below.refl _ _).alloc (Nat.le_refl _) _
       have Fb2:x3.heap[b2]? = some (.cells oCells 43 (0,0)):=by rw [h_,hg_];exact heap_alloc_new x2 _
       have Gb2:w.heap.size < b2:=by rw [hg_];exact lt_of_block F0
       have hSx3:=hSx2.next hb_
       rw [←h_,←hg_]
       clear h_ hg_
       replace F0:=keep_blk F0 hb_
       replace Fb1:=keep_blk Fb1 hb_
       clear hb_
       show runB _ _ _ _ 5 [6,7,8,9,10] _ _
       refine runB_one 6 (by kernel_rfl) (by kernel_rfl) (by rfl) (by rfl) ?_
       refine tdoes_call (f:=?_) (args:=?_) (w1:=?_) ?_ ?_
       rotate_left 3
       focus (go_simp;refine ⟨⟨?_,?_⟩,?_⟩ <;> with_reducible rfl)
       refine (lneed_any 1 1 (-1) (by decide) x3).mono ?_
       rintro e_ x4 ⟨rfl,hb_⟩
       have hSx4:=hSx3.next hb_
       refine ⟨_,rfl,hSx4,?_⟩
       (try dsimp only [Act.put])
       try simp only [List.setIfInBounds_toArray,List.set_cons_zero,List.set_cons_succ]
       replace F0:=keep_blk F0 hb_
       replace Fb1:=keep_blk Fb1 hb_
       replace Fb2:=keep_blk Fb2 hb_
       clear hb_
       show runB _ _ _ _ 4 [7,8,9,10] _ _
       refine runB_one 7 (by kernel_rfl) (by kernel_rfl) (by rfl) (by rfl) ?_
       refine tdoes_call (f:=?_) (args:=?_) (w1:=?_) ?_ ?_
       rotate_left 3
       focus (go_simp;refine ⟨⟨?_,?_⟩,?_⟩ <;> with_reducible rfl)
       refine (lneed_any 2 0 1 (by decide) x4).mono ?_
       rintro e_ x5 ⟨rfl,hb_⟩
       have hSx5:=hSx4.next hb_
       refine ⟨_,rfl,hSx5,?_⟩
       (try dsimp only [Act.put])
       try simp only [List.setIfInBounds_toArray,List.set_cons_zero,List.set_cons_succ]
       replace F0:=keep_blk F0 hb_
       replace Fb1:=keep_blk Fb1 hb_
       replace Fb2:=keep_blk Fb2 hb_
       clear hb_
       show runB _ _ _ _ 3 [8,9,10] _ _
       refine runB_one 8 (by kernel_rfl) (by kernel_rfl) (by rfl) (by rfl) ?_
       refine tdoes_op (w1:=x5.alloc (.cells rCells 43)) (v:=.slice (some ⟨x5.heap.size,0,none⟩) 2 2) (exec_kop2 _ _ rfl rfl rfl) ⟨hSx5.next ((Below.refl _ _).alloc (Nat.le_refl _) _),?_⟩
       (try dsimp only [Act.put])
       try simp only [List.setIfInBounds_toArray,List.set_cons_zero,List.set_cons_succ]
       obtain ⟨x6,h_⟩:∃ q,q=x5.alloc (.cells rCells 43):=⟨_,rfl⟩
       obtain ⟨b3,hg_⟩:∃ q,q=x5.heap.size:=⟨_,rfl⟩
       have hb_:Below x5.heap.size x5 x6:=by rw [h_];exact (Below.refl _ _).alloc (Nat.le_refl _) _
       have Fb3:x6.heap[b3]? = some (.cells rCells 43 (0,0)):=by rw [h_,hg_];exact heap_alloc_new x5 _
       have Gb3:w.heap.size < b3:=by rw [hg_];exact lt_of_block F0
       have hSx6:=hSx5.next hb_
       rw [←h_,←hg_]
       clear h_ hg_
       replace F0:=keep_blk F0 hb_
       replace Fb1:=keep_blk Fb1 hb_
       replace Fb2:=keep_blk Fb2 hb_
       clear hb_
       show runB _ _ _ _ 2 [9,10] _ _
       refine runB_at 9 (v:=?_) (by rfl) (by rfl) (by rfl) (by kernel_rfl) (by rfl) ?_ ?_
       rotate_left
       focus (intro w_ hw_;have f0_:=hw_.v0;have f1_:=hw_.v1;have f2_:=hw_.v2;go_simp;(try with_reducible rfl);done)
       (try dsimp only [Act.put])
       show runB _ _ _ _ 1 [10] _ _
       try simp only [List.setIfInBounds_toArray,List.set_cons_zero,List.set_cons_succ]
       refine runB_one 10 (by kernel_rfl) (by kernel_rfl) (by rfl) (by rfl) ?_
       refine tdoes_skip (w1:=x6.setRow w.heap.size #[.slice (some ⟨b1,0,none⟩) 3 3,.slice (some ⟨b2,0,none⟩) 1 1,.slice (some ⟨b3,0,none⟩) 2 2]) (sep_store 25 _ _ rfl w.heap.size #[.slice (some ⟨b1,0,none⟩) 3 3,.slice (some ⟨b2,0,none⟩) 1 1,.slice (some ⟨b3,0,none⟩) 2 2] rfl rfl 25 #[.slice none 0 0,.slice none 0 0,.slice none 0 0] F0 (by kernel_rfl) (by rfl) (by kernel_rfl)) ⟨hSx6.store _,?_⟩
       show runB _ _ _ _ 0 [] _ _
       refine runB_nil ?_
       (try dsimp only [Act.put])
       try simp only [List.setIfInBounds_toArray,List.set_cons_zero,List.set_cons_succ]
       go_wp2_with fail
       refine bodyPost_ret (results_cell_row (ty:=25) rfl _ _ w.heap.size 25 _ (0,0) _ rfl (setRow_heap _ _ _ _ _ _ F0) Tryz.underlying25 rfl (by kernel_rfl)) rfl ?_
       exact ⟨b1,b2,b3,rfl,Nat.le_of_lt Gb1,Nat.le_of_lt Gb2,Nat.le_of_lt Gb3,(setRow_other _ _ _ _ (by omega)).trans Fb1,(setRow_other _ _ _ _ (by omega)).trans Fb2,(setRow_other _ _ _ _ (by omega)).trans Fb3,(hSx6.store _).below⟩
     · refine tdoes_call (f:=?_) (args:=?_) (w1:=?_) ?_ ?_
       rotate_left 3
       focus (go_simp;refine ⟨⟨?_,?_⟩,?_⟩ <;> with_reducible rfl)
       refine (lneed_any 1 1 (-1) (by decide) x2).mono ?_
       rintro e_ x3 ⟨rfl,hb_⟩
       have hSx3:=hSx2.next hb_
       refine ⟨_,rfl,hSx3,?_⟩
       (try dsimp only [Act.put])
       try simp only [List.setIfInBounds_toArray,List.set_cons_zero,List.set_cons_succ]
       replace F0:=keep_blk F0 hb_
       replace Fb1:=keep_blk Fb1 hb_
       clear hb_
       show runB _ _ _ _ 5 [5,7,8,9,10] _ _
       refine runB_two 5 7 (by kernel_rfl) (by kernel_rfl) (by rfl) (by rfl) (by rfl) (by rfl) ?_ ?_
       · refine tdoes_op (w1:=x3.alloc (.cells oCells 43)) (v:=.slice (some ⟨x3.heap.size,0,none⟩) 1 1) (exec_kop1 _ rfl rfl) ⟨hSx3.next ((Below.refl _ _).alloc (Nat.le_refl _) _),?_⟩
         (try dsimp only [Act.put])
         try simp only [List.setIfInBounds_toArray,List.set_cons_zero,List.set_cons_succ]
         obtain ⟨x4,h_⟩:∃ q,q=x3.alloc (.cells oCells 43):=⟨_,rfl⟩
         obtain ⟨b2,hg_⟩:∃ q,q=x3.heap.size:=⟨_,rfl⟩
         have hb_:Below x3.heap.size x3 x4:=by rw [h_];exact (Below.refl _ _).alloc (Nat.le_refl _) _
         have Fb2:x4.heap[b2]? = some (.cells oCells 43 (0,0)):=by rw [h_,hg_];exact heap_alloc_new x3 _
         have Gb2:w.heap.size < b2:=by rw [hg_];exact lt_of_block F0
         have hSx4:=hSx3.next hb_
         rw [←h_,←hg_]
         clear h_ hg_
         replace F0:=keep_blk F0 hb_
         replace Fb1:=keep_blk Fb1 hb_
         clear hb_
         show runB _ _ _ _ 4 [7,8,9,10] _ _
         refine runB_one 7 (by kernel_rfl) (by kernel_rfl) (by rfl) (by rfl) ?_
         refine tdoes_call (f:=?_) (args:=?_) (w1:=?_) ?_ ?_
         rotate_left 3
         focus (go_simp;refine ⟨⟨?_,?_⟩,?_⟩ <;> with_reducible rfl)
         refine (lneed_any 2 0 1 (by decide) x4).mono ?_
         rintro e_ x5 ⟨rfl,hb_⟩
         have hSx5:=hSx4.next hb_
         refine ⟨_,rfl,hSx5,?_⟩
         (try dsimp only [Act.put])
         try simp only [List.setIfInBounds_toArray,List.set_cons_zero,List.set_cons_succ]
         replace F0:=keep_blk F0 hb_
         replace Fb1:=keep_blk Fb1 hb_
         replace Fb2:=keep_blk Fb2 hb_
         clear hb_
         show runB _ _ _ _ 3 [8,9,10] _ _
         refine runB_one 8 (by kernel_rfl) (by kernel_rfl) (by rfl) (by rfl) ?_
         refine tdoes_op (w1:=x5.alloc (.cells rCells 43)) (v:=.slice (some ⟨x5.heap.size,0,none⟩) 2 2) (exec_kop2 _ _ rfl rfl rfl) ⟨hSx5.next ((Below.refl _ _).alloc (Nat.le_refl _) _),?_⟩
         (try dsimp only [Act.put])
         try simp only [List.setIfInBounds_toArray,List.set_cons_zero,List.set_cons_succ]
         obtain ⟨x6,h_⟩:∃ q,q=x5.alloc (.cells rCells 43):=⟨_,rfl⟩
         obtain ⟨b3,hg_⟩:∃ q,q=x5.heap.size:=⟨_,rfl⟩
         have hb_:Below x5.heap.size x5 x6:=by rw [h_];exact (Below.refl _ _).alloc (Nat.le_refl _) _
         have Fb3:x6.heap[b3]? = some (.cells rCells 43 (0,0)):=by rw [h_,hg_];exact heap_alloc_new x5 _
         have Gb3:w.heap.size < b3:=by rw [hg_];exact lt_of_block F0
         have hSx6:=hSx5.next hb_
         rw [←h_,←hg_]
         clear h_ hg_
         replace F0:=keep_blk F0 hb_
         replace Fb1:=keep_blk Fb1 hb_
         replace Fb2:=keep_blk Fb2 hb_
         clear hb_
         show runB _ _ _ _ 2 [9,10] _ _
         refine runB_at 9 (v:=?_) (by rfl) (by rfl) (by rfl) (by kernel_rfl) (by rfl) ?_ ?_
         rotate_left
         focus (intro w_ hw_;have f0_:=hw_.v0;have f1_:=hw_.v1;have f2_:=hw_.v2;go_simp;(try with_reducible rfl);done)
         (try dsimp only [Act.put])
         show runB _ _ _ _ 1 [10] _ _
         try simp only [List.setIfInBounds_toArray,List.set_cons_zero,List.set_cons_succ]
         refine runB_one 10 (by kernel_rfl) (by kernel_rfl) (by rfl) (by rfl) ?_
         refine tdoes_skip (w1:=x6.setRow w.heap.size #[.slice (some ⟨b1,0,none⟩) 3 3,.slice (some ⟨b2,0,none⟩) 1 1,.slice (some ⟨b3,0,none⟩) 2 2]) (sep_store 25 _ _ rfl w.heap.size #[.slice (some ⟨b1,0,none⟩) 3 3,.slice (some ⟨b2,0,none⟩) 1 1,.slice (some ⟨b3,0,none⟩) 2 2] rfl rfl 25 #[.slice none 0 0,.slice none 0 0,.slice none 0 0] F0 (by kernel_rfl) (by rfl) (by kernel_rfl)) ⟨hSx6.store _,?_⟩
         show runB _ _ _ _ 0 [] _ _
         refine runB_nil ?_
         (try dsimp only [Act.put])
         try simp only [List.setIfInBounds_toArray,List.set_cons_zero,List.set_cons_succ]
         go_wp2_with fail
         refine bodyPost_ret (results_cell_row (ty:=25) rfl _ _ w.heap.size 25 _ (0,0) _ rfl (setRow_heap _ _ _ _ _ _ F0) Tryz.underlying25 rfl (by kernel_rfl)) rfl ?_
         exact ⟨b1,b2,b3,rfl,Nat.le_of_lt Gb1,Nat.le_of_lt Gb2,Nat.le_of_lt Gb3,(setRow_other _ _ _ _ (by omega)).trans Fb1,(setRow_other _ _ _ _ (by omega)).trans Fb2,(setRow_other _ _ _ _ (by omega)).trans Fb3,(hSx6.store _).below⟩
       · refine tdoes_call (f:=?_) (args:=?_) (w1:=?_) ?_ ?_
         rotate_left 3
         focus (go_simp;refine ⟨⟨?_,?_⟩,?_⟩ <;> with_reducible rfl)
         refine (lneed_any 2 0 1 (by decide) x3).mono ?_
         rintro e_ x4 ⟨rfl,hb_⟩
         have hSx4:=hSx3.next hb_
         refine ⟨_,rfl,hSx4,?_⟩
         (try dsimp only [Act.put])
         try simp only [List.setIfInBounds_toArray,List.set_cons_zero,List.set_cons_succ]
         replace F0:=keep_blk F0 hb_
         replace Fb1:=keep_blk Fb1 hb_
         clear hb_
         show runB _ _ _ _ 4 [5,8,9,10] _ _
         refine runB_two 5 8 (by kernel_rfl) (by kernel_rfl) (by rfl) (by rfl) (by rfl) (by rfl) ?_ ?_
         · refine tdoes_op (w1:=x4.alloc (.cells oCells 43)) (v:=.slice (some ⟨x4.heap.size,0,none⟩) 1 1) (exec_kop1 _ rfl rfl) ⟨hSx4.next ((Below.refl _ _).alloc (Nat.le_refl _) _),?_⟩
           (try dsimp only [Act.put])
           try simp only [List.setIfInBounds_toArray,List.set_cons_zero,List.set_cons_succ]
           obtain ⟨x5,h_⟩:∃ q,q=x4.alloc (.cells oCells 43):=⟨_,rfl⟩
           obtain ⟨b2,hg_⟩:∃ q,q=x4.heap.size:=⟨_,rfl⟩
           have hb_:Below x4.heap.size x4 x5:=by rw [h_];exact (Below.refl _ _).alloc (Nat.le_refl _) _
           have Fb2:x5.heap[b2]? = some (.cells oCells 43 (0,0)):=by rw [h_,hg_];exact heap_alloc_new x4 _
           have Gb2:w.heap.size < b2:=by rw [hg_];exact lt_of_block F0
           have hSx5:=hSx4.next hb_
           rw [←h_,←hg_]
           clear h_ hg_
           replace F0:=keep_blk F0 hb_
           replace Fb1:=keep_blk Fb1 hb_
           clear hb_
           show runB _ _ _ _ 3 [8,9,10] _ _
           refine runB_one 8 (by kernel_rfl) (by kernel_rfl) (by rfl) (by rfl) ?_
           refine tdoes_op (w1:=x5.alloc (.cells rCells 43)) (v:=.slice (some ⟨x5.heap.size,0,none⟩) 2 2) (exec_kop2 _ _ rfl rfl rfl) ⟨hSx5.next ((Below.refl _ _).alloc (Nat.le_refl _) _),?_⟩
           (try dsimp only [Act.put])
           try simp only [List.setIfInBounds_toArray,List.set_cons_zero,List.set_cons_succ]
           obtain ⟨x6,h_⟩:∃ q,q=x5.alloc (.cells rCells 43):=⟨_,rfl⟩
           obtain ⟨b3,hg_⟩:∃ q,q=x5.heap.size:=⟨_,rfl⟩
           have hb_:Below x5.heap.size x5 x6:=by rw [h_];exact (Below.refl _ _).alloc (Nat.le_refl _) _
           have Fb3:x6.heap[b3]? = some (.cells rCells 43 (0,0)):=by rw [h_,hg_];exact heap_alloc_new x5 _
           have Gb3:w.heap.size < b3:=by rw [hg_];exact lt_of_block F0
           have hSx6:=hSx5.next hb_
           rw [←h_,←hg_]
           clear h_ hg_
           replace F0:=keep_blk F0 hb_
           replace Fb1:=keep_blk Fb1 hb_
           replace Fb2:=keep_blk Fb2 hb_
           clear hb_
           show runB _ _ _ _ 2 [9,10] _ _
           refine runB_at 9 (v:=?_) (by rfl) (by rfl) (by rfl) (by kernel_rfl) (by rfl) ?_ ?_
           rotate_left
           focus (intro w_ hw_;have f0_:=hw_.v0;have f1_:=hw_.v1;have f2_:=hw_.v2;go_simp;(try with_reducible rfl);done)
           (try dsimp only [Act.put])
           show runB _ _ _ _ 1 [10] _ _
           try simp only [List.setIfInBounds_toArray,List.set_cons_zero,List.set_cons_succ]
           refine runB_one 10 (by kernel_rfl) (by kernel_rfl) (by rfl) (by rfl) ?_
           refine tdoes_skip (w1:=x6.setRow w.heap.size #[.slice (some ⟨b1,0,none⟩) 3 3,.slice (some ⟨b2,0,none⟩) 1 1,.slice (some ⟨b3,0,none⟩) 2 2]) (sep_store 25 _ _ rfl w.heap.size #[.slice (some ⟨b1,0,none⟩) 3 3,.slice (some ⟨b2,0,none⟩) 1 1,.slice (some ⟨b3,0,none⟩) 2 2] rfl rfl 25 #[.slice none 0 0,.slice none 0 0,.slice none 0 0] F0 (by kernel_rfl) (by rfl) (by kernel_rfl)) ⟨hSx6.store _,?_⟩
           show runB _ _ _ _ 0 [] _ _
           refine runB_nil ?_
           (try dsimp only [Act.put])
           try simp only [List.setIfInBounds_toArray,List.set_cons_zero,List.set_cons_succ]
           go_wp2_with fail
           refine bodyPost_ret (results_cell_row (ty:=25) rfl _ _ w.heap.size 25 _ (0,0) _ rfl (setRow_heap _ _ _ _ _ _ F0) Tryz.underlying25 rfl (by kernel_rfl)) rfl ?_
           exact ⟨b1,b2,b3,rfl,Nat.le_of_lt Gb1,Nat.le_of_lt Gb2,Nat.le_of_lt Gb3,(setRow_other _ _ _ _ (by omega)).trans Fb1,(setRow_other _ _ _ _ (by omega)).trans Fb2,(setRow_other _ _ _ _ (by omega)).trans Fb3,(hSx6.store _).below⟩
         · refine tdoes_op (w1:=x4.alloc (.cells rCells 43)) (v:=.slice (some ⟨x4.heap.size,0,none⟩) 2 2) (exec_kop2 _ _ rfl rfl rfl) ⟨hSx4.next ((Below.refl _ _).alloc (Nat.le_refl _) _),?_⟩
           (try dsimp only [Act.put])
           try simp only [List.setIfInBounds_toArray,List.set_cons_zero,List.set_cons_succ]
           obtain ⟨x5,h_⟩:∃ q,q=x4.alloc (.cells rCells 43):=⟨_,rfl⟩
           obtain ⟨b3,hg_⟩:∃ q,q=x4.heap.size:=⟨_,rfl⟩
           have hb_:Below x4.heap.size x4 x5:=by rw [h_];exact (Below.refl _ _).alloc (Nat.le_refl _) _
           have Fb3:x5.heap[b3]? = some (.cells rCells 43 (0,0)):=by rw [h_,hg_];exact heap_alloc_new x4 _
           have Gb3:w.heap.size < b3:=by rw [hg_];exact lt_of_block F0
           have hSx5:=hSx4.next hb_
           rw [←h_,←hg_]
           clear h_ hg_
           replace F0:=keep_blk F0 hb_
           replace Fb1:=keep_blk Fb1 hb_
           clear hb_
           show runB _ _ _ _ 3 [5,9,10] _ _
           refine runB_one 5 (by kernel_rfl) (by kernel_rfl) (by rfl) (by rfl) ?_
           refine tdoes_op (w1:=x5.alloc (.cells oCells 43)) (v:=.slice (some ⟨x5.heap.size,0,none⟩) 1 1) (exec_kop1 _ rfl rfl) ⟨hSx5.next ((Below.refl _ _).alloc (Nat.le_refl _) _),?_⟩
           (try dsimp only [Act.put])
           try simp only [List.setIfInBounds_toArray,List.set_cons_zero,List.set_cons_succ]
           obtain ⟨x6,h_⟩:∃ q,q=x5.alloc (.cells oCells 43):=⟨_,rfl⟩
           obtain ⟨b2,hg_⟩:∃ q,q=x5.heap.size:=⟨_,rfl⟩
           have hb_:Below x5.heap.size x5 x6:=by rw [h_];exact (Below.refl _ _).alloc (Nat.le_refl _) _
           have Fb2:x6.heap[b2]? = some (.cells oCells 43 (0,0)):=by rw [h_,hg_];exact heap_alloc_new x5 _
           have Gb2:w.heap.size < b2:=by rw [hg_];exact lt_of_block F0
           have hSx6:=hSx5.next hb_
           rw [←h_,←hg_]
           clear h_ hg_
           replace F0:=keep_blk F0 hb_
           replace Fb1:=keep_blk Fb1 hb_
           replace Fb3:=keep_blk Fb3 hb_
           clear hb_
           show runB _ _ _ _ 2 [9,10] _ _
           refine runB_at 9 (v:=?_) (by rfl) (by rfl) (by rfl) (by kernel_rfl) (by rfl) ?_ ?_
           rotate_left
           focus (intro w_ hw_;have f0_:=hw_.v0;have f1_:=hw_.v1;have f2_:=hw_.v2;go_simp;(try with_reducible rfl);done)
           (try dsimp only [Act.put])
           show runB _ _ _ _ 1 [10] _ _
           try simp only [List.setIfInBounds_toArray,List.set_cons_zero,List.set_cons_succ]
           refine runB_one 10 (by kernel_rfl) (by kernel_rfl) (by rfl) (by rfl) ?_
           refine tdoes_skip (w1:=x6.setRow w.heap.size #[.slice (some ⟨b1,0,none⟩) 3 3,.slice (some ⟨b2,0,none⟩) 1 1,.slice (some ⟨b3,0,none⟩) 2 2]) (sep_store 25 _ _ rfl w.heap.size #[.slice (some ⟨b1,0,none⟩) 3 3,.slice (some ⟨b2,0,none⟩) 1 1,.slice (some ⟨b3,0,none⟩) 2 2] rfl rfl 25 #[.slice none 0 0,.slice none 0 0,.slice none 0 0] F0 (by kernel_rfl) (by rfl) (by kernel_rfl)) ⟨hSx6.store _,?_⟩
           show runB _ _ _ _ 0 [] _ _
           refine runB_nil ?_
           (try dsimp only [Act.put])
           try simp only [List.setIfInBounds_toArray,List.set_cons_zero,List.set_cons_succ]
           go_wp2_with fail
           refine bodyPost_ret (results_cell_row (ty:=25) rfl _ _ w.heap.size 25 _ (0,0) _ rfl (setRow_heap _ _ _ _ _ _ F0) Tryz.underlying25 rfl (by kernel_rfl)) rfl ?_
           exact ⟨b1,b2,b3,rfl,Nat.le_of_lt Gb1,Nat.le_of_lt Gb2,Nat.le_of_lt Gb3,(setRow_other _ _ _ _ (by omega)).trans Fb1,(setRow_other _ _ _ _ (by omega)).trans Fb2,(setRow_other _ _ _ _ (by omega)).trans Fb3,(hSx6.store _).below⟩
   · refine tdoes_op (w1:=x1.alloc (.cells oCells 43)) (v:=.slice (some ⟨x1.heap.size,0,none⟩) 1 1) (exec_kop1 _ rfl rfl) ⟨hSx1.next ((Below.refl _ _).alloc (Nat.le_refl _) _),?_⟩
     (try dsimp only [Act.put])
     try simp only [List.setIfInBounds_toArray,List.set_cons_zero,List.set_cons_succ]
     obtain ⟨x2,h_⟩:∃ q,q=x1.alloc (.cells oCells 43):=⟨_,rfl⟩
     obtain ⟨b2,hg_⟩:∃ q,q=x1.heap.size:=⟨_,rfl⟩
     have hb_:Below x1.heap.size x1 x2:=by rw [h_];exact (Below.refl _ _).alloc (Nat.le_refl _) _
     have Fb2:x2.heap[b2]? = some (.cells oCells 43 (0,0)):=by rw [h_,hg_];exact heap_alloc_new x1 _
     have Gb2:w.heap.size < b2:=by rw [hg_];exact lt_of_block F0
     have hSx2:=hSx1.next hb_
     rw [←h_,←hg_]
     clear h_ hg_
     replace F0:=keep_blk F0 hb_
     clear hb_
     show runB _ _ _ _ 6 [3,6,7,8,9,10] _ _
     refine runB_two 3 6 (by kernel_rfl) (by kernel_rfl) (by rfl) (by rfl) (by rfl) (by rfl) ?_ ?_
     · refine tdoes_op (w1:=x2.alloc (.cells vCells 60)) (v:=.slice (some ⟨x2.heap.size,0,none⟩) 3 3) (exec_vars _ _ _ rfl rfl rfl rfl) ⟨hSx2.next ((Below.refl _ _).alloc (Nat.le_refl _) _),?_⟩
       (try dsimp only [Act.put])
       try simp only [List.setIfInBounds_toArray,List.set_cons_zero,List.set_cons_succ]
       obtain ⟨x3,h_⟩:∃ q,q=x2.alloc (.cells vCells 60):=⟨_,rfl⟩
       obtain ⟨b1,hg_⟩:∃ q,q=x2.heap.size:=⟨_,rfl⟩
       have hb_:Below x2.heap.size x2 x3:=by rw [h_];exact (Below.refl _ _).alloc (Nat.le_refl _) _
       have Fb1:x3.heap[b1]? = some (.cells vCells 60 (0,0)):=by rw [h_,hg_];exact heap_alloc_new x2 _
       have Gb1:w.heap.size < b1:=by rw [hg_];exact lt_of_block F0
       have hSx3:=hSx2.next hb_
       rw [←h_,←hg_]
       clear h_ hg_
       replace F0:=keep_blk F0 hb_
       replace Fb2:=keep_blk Fb2 hb_
       clear hb_
       show runB _ _ _ _ 5 [6,7,8,9,10] _ _
       refine runB_one 6 (by kernel_rfl) (by kernel_rfl) (by rfl) (by rfl) ?_
       refine tdoes_call (f:=?_) (args:=?_) (w1:=?_) ?_ ?_
       rotate_left 3
       focus (go_simp;refine ⟨⟨?_,?_⟩,?_⟩ <;> with_reducible rfl)
       refine (lneed_any 1 1 (-1) (by decide) x3).mono ?_
       rintro e_ x4 ⟨rfl,hb_⟩
       have hSx4:=hSx3.next hb_
       refine ⟨_,rfl,hSx4,?_⟩
       (try dsimp only [Act.put])
       try simp only [List.setIfInBounds_toArray,List.set_cons_zero,List.set_cons_succ]
       replace F0:=keep_blk F0 hb_
       replace Fb2:=keep_blk Fb2 hb_
       replace Fb1:=keep_blk Fb1 hb_
       clear hb_
       show runB _ _ _ _ 4 [7,8,9,10] _ _
       refine runB_one 7 (by kernel_rfl) (by kernel_rfl) (by rfl) (by rfl) ?_
       refine tdoes_call (f:=?_) (args:=?_) (w1:=?_) ?_ ?_
       rotate_left 3
       focus (go_simp;refine ⟨⟨?_,?_⟩,?_⟩ <;> with_reducible rfl)
       refine (lneed_any 2 0 1 (by decide) x4).mono ?_
       rintro e_ x5 ⟨rfl,hb_⟩
       have hSx5:=hSx4.next hb_
       refine ⟨_,rfl,hSx5,?_⟩
       (try dsimp only [Act.put])
       try simp only [List.setIfInBounds_toArray,List.set_cons_zero,List.set_cons_succ]
       replace F0:=keep_blk F0 hb_
       replace Fb2:=keep_blk Fb2 hb_
       replace Fb1:=keep_blk Fb1 hb_
       clear hb_
       show runB _ _ _ _ 3 [8,9,10] _ _
       refine runB_one 8 (by kernel_rfl) (by kernel_rfl) (by rfl) (by rfl) ?_
       refine tdoes_op (w1:=x5.alloc (.cells rCells 43)) (v:=.slice (some ⟨x5.heap.size,0,none⟩) 2 2) (exec_kop2 _ _ rfl rfl rfl) ⟨hSx5.next ((Below.refl _ _).alloc (Nat.le_refl _) _),?_⟩
       (try dsimp only [Act.put])
       try simp only [List.setIfInBounds_toArray,List.set_cons_zero,List.set_cons_succ]
       obtain ⟨x6,h_⟩:∃ q,q=x5.alloc (.cells rCells 43):=⟨_,rfl⟩
       obtain ⟨b3,hg_⟩:∃ q,q=x5.heap.size:=⟨_,rfl⟩
       have hb_:Below x5.heap.size x5 x6:=by rw [h_];exact (Below.refl _ _).alloc (Nat.le_refl _) _
       have Fb3:x6.heap[b3]? = some (.cells rCells 43 (0,0)):=by rw [h_,hg_];exact heap_alloc_new x5 _
       have Gb3:w.heap.size < b3:=by rw [hg_];exact lt_of_block F0
       have hSx6:=hSx5.next hb_
       rw [←h_,←hg_]
       clear h_ hg_
       replace F0:=keep_blk F0 hb_
       replace Fb2:=keep_blk Fb2 hb_
       replace Fb1:=keep_blk Fb1 hb_
       clear hb_
       show runB _ _ _ _ 2 [9,10] _ _
       refine runB_at 9 (v:=?_) (by rfl) (by rfl) (by rfl) (by kernel_rfl) (by rfl) ?_ ?_
       rotate_left
       focus (intro w_ hw_;have f0_:=hw_.v0;have f1_:=hw_.v1;have f2_:=hw_.v2;go_simp;(try with_reducible rfl);done)
       (try dsimp only [Act.put])
       show runB _ _ _ _ 1 [10] _ _
       try simp only [List.setIfInBounds_toArray,List.set_cons_zero,List.set_cons_succ]
       refine runB_one 10 (by kernel_rfl) (by kernel_rfl) (by rfl) (by rfl) ?_
       refine tdoes_skip (w1:=x6.setRow w.heap.size #[.slice (some ⟨b1,0,none⟩) 3 3,.slice (some ⟨b2,0,none⟩) 1 1,.slice (some ⟨b3,0,none⟩) 2 2]) (sep_store 25 _ _ rfl w.heap.size #[.slice (some ⟨b1,0,none⟩) 3 3,.slice (some ⟨b2,0,none⟩) 1 1,.slice (some ⟨b3,0,none⟩) 2 2] rfl rfl 25 #[.slice none 0 0,.slice none 0 0,.slice none 0 0] F0 (by kernel_rfl) (by rfl) (by kernel_rfl)) ⟨hSx6.store _,?_⟩
       show runB _ _ _ _ 0 [] _ _
       refine runB_nil ?_
       (try dsimp only [Act.put])
       try simp only [List.setIfInBounds_toArray,List.set_cons_zero,List.set_cons_succ]
       go_wp2_with fail
       refine bodyPost_ret (results_cell_row (ty:=25) rfl _ _ w.heap.size 25 _ (0,0) _ rfl (setRow_heap _ _ _ _ _ _ F0) Tryz.underlying25 rfl (by kernel_rfl)) rfl ?_
       exact ⟨b1,b2,b3,rfl,Nat.le_of_lt Gb1,Nat.le_of_lt Gb2,Nat.le_of_lt Gb3,(setRow_other _ _ _ _ (by omega)).trans Fb1,(setRow_other _ _ _ _ (by omega)).trans Fb2,(setRow_other _ _ _ _ (by omega)).trans Fb3,(hSx6.store _).below⟩
     · refine tdoes_call (f:=?_) (args:=?_) (w1:=?_) ?_ ?_
       rotate_left 3
       focus (go_simp;refine ⟨⟨?_,?_⟩,?_⟩ <;> with_reducible rfl)
       refine (lneed_any 1 1 (-1) (by decide) x2).mono ?_
       rintro e_ x3 ⟨rfl,hb_⟩
       have hSx3:=hSx2.next hb_
       refine ⟨_,rfl,hSx3,?_⟩
       (try dsimp only [Act.put])
       try simp only [List.setIfInBounds_toArray,List.set_cons_zero,List.set_cons_succ]
       replace F0:=keep_blk F0 hb_
       replace Fb2:=keep_blk Fb2 hb_
       clear hb_
       show runB _ _ _ _ 5 [3,7,8,9,10] _ _
       refine runB_two 3 7 (by kernel_rfl) (by kernel_rfl) (by rfl) (by rfl) (by rfl) (by rfl) ?_ ?_
       · refine tdoes_op (w1:=x3.alloc (.cells vCells 60)) (v:=.slice (some ⟨x3.heap.size,0,none⟩) 3 3) (exec_vars _ _ _ rfl rfl rfl rfl) ⟨hSx3.next ((Below.refl _ _).alloc (Nat.le_refl _) _),?_⟩
         (try dsimp only [Act.put])
         try simp only [List.setIfInBounds_toArray,List.set_cons_zero,List.set_cons_succ]
         obtain ⟨x4,h_⟩:∃ q,q=x3.alloc (.cells vCells 60):=⟨_,rfl⟩
         obtain ⟨b1,hg_⟩:∃ q,q=x3.heap.size:=⟨_,rfl⟩
         have hb_:Below x3.heap.size x3 x4:=by rw [h_];exact (Below.refl _ _).alloc (Nat.le_refl _) _
         have Fb1:x4.heap[b1]? = some (.cells vCells 60 (0,0)):=by rw [h_,hg_];exact heap_alloc_new x3 _
         have Gb1:w.heap.size < b1:=by rw [hg_];exact lt_of_block F0
         have hSx4:=hSx3.next hb_
         rw [←h_,←hg_]
         clear h_ hg_
         replace F0:=keep_blk F0 hb_
         replace Fb2:=keep_blk Fb2 hb_
         clear hb_
         show runB _ _ _ _ 4 [7,8,9,10] _ _
         refine runB_one 7 (by kernel_rfl) (by kernel_rfl) (by rfl) (by rfl) ?_
         refine tdoes_call (f:=?_) (args:=?_) (w1:=?_) ?_ ?_
         rotate_left 3
         focus (go_simp;refine ⟨⟨?_,?_⟩,?_⟩ <;> with_reducible rfl)
         refine (lneed_any 2 0 1 (by decide) x4).mono ?_
         rintro e_ x5 ⟨rfl,hb_⟩
         have hSx5:=hSx4.next hb_
         refine ⟨_,rfl,hSx5,?_⟩
         (try dsimp only [Act.put])
         try simp only [List.setIfInBounds_toArray,List.set_cons_zero,List.set_cons_succ]
         replace F0:=keep_blk F0 hb_
         replace Fb2:=keep_blk Fb2 hb_
         replace Fb1:=keep_blk Fb1 hb_
         clear hb_
         show runB _ _ _ _ 3 [8,9,10] _ _
         refine runB_one 8 (by kernel_rfl) (by kernel_rfl) (by rfl) (by rfl) ?_
         refine tdoes_op (w1:=x5.alloc (.cells rCells 43)) (v:=.slice (some ⟨x5.heap.size,0,none⟩) 2 2) (exec_kop2 _ _ rfl rfl rfl) ⟨hSx5.next ((Below.refl _ _).alloc (Nat.le_refl _) _),?_⟩
         (try dsimp only [Act.put])
         try simp only [List.setIfInBounds_toArray,List.set_cons_zero,List.set_cons_succ]
         obtain ⟨x6,h_⟩:∃ q,q=x5.alloc (.cells rCells 43):=⟨_,rfl⟩
         obtain ⟨b3,hg_⟩:∃ q,q=x5.heap.size:=⟨_,rfl⟩
         have hb_:Below x5.heap.size x5 x6:=by rw [h_];exact (Below.refl _ _).alloc (Nat.le_refl _) _
         have Fb3:x6.heap[b3]? = some (.cells rCells 43 (0,0)):=by rw [h_,hg_];exact heap_alloc_new x5 _
         have Gb3:w.heap.size < b3:=by rw [hg_];exact lt_of_block F0
         have hSx6:=hSx5.next hb_
         rw [←h_,←hg_]
         clear h_ hg_
         replace F0:=keep_blk F0 hb_
         replace Fb2:=keep_blk Fb2 hb_
         replace Fb1:=keep_blk Fb1 hb_
         clear hb_
         show runB _ _ _ _ 2 [9,10] _ _
         refine runB_at 9 (v:=?_) (by rfl) (by rfl) (by rfl) (by kernel_rfl) (by rfl) ?_ ?_
         rotate_left
         focus (intro w_ hw_;have f0_:=hw_.v0;have f1_:=hw_.v1;have f2_:=hw_.v2;go_simp;(try with_reducible rfl);done)
         (try dsimp only [Act.put])
         show runB _ _ _ _ 1 [10] _ _
         try simp only [List.setIfInBounds_toArray,List.set_cons_zero,List.set_cons_succ]
         refine runB_one 10 (by kernel_rfl) (by kernel_rfl) (by rfl) (by rfl) ?_
         refine tdoes_skip (w1:=x6.setRow w.heap.size #[.slice (some ⟨b1,0,none⟩) 3 3,.slice (some ⟨b2,0,none⟩) 1 1,.slice (some ⟨b3,0,none⟩) 2 2]) (sep_store 25 _ _ rfl w.heap.size #[.slice (some ⟨b1,0,none⟩) 3 3,.slice (some ⟨b2,0,none⟩) 1 1,.slice (some ⟨b3,0,none⟩) 2 2] rfl rfl 25 #[.slice none 0 0,.slice none 0 0,.slice none 0 0] F0 (by kernel_rfl) (by rfl) (by kernel_rfl)) ⟨hSx6.store _,?_⟩
         show runB _ _ _ _ 0 [] _ _
         refine runB_nil ?_
         (try dsimp only [Act.put])
         try simp only [List.setIfInBounds_toArray,List.set_cons_zero,List.set_cons_succ]
         go_wp2_with fail
         refine bodyPost_ret (results_cell_row (ty:=25) rfl _ _ w.heap.size 25 _ (0,0) _ rfl (setRow_heap _ _ _ _ _ _ F0) Tryz.underlying25 rfl (by kernel_rfl)) rfl ?_
         exact ⟨b1,b2,b3,rfl,Nat.le_of_lt Gb1,Nat.le_of_lt Gb2,Nat.le_of_lt Gb3,(setRow_other _ _ _ _ (by omega)).trans Fb1,(setRow_other _ _ _ _ (by omega)).trans Fb2,(setRow_other _ _ _ _ (by omega)).trans Fb3,(hSx6.store _).below⟩
       · refine tdoes_call (f:=?_) (args:=?_) (w1:=?_) ?_ ?_
         rotate_left 3
         focus (go_simp;refine ⟨⟨?_,?_⟩,?_⟩ <;> with_reducible rfl)
         refine (lneed_any 2 0 1 (by decide) x3).mono ?_
         rintro e_ x4 ⟨rfl,hb_⟩
         have hSx4:=hSx3.next hb_
         refine ⟨_,rfl,hSx4,?_⟩
         (try dsimp only [Act.put])
         try simp only [List.setIfInBounds_toArray,List.set_cons_zero,List.set_cons_succ]
         replace F0:=keep_blk F0 hb_
         replace Fb2:=keep_blk Fb2 hb_
         clear hb_
         show runB _ _ _ _ 4 [3,8,9,10] _ _
         refine runB_two 3 8 (by kernel_rfl) (by kernel_rfl) (by rfl) (by rfl) (by rfl) (by rfl) ?_ ?_
         · refine tdoes_op (w1:=x4.alloc (.cells vCells 60)) (v:=.slice (some ⟨x4.heap.size,0,none⟩) 3 3) (exec_vars _ _ _ rfl rfl rfl rfl) ⟨hSx4.next ((Below.refl _ _).alloc (Nat.le_refl _) _),?_⟩
           (try dsimp only [Act.put])
           try simp only [List.setIfInBounds_toArray,List.set_cons_zero,List.set_cons_succ]
           obtain ⟨x5,h_⟩:∃ q,q=x4.alloc (.cells vCells 60):=⟨_,rfl⟩
           obtain ⟨b1,hg_⟩:∃ q,q=x4.heap.size:=⟨_,rfl⟩
           have hb_:Below x4.heap.size x4 x5:=by rw [h_];exact (Below.refl _ _).alloc (Nat.le_refl _) _
           have Fb1:x5.heap[b1]? = some (.cells vCells 60 (0,0)):=by rw [h_,hg_];exact heap_alloc_new x4 _
           have Gb1:w.heap.size < b1:=by rw [hg_];exact lt_of_block F0
           have hSx5:=hSx4.next hb_
           rw [←h_,←hg_]
           clear h_ hg_
           replace F0:=keep_blk F0 hb_
           replace Fb2:=keep_blk Fb2 hb_
           clear hb_
           show runB _ _ _ _ 3 [8,9,10] _ _
           refine runB_one 8 (by kernel_rfl) (by kernel_rfl) (by rfl) (by rfl) ?_
           refine tdoes_op (w1:=x5.alloc (.cells rCells 43)) (v:=.slice (some ⟨x5.heap.size,0,none⟩) 2 2) (exec_kop2 _ _ rfl rfl rfl) ⟨hSx5.next ((Below.refl _ _).alloc (Nat.le_refl _) _),?_⟩
           (try dsimp only [Act.put])
           try simp only [List.setIfInBounds_toArray,List.set_cons_zero,List.set_cons_succ]
           obtain ⟨x6,h_⟩:∃ q,q=x5.alloc (.cells rCells 43):=⟨_,rfl⟩
           obtain ⟨b3,hg_⟩:∃ q,q=x5.heap.size:=⟨_,rfl⟩
           have hb_:Below x5.heap.size x5 x6:=by rw [h_];exact (Below.refl _ _).alloc (Nat.le_refl _) _
           have Fb3:x6.heap[b3]? = some (.cells rCells 43 (0,0)):=by rw [h_,hg_];exact heap_alloc_new x5 _
           have Gb3:w.heap.size < b3:=by rw [hg_];exact lt_of_block F0
           have hSx6:=hSx5.next hb_
           rw [←h_,←hg_]
           clear h_ hg_
           replace F0:=keep_blk F0 hb_
           replace Fb2:=keep_blk Fb2 hb_
           replace Fb1:=keep_blk Fb1 hb_
           clear hb_
           show runB _ _ _ _ 2 [9,10] _ _
           refine runB_at 9 (v:=?_) (by rfl) (by rfl) (by rfl) (by kernel_rfl) (by rfl) ?_ ?_
           rotate_left
           focus (intro w_ hw_;have f0_:=hw_.v0;have f1_:=hw_.v1;have f2_:=hw_.v2;go_simp;(try with_reducible rfl);done)
           (try dsimp only [Act.put])
           show runB _ _ _ _ 1 [10] _ _
           try simp only [List.setIfInBounds_toArray,List.set_cons_zero,List.set_cons_succ]
           refine runB_one 10 (by kernel_rfl) (by kernel_rfl) (by rfl) (by rfl) ?_
           refine tdoes_skip (w1:=x6.setRow w.heap.size #[.slice (some ⟨b1,0,none⟩) 3 3,.slice (some ⟨b2,0,none⟩) 1 1,.slice (some ⟨b3,0,none⟩) 2 2]) (sep_store 25 _ _ rfl w.heap.size #[.slice (some ⟨b1,0,none⟩) 3 3,.slice (some ⟨b2,0,none⟩) 1 1,.slice (some ⟨b3,0,none⟩) 2 2] rfl rfl 25 #[.slice none 0 0,.slice none 0 0,.slice none 0 0] F0 (by kernel_rfl) (by rfl) (by kernel_rfl)) ⟨hSx6.store _,?_⟩
           show runB _ _ _ _ 0 [] _ _
           refine runB_nil ?_
           (try dsimp only [Act.put])
           try simp only [List.setIfInBounds_toArray,List.set_cons_zero,List.set_cons_succ]
           go_wp2_with fail
           refine bodyPost_ret (results_cell_row (ty:=25) rfl _ _ w.heap.size 25 _ (0,0) _ rfl (setRow_heap _ _ _ _ _ _ F0) Tryz.underlying25 rfl (by kernel_rfl)) rfl ?_
           exact ⟨b1,b2,b3,rfl,Nat.le_of_lt Gb1,Nat.le_of_lt Gb2,Nat.le_of_lt Gb3,(setRow_other _ _ _ _ (by omega)).trans Fb1,(setRow_other _ _ _ _ (by omega)).trans Fb2,(setRow_other _ _ _ _ (by omega)).trans Fb3,(hSx6.store _).below⟩
         · refine tdoes_op (w1:=x4.alloc (.cells rCells 43)) (v:=.slice (some ⟨x4.heap.size,0,none⟩) 2 2) (exec_kop2 _ _ rfl rfl rfl) ⟨hSx4.next ((Below.refl _ _).alloc (Nat.le_refl _) _),?_⟩
           (try dsimp only [Act.put])
           try simp only [List.setIfInBounds_toArray,List.set_cons_zero,List.set_cons_succ]
           obtain ⟨x5,h_⟩:∃ q,q=x4.alloc (.cells rCells 43):=⟨_,rfl⟩
           obtain ⟨b3,hg_⟩:∃ q,q=x4.heap.size:=⟨_,rfl⟩
           have hb_:Below x4.heap.size x4 x5:=by rw [h_];exact (Below.refl _ _).alloc (Nat.le_refl _) _
           have Fb3:x5.heap[b3]? = some (.cells rCells 43 (0,0)):=by rw [h_,hg_];exact heap_alloc_new x4 _
           have Gb3:w.heap.size < b3:=by rw [hg_];exact lt_of_block F0
           have hSx5:=hSx4.next hb_
           rw [←h_,←hg_]
           clear h_ hg_
           replace F0:=keep_blk F0 hb_
           replace Fb2:=keep_blk Fb2 hb_
           clear hb_
           show runB _ _ _ _ 3 [3,9,10] _ _
           refine runB_one 3 (by kernel_rfl) (by kernel_rfl) (by rfl) (by rfl) ?_
           refine tdoes_op (w1:=x5.alloc (.cells vCells 60)) (v:=.slice (some ⟨x5.heap.size,0,none⟩) 3 3) (exec_vars _ _ _ rfl rfl rfl rfl) ⟨hSx5.next ((Below.refl _ _).alloc (Nat.le_refl _) _),?_⟩
           (try dsimp only [Act.put])
           try simp only [List.setIfInBounds_toArray,List.set_cons_zero,List.set_cons_succ]
           obtain ⟨x6,h_⟩:∃ q,q=x5.alloc (.cells vCells 60):=⟨_,rfl⟩
           obtain ⟨b1,hg_⟩:∃ q,q=x5.heap.size:=⟨_,rfl⟩
           have hb_:Below x5.heap.size x5 x6:=by rw [h_];exact (Below.refl _ _).alloc (Nat.le_refl _) _
           have Fb1:x6.heap[b1]? = some (.cells vCells 60 (0,0)):=by rw [h_,hg_];exact heap_alloc_new x5 _
           have Gb1:w.heap.size < b1:=by rw [hg_];exact lt_of_block F0
           have hSx6:=hSx5.next hb_
           rw [←h_,←hg_]
           clear h_ hg_
           replace F0:=keep_blk F0 hb_
           replace Fb2:=keep_blk Fb2 hb_
           replace Fb3:=keep_blk Fb3 hb_
           clear hb_
           show runB _ _ _ _ 2 [9,10] _ _
           refine runB_at 9 (v:=?_) (by rfl) (by rfl) (by rfl) (by kernel_rfl) (by rfl) ?_ ?_
           rotate_left
           focus (intro w_ hw_;have f0_:=hw_.v0;have f1_:=hw_.v1;have f2_:=hw_.v2;go_simp;(try with_reducible rfl);done)
           (try dsimp only [Act.put])
           show runB _ _ _ _ 1 [10] _ _
           try simp only [List.setIfInBounds_toArray,List.set_cons_zero,List.set_cons_succ]
           refine runB_one 10 (by kernel_rfl) (by kernel_rfl) (by rfl) (by rfl) ?_
           refine tdoes_skip (w1:=x6.setRow w.heap.size #[.slice (some ⟨b1,0,none⟩) 3 3,.slice (some ⟨b2,0,none⟩) 1 1,.slice (some ⟨b3,0,none⟩) 2 2]) (sep_store 25 _ _ rfl w.heap.size #[.slice (some ⟨b1,0,none⟩) 3 3,.slice (some ⟨b2,0,none⟩) 1 1,.slice (some ⟨b3,0,none⟩) 2 2] rfl rfl 25 #[.slice none 0 0,.slice none 0 0,.slice none 0 0] F0 (by kernel_rfl) (by rfl) (by kernel_rfl)) ⟨hSx6.store _,?_⟩
           show runB _ _ _ _ 0 [] _ _
           refine runB_nil ?_
           (try dsimp only [Act.put])
           try simp only [List.setIfInBounds_toArray,List.set_cons_zero,List.set_cons_succ]
           go_wp2_with fail
           refine bodyPost_ret (results_cell_row (ty:=25) rfl _ _ w.heap.size 25 _ (0,0) _ rfl (setRow_heap _ _ _ _ _ _ F0) Tryz.underlying25 rfl (by kernel_rfl)) rfl ?_
           exact ⟨b1,b2,b3,rfl,Nat.le_of_lt Gb1,Nat.le_of_lt Gb2,Nat.le_of_lt Gb3,(setRow_other _ _ _ _ (by omega)).trans Fb1,(setRow_other _ _ _ _ (by omega)).trans Fb2,(setRow_other _ _ _ _ (by omega)).trans Fb3,(hSx6.store _).below⟩
   · refine tdoes_call (f:=?_) (args:=?_) (w1:=?_) ?_ ?_
     rotate_left 3
     focus (go_simp;refine ⟨⟨?_,?_⟩,?_⟩ <;> with_reducible rfl)
     refine (lneed_any 1 1 (-1) (by decide) x1).mono ?_
     rintro e_ x2 ⟨rfl,hb_⟩
     have hSx2:=hSx1.next hb_
     refine ⟨_,rfl,hSx2,?_⟩
     (try dsimp only [Act.put])
     try simp only [List.setIfInBounds_toArray,List.set_cons_zero,List.set_cons_succ]
     replace F0:=keep_blk F0 hb_
     clear hb_
     show runB _ _ _ _ 6 [3,5,7,8,9,10] _ _
     refine runB_three 3 5 7 (by kernel_rfl) (by kernel_rfl) (by rfl) (by rfl) (by rfl) (by rfl) (by rfl) (by rfl) ?_ ?_ ?_
     · refine tdoes_op (w1:=x2.alloc (.cells vCells 60)) (v:=.slice (some ⟨x2.heap.size,0,none⟩) 3 3) (exec_vars _ _ _ rfl rfl rfl rfl) ⟨hSx2.next ((Below.refl _ _).alloc (Nat.le_refl _) _),?_⟩
       (try dsimp only [Act.put])
       try simp only [List.setIfInBounds_toArray,List.set_cons_zero,List.set_cons_succ]
       obtain ⟨x3,h_⟩:∃ q,q=x2.alloc (.cells vCells 60):=⟨_,rfl⟩
       obtain ⟨b1,hg_⟩:∃ q,q=x2.heap.size:=⟨_,rfl⟩
       have hb_:Below x2.heap.size x2 x3:=by rw [h_];exact (Below.refl _ _).alloc (Nat.le_refl _) _
       have Fb1:x3.heap[b1]? = some (.cells vCells 60 (0,0)):=by rw [h_,hg_];exact heap_alloc_new x2 _
       have Gb1:w.heap.size < b1:=by rw [hg_];exact lt_of_block F0
       have hSx3:=hSx2.next hb_
       rw [←h_,←hg_]
       clear h_ hg_
       replace F0:=keep_blk F0 hb_
       clear hb_
       show runB _ _ _ _ 5 [5,7,8,9,10] _ _
       refine runB_two 5 7 (by kernel_rfl) (by kernel_rfl) (by rfl) (by rfl) (by rfl) (by rfl) ?_ ?_
       · refine tdoes_op (w1:=x3.alloc (.cells oCells 43)) (v:=.slice (some ⟨x3.heap.size,0,none⟩) 1 1) (exec_kop1 _ rfl rfl) ⟨hSx3.next ((Below.refl _ _).alloc (Nat.le_refl _) _),?_⟩
         (try dsimp only [Act.put])
         try simp only [List.setIfInBounds_toArray,List.set_cons_zero,List.set_cons_succ]
         obtain ⟨x4,h_⟩:∃ q,q=x3.alloc (.cells oCells 43):=⟨_,rfl⟩
         obtain ⟨b2,hg_⟩:∃ q,q=x3.heap.size:=⟨_,rfl⟩
         have hb_:Below x3.heap.size x3 x4:=by rw [h_];exact (Below.refl _ _).alloc (Nat.le_refl _) _
         have Fb2:x4.heap[b2]? = some (.cells oCells 43 (0,0)):=by rw [h_,hg_];exact heap_alloc_new x3 _
         have Gb2:w.heap.size < b2:=by rw [hg_];exact lt_of_block F0
         have hSx4:=hSx3.next hb_
         rw [←h_,←hg_]
         clear h_ hg_
         replace F0:=keep_blk F0 hb_
         replace Fb1:=keep_blk Fb1 hb_
         clear hb_
         show runB _ _ _ _ 4 [7,8,9,10] _ _
         refine runB_one 7 (by kernel_rfl) (by kernel_rfl) (by rfl) (by rfl) ?_
         refine tdoes_call (f:=?_) (args:=?_) (w1:=?_) ?_ ?_
         rotate_left 3
         focus (go_simp;refine ⟨⟨?_,?_⟩,?_⟩ <;> with_reducible rfl)
         refine (lneed_any 2 0 1 (by decide) x4).mono ?_
         rintro e_ x5 ⟨rfl,hb_⟩
         have hSx5:=hSx4.next hb_
         refine ⟨_,rfl,hSx5,?_⟩
         (try dsimp only [Act.put])
         try simp only [List.setIfInBounds_toArray,List.set_cons_zero,List.set_cons_succ]
         replace F0:=keep_blk F0 hb_
         replace Fb1:=keep_blk Fb1 hb_
         replace Fb2:=keep_blk Fb2 hb_
         clear hb_
         show runB _ _ _ _ 3 [8,9,10] _ _
         refine runB_one 8 (by kernel_rfl) (by kernel_rfl) (by rfl) (by rfl) ?_
         refine tdoes_op (w1:=x5.alloc (.cells rCells 43)) (v:=.slice (some ⟨x5.heap.size,0,none⟩) 2 2) (exec_kop2 _ _ rfl rfl rfl) ⟨hSx5.next ((Below.refl _ _).alloc (Nat.le_refl _) _),?_⟩
         (try dsimp only [Act.put])
         try simp only [List.setIfInBounds_toArray,List.set_cons_zero,List.set_cons_succ]
         obtain ⟨x6,h_⟩:∃ q,q=x5.alloc (.cells rCells 43):=⟨_,rfl⟩
         obtain ⟨b3,hg_⟩:∃ q,q=x5.heap.size:=⟨_,rfl⟩
         have hb_:Below x5.heap.size x5 x6:=by rw [h_];exact (Below.refl _ _).alloc (Nat.le_refl _) _
         have Fb3:x6.heap[b3]? = some (.cells rCells 43 (0,0)):=by rw [h_,hg_];exact heap_alloc_new x5 _
         have Gb3:w.heap.size < b3:=by rw [hg_];exact lt_of_block F0
         have hSx6:=hSx5.next hb_
         rw [←h_,←hg_]
         clear h_ hg_
         replace F0:=keep_blk F0 hb_
         replace Fb1:=keep_blk Fb1 hb_
         replace Fb2:=keep_blk Fb2 hb_
         clear hb_
         show runB _ _ _ _ 2 [9,10] _ _
         refine runB_at 9 (v:=?_) (by rfl) (by rfl) (by rfl) (by kernel_rfl) (by rfl) ?_ ?_
         rotate_left
         focus (intro w_ hw_;have f0_:=hw_.v0;have f1_:=hw_.v1;have f2_:=hw_.v2;go_simp;(try with_reducible rfl);done)
         (try dsimp only [Act.put])
         show runB _ _ _ _ 1 [10] _ _
         try simp only [List.setIfInBounds_toArray,List.set_cons_zero,List.set_cons_succ]
         refine runB_one 10 (by kernel_rfl) (by kernel_rfl) (by rfl) (by rfl) ?_
         refine tdoes_skip (w1:=x6.setRow w.heap.size #[.slice (some ⟨b1,0,none⟩) 3 3,.slice (some ⟨b2,0,none⟩) 1 1,.slice (some ⟨b3,0,none⟩) 2 2]) (sep_store 25 _ _ rfl w.heap.size #[.slice (some ⟨b1,0,none⟩) 3 3,.slice (some ⟨b2,0,none⟩) 1 1,.slice (some ⟨b3,0,none⟩) 2 2] rfl rfl 25 #[.slice none 0 0,.slice none 0 0,.slice none 0 0] F0 (by kernel_rfl) (by rfl) (by kernel_rfl)) ⟨hSx6.store _,?_⟩
         show runB _ _ _ _ 0 [] _ _
         refine runB_nil ?_
         (try dsimp only [Act.put])
         try simp only [List.setIfInBounds_toArray,List.set_cons_zero,List.set_cons_succ]
         go_wp2_with fail
         refine bodyPost_ret (results_cell_row (ty:=25) rfl _ _ w.heap.size 25 _ (0,0) _ rfl (setRow_heap _ _ _ _ _ _ F0) Tryz.underlying25 rfl (by kernel_rfl)) rfl ?_
         exact ⟨b1,b2,b3,rfl,Nat.le_of_lt Gb1,Nat.le_of_lt Gb2,Nat.le_of_lt Gb3,(setRow_other _ _ _ _ (by omega)).trans Fb1,(setRow_other _ _ _ _ (by omega)).trans Fb2,(setRow_other _ _ _ _ (by omega)).trans Fb3,(hSx6.store _).below⟩
       · refine tdoes_call (f:=?_) (args:=?_) (w1:=?_) ?_ ?_
         rotate_left 3
         focus (go_simp;refine ⟨⟨?_,?_⟩,?_⟩ <;> with_reducible rfl)
         refine (lneed_any 2 0 1 (by decide) x3).mono ?_
         rintro e_ x4 ⟨rfl,hb_⟩
         have hSx4:=hSx3.next hb_
         refine ⟨_,rfl,hSx4,?_⟩
         (try dsimp only [Act.put])
         try simp only [List.setIfInBounds_toArray,List.set_cons_zero,List.set_cons_succ]
         replace F0:=keep_blk F0 hb_
         replace Fb1:=keep_blk Fb1 hb_
         clear hb_
         show runB _ _ _ _ 4 [5,8,9,10] _ _
         refine runB_two 5 8 (by kernel_rfl) (by kernel_rfl) (by rfl) (by rfl) (by rfl) (by rfl) ?_ ?_
         · refine tdoes_op (w1:=x4.alloc (.cells oCells 43)) (v:=.slice (some ⟨x4.heap.size,0,none⟩) 1 1) (exec_kop1 _ rfl rfl) ⟨hSx4.next ((Below.refl _ _).alloc (Nat.le_refl _) _),?_⟩
           (try dsimp only [Act.put])
           try simp only [List.setIfInBounds_toArray,List.set_cons_zero,List.set_cons_succ]
           obtain ⟨x5,h_⟩:∃ q,q=x4.alloc (.cells oCells 43):=⟨_,rfl⟩
           obtain ⟨b2,hg_⟩:∃ q,q=x4.heap.size:=⟨_,rfl⟩
           have hb_:Below x4.heap.size x4 x5:=by rw [h_];exact (Below.refl _ _).alloc (Nat.le_refl _) _
           have Fb2:x5.heap[b2]? = some (.cells oCells 43 (0,0)):=by rw [h_,hg_];exact heap_alloc_new x4 _
           have Gb2:w.heap.size < b2:=by rw [hg_];exact lt_of_block F0
           have hSx5:=hSx4.next hb_
           rw [←h_,←hg_]
           clear h_ hg_
           replace F0:=keep_blk F0 hb_
           replace Fb1:=keep_blk Fb1 hb_
           clear hb_
           show runB _ _ _ _ 3 [8,9,10] _ _
           refine runB_one 8 (by kernel_rfl) (by kernel_rfl) (by rfl) (by rfl) ?_
           refine tdoes_op (w1:=x5.alloc (.cells rCells 43)) (v:=.slice (some ⟨x5.heap.size,0,none⟩) 2 2) (exec_kop2 _ _ rfl rfl rfl) ⟨hSx5.next ((Below.refl _ _).alloc (Nat.le_refl _) _),?_⟩
           (try dsimp only [Act.put])
           try simp only [List.setIfInBounds_toArray,List.set_cons_zero,List.set_cons_succ]
           obtain ⟨x6,h_⟩:∃ q,q=x5.alloc (.cells rCells 43):=⟨_,rfl⟩
           obtain ⟨b3,hg_⟩:∃ q,q=x5.heap.size:=⟨_,rfl⟩
           have hb_:Below x5.heap.size x5 x6:=by rw [h_];exact (Below.refl _ _).alloc (Nat.le_refl _) _
           have Fb3:x6.heap[b3]? = some (.cells rCells 43 (0,0)):=by rw [h_,hg_];exact heap_alloc_new x5 _
           have Gb3:w.heap.size < b3:=by rw [hg_];exact lt_of_block F0
           have hSx6:=hSx5.next hb_
           rw [←h_,←hg_]
           clear h_ hg_
           replace F0:=keep_blk F0 hb_
           replace Fb1:=keep_blk Fb1 hb_
           replace Fb2:=keep_blk Fb2 hb_
           clear hb_
           show runB _ _ _ _ 2 [9,10] _ _
           refine runB_at 9 (v:=?_) (by rfl) (by rfl) (by rfl) (by kernel_rfl) (by rfl) ?_ ?_
           rotate_left
           focus (intro w_ hw_;have f0_:=hw_.v0;have f1_:=hw_.v1;have f2_:=hw_.v2;go_simp;(try with_reducible rfl);done)
           (try dsimp only [Act.put])
           show runB _ _ _ _ 1 [10] _ _
           try simp only [List.setIfInBounds_toArray,List.set_cons_zero,List.set_cons_succ]
           refine runB_one 10 (by kernel_rfl) (by kernel_rfl) (by rfl) (by rfl) ?_
           refine tdoes_skip (w1:=x6.setRow w.heap.size #[.slice (some ⟨b1,0,none⟩) 3 3,.slice (some ⟨b2,0,none⟩) 1 1,.slice (some ⟨b3,0,none⟩) 2 2]) (sep_store 25 _ _ rfl w.heap.size #[.slice (some ⟨b1,0,none⟩) 3 3,.slice (some ⟨b2,0,none⟩) 1 1,.slice (some ⟨b3,0,none⟩) 2 2] rfl rfl 25 #[.slice none 0 0,.slice none 0 0,.slice none 0 0] F0 (by kernel_rfl) (by rfl) (by kernel_rfl)) ⟨hSx6.store _,?_⟩
           show runB _ _ _ _ 0 [] _ _
           refine runB_nil ?_
           (try dsimp only [Act.put])
           try simp only [List.setIfInBounds_toArray,List.set_cons_zero,List.set_cons_succ]
           go_wp2_with fail
           refine bodyPost_ret (results_cell_row (ty:=25) rfl _ _ w.heap.size 25 _ (0,0) _ rfl (setRow_heap _ _ _ _ _ _ F0) Tryz.underlying25 rfl (by kernel_rfl)) rfl ?_
           exact ⟨b1,b2,b3,rfl,Nat.le_of_lt Gb1,Nat.le_of_lt Gb2,Nat.le_of_lt Gb3,(setRow_other _ _ _ _ (by omega)).trans Fb1,(setRow_other _ _ _ _ (by omega)).trans Fb2,(setRow_other _ _ _ _ (by omega)).trans Fb3,(hSx6.store _).below⟩
         · refine tdoes_op (w1:=x4.alloc (.cells rCells 43)) (v:=.slice (some ⟨x4.heap.size,0,none⟩) 2 2) (exec_kop2 _ _ rfl rfl rfl) ⟨hSx4.next ((Below.refl _ _).alloc (Nat.le_refl _) _),?_⟩
           (try dsimp only [Act.put])
           try simp only [List.setIfInBounds_toArray,List.set_cons_zero,List.set_cons_succ]
           obtain ⟨x5,h_⟩:∃ q,q=x4.alloc (.cells rCells 43):=⟨_,rfl⟩
           obtain ⟨b3,hg_⟩:∃ q,q=x4.heap.size:=⟨_,rfl⟩
           have hb_:Below x4.heap.size x4 x5:=by rw [h_];exact (Below.refl _ _).alloc (Nat.le_refl _) _
           have Fb3:x5.heap[b3]? = some (.cells rCells 43 (0,0)):=by rw [h_,hg_];exact heap_alloc_new x4 _
           have Gb3:w.heap.size < b3:=by rw [hg_];exact lt_of_block F0
           have hSx5:=hSx4.next hb_
           rw [←h_,←hg_]
           clear h_ hg_
           replace F0:=keep_blk F0 hb_
           replace Fb1:=keep_blk Fb1 hb_
           clear hb_
           show runB _ _ _ _ 3 [5,9,10] _ _
           refine runB_one 5 (by kernel_rfl) (by kernel_rfl) (by rfl) (by rfl) ?_
           refine tdoes_op (w1:=x5.alloc (.cells oCells 43)) (v:=.slice (some ⟨x5.heap.size,0,none⟩) 1 1) (exec_kop1 _ rfl rfl) ⟨hSx5.next ((Below.refl _ _).alloc (Nat.le_refl _) _),?_⟩
           (try dsimp only [Act.put])
           try simp only [List.setIfInBounds_toArray,List.set_cons_zero,List.set_cons_succ]
           obtain ⟨x6,h_⟩:∃ q,q=x5.alloc (.cells oCells 43):=⟨_,rfl⟩
           obtain ⟨b2,hg_⟩:∃ q,q=x5.heap.size:=⟨_,rfl⟩
           have hb_:Below x5.heap.size x5 x6:=by rw [h_];exact (Below.refl _ _).alloc (Nat.le_refl _) _
           have Fb2:x6.heap[b2]? = some (.cells oCells 43 (0,0)):=by rw [h_,hg_];exact heap_alloc_new x5 _
           have Gb2:w.heap.size < b2:=by rw [hg_];exact lt_of_block F0
           have hSx6:=hSx5.next hb_
           rw [←h_,←hg_]
           clear h_ hg_
           replace F0:=keep_blk F0 hb_
           replace Fb1:=keep_blk Fb1 hb_
           replace Fb3:=keep_blk Fb3 hb_
           clear hb_
           show runB _ _ _ _ 2 [9,10] _ _
           refine runB_at 9 (v:=?_) (by rfl) (by rfl) (by rfl) (by kernel_rfl) (by rfl) ?_ ?_
           rotate_left
           focus (intro w_ hw_;have f0_:=hw_.v0;have f1_:=hw_.v1;have f2_:=hw_.v2;go_simp;(try with_reducible rfl);done)
           (try dsimp only [Act.put])
           show runB _ _ _ _ 1 [10] _ _
           try simp only [List.setIfInBounds_toArray,List.set_cons_zero,List.set_cons_succ]
           refine runB_one 10 (by kernel_rfl) (by kernel_rfl) (by rfl) (by rfl) ?_
           refine tdoes_skip (w1:=x6.setRow w.heap.size #[.slice (some ⟨b1,0,none⟩) 3 3,.slice (some ⟨b2,0,none⟩) 1 1,.slice (some ⟨b3,0,none⟩) 2 2]) (sep_store 25 _ _ rfl w.heap.size #[.slice (some ⟨b1,0,none⟩) 3 3,.slice (some ⟨b2,0,none⟩) 1 1,.slice (some ⟨b3,0,none⟩) 2 2] rfl rfl 25 #[.slice none 0 0,.slice none 0 0,.slice none 0 0] F0 (by kernel_rfl) (by rfl) (by kernel_rfl)) ⟨hSx6.store _,?_⟩
           show runB _ _ _ _ 0 [] _ _
           refine runB_nil ?_
           (try dsimp only [Act.put])
           try simp only [List.setIfInBounds_toArray,List.set_cons_zero,List.set_cons_succ]
           go_wp2_with fail
           refine bodyPost_ret (results_cell_row (ty:=25) rfl _ _ w.heap.size 25 _ (0,0) _ rfl (setRow_heap _ _ _ _ _ _ F0) Tryz.underlying25 rfl (by kernel_rfl)) rfl ?_
           exact ⟨b1,b2,b3,rfl,Nat.le_of_lt Gb1,Nat.le_of_lt Gb2,Nat.le_of_lt Gb3,(setRow_other _ _ _ _ (by omega)).trans Fb1,(setRow_other _ _ _ _ (by omega)).trans Fb2,(setRow_other _ _ _ _ (by omega)).trans Fb3,(hSx6.store _).below⟩
     · refine tdoes_op (w1:=x2.alloc (.cells oCells 43)) (v:=.slice (some ⟨x2.heap.size,0,none⟩) 1 1) (exec_kop1 _ rfl rfl) ⟨hSx2.next ((Below.refl _ _).alloc (Nat.le_refl _) _),?_⟩
       (try dsimp only [Act.put])
       try simp only [List.setIfInBounds_toArray,List.set_cons_zero,List.set_cons_succ]
       obtain ⟨x3,h_⟩:∃ q,q=x2.alloc (.cells oCells 43):=⟨_,rfl⟩
       obtain ⟨b2,hg_⟩:∃ q,q=x2.heap.size:=⟨_,rfl⟩
       have hb_:Below x2.heap.size x2 x3:=by rw [h_];exact (Below.refl _ _).alloc (Nat.le_refl _) _
       have Fb2:x3.heap[b2]? = some (.cells oCells 43 (0,0)):=by rw [h_,hg_];exact heap_alloc_new x2 _
       have Gb2:w.heap.size < b2:=by rw [hg_];exact lt_of_block F0
       have hSx3:=hSx2.next hb_
       rw [←h_,←hg_]
       clear h_ hg_
       replace F0:=keep_blk F0 hb_
       clear hb_
       show runB _ _ _ _ 5 [3,7,8,9,10] _ _
       refine runB_two 3 7 (by kernel_rfl) (by kernel_rfl) (by rfl) (by rfl) (by rfl) (by rfl) ?_ ?_
       · refine tdoes_op (w1:=x3.alloc (.cells vCells 60)) (v:=.slice (some ⟨x3.heap.size,0,none⟩) 3 3) (exec_vars _ _ _ rfl rfl rfl rfl) ⟨hSx3.next ((Below.refl _ _).alloc (Nat.le_refl _) _),?_⟩
         (try dsimp only [Act.put])
         try simp only [List.setIfInBounds_toArray,List.set_cons_zero,List.set_cons_succ]
         obtain ⟨x4,h_⟩:∃ q,q=x3.alloc (.cells vCells 60):=⟨_,rfl⟩
         obtain ⟨b1,hg_⟩:∃ q,q=x3.heap.size:=⟨_,rfl⟩
         have hb_:Below x3.heap.size x3 x4:=by rw [h_];exact (Below.refl _ _).alloc (Nat.le_refl _) _
         have Fb1:x4.heap[b1]? = some (.cells vCells 60 (0,0)):=by rw [h_,hg_];exact heap_alloc_new x3 _
         have Gb1:w.heap.size < b1:=by rw [hg_];exact lt_of_block F0
         have hSx4:=hSx3.next hb_
         rw [←h_,←hg_]
         clear h_ hg_
         replace F0:=keep_blk F0 hb_
         replace Fb2:=keep_blk Fb2 hb_
         clear hb_
         show runB _ _ _ _ 4 [7,8,9,10] _ _
         refine runB_one 7 (by kernel_rfl) (by kernel_rfl) (by rfl) (by rfl) ?_
         refine tdoes_call (f:=?_) (args:=?_) (w1:=?_) ?_ ?_
         rotate_left 3
         focus (go_simp;refine ⟨⟨?_,?_⟩,?_⟩ <;> with_reducible rfl)
         refine (lneed_any 2 0 1 (by decide) x4).mono ?_
         rintro e_ x5 ⟨rfl,hb_⟩
         have hSx5:=hSx4.next hb_
         refine ⟨_,rfl,hSx5,?_⟩
         (try dsimp only [Act.put])
         try simp only [List.setIfInBounds_toArray,List.set_cons_zero,List.set_cons_succ]
         replace F0:=keep_blk F0 hb_
         replace Fb2:=keep_blk Fb2 hb_
         replace Fb1:=keep_blk Fb1 hb_
         clear hb_
         show runB _ _ _ _ 3 [8,9,10] _ _
         refine runB_one 8 (by kernel_rfl) (by kernel_rfl) (by rfl) (by rfl) ?_
         refine tdoes_op (w1:=x5.alloc (.cells rCells 43)) (v:=.slice (some ⟨x5.heap.size,0,none⟩) 2 2) (exec_kop2 _ _ rfl rfl rfl) ⟨hSx5.next ((Below.refl _ _).alloc (Nat.le_refl _) _),?_⟩
         (try dsimp only [Act.put])
         try simp only [List.setIfInBounds_toArray,List.set_cons_zero,List.set_cons_succ]
         obtain ⟨x6,h_⟩:∃ q,q=x5.alloc (.cells rCells 43):=⟨_,rfl⟩
         obtain ⟨b3,hg_⟩:∃ q,q=x5.heap.size:=⟨_,rfl⟩
         have hb_:Below x5.heap.size x5 x6:=by rw [h_];exact (Below.refl _ _).alloc (Nat.le_refl _) _
         have Fb3:x6.heap[b3]? = some (.cells rCells 43 (0,0)):=by rw [h_,hg_];exact heap_alloc_new x5 _
         have Gb3:w.heap.size < b3:=by rw [hg_];exact lt_of_block F0
         have hSx6:=hSx5.next hb_
         rw [←h_,←hg_]
         clear h_ hg_
         replace F0:=keep_blk F0 hb_
         replace Fb2:=keep_blk Fb2 hb_
         replace Fb1:=keep_blk Fb1 hb_
         clear hb_
         show runB _ _ _ _ 2 [9,10] _ _
         refine runB_at 9 (v:=?_) (by rfl) (by rfl) (by rfl) (by kernel_rfl) (by rfl) ?_ ?_
         rotate_left
         focus (intro w_ hw_;have f0_:=hw_.v0;have f1_:=hw_.v1;have f2_:=hw_.v2;go_simp;(try with_reducible rfl);done)
         (try dsimp only [Act.put])
         show runB _ _ _ _ 1 [10] _ _
         try simp only [List.setIfInBounds_toArray,List.set_cons_zero,List.set_cons_succ]
         refine runB_one 10 (by kernel_rfl) (by kernel_rfl) (by rfl) (by rfl) ?_
         refine tdoes_skip (w1:=x6.setRow w.heap.size #[.slice (some ⟨b1,0,none⟩) 3 3,.slice (some ⟨b2,0,none⟩) 1 1,.slice (some ⟨b3,0,none⟩) 2 2]) (sep_store 25 _ _ rfl w.heap.size #[.slice (some ⟨b1,0,none⟩) 3 3,.slice (some ⟨b2,0,none⟩) 1 1,.slice (some ⟨b3,0,none⟩) 2 2] rfl rfl 25 #[.slice none 0 0,.slice none 0 0,.slice none 0 0] F0 (by kernel_rfl) (by rfl) (by kernel_rfl)) ⟨hSx6.store _,?_⟩
         show runB _ _ _ _ 0 [] _ _
         refine runB_nil ?_
         (try dsimp only [Act.put])
         try simp only [List.setIfInBounds_toArray,List.set_cons_zero,List.set_cons_succ]
         go_wp2_with fail
         refine bodyPost_ret (results_cell_row (ty:=25) rfl _ _ w.heap.size 25 _ (0,0) _ rfl (setRow_heap _ _ _ _ _ _ F0) Tryz.underlying25 rfl (by kernel_rfl)) rfl ?_
         exact ⟨b1,b2,b3,rfl,Nat.le_of_lt Gb1,Nat.le_of_lt Gb2,Nat.le_of_lt Gb3,(setRow_other _ _ _ _ (by omega)).trans Fb1,(setRow_other _ _ _ _ (by omega)).trans Fb2,(setRow_other _ _ _ _ (by omega)).trans Fb3,(hSx6.store _).below⟩
       · refine tdoes_call (f:=?_) (args:=?_) (w1:=?_) ?_ ?_
         rotate_left 3
         focus (go_simp;refine ⟨⟨?_,?_⟩,?_⟩ <;> with_reducible rfl)
         refine (lneed_any 2 0 1 (by decide) x3).mono ?_
         rintro e_ x4 ⟨rfl,hb_⟩
         have hSx4:=hSx3.next hb_
         refine ⟨_,rfl,hSx4,?_⟩
         (try dsimp only [Act.put])
         try simp only [List.setIfInBounds_toArray,List.set_cons_zero,List.set_cons_succ]
         replace F0:=keep_blk F0 hb_
         replace Fb2:=keep_blk Fb2 hb_
         clear hb_
         show runB _ _ _ _ 4 [3,8,9,10] _ _
         refine runB_two 3 8 (by kernel_rfl) (by kernel_rfl) (by rfl) (by rfl) (by rfl) (by rfl) ?_ ?_
         · refine tdoes_op (w1:=x4.alloc (.cells vCells 60)) (v:=.slice (some ⟨x4.heap.size,0,none⟩) 3 3) (exec_vars _ _ _ rfl rfl rfl rfl) ⟨hSx4.next ((Below.refl _ _).alloc (Nat.le_refl _) _),?_⟩
           (try dsimp only [Act.put])
           try simp only [List.setIfInBounds_toArray,List.set_cons_zero,List.set_cons_succ]
           obtain ⟨x5,h_⟩:∃ q,q=x4.alloc (.cells vCells 60):=⟨_,rfl⟩
           obtain ⟨b1,hg_⟩:∃ q,q=x4.heap.size:=⟨_,rfl⟩
           have hb_:Below x4.heap.size x4 x5:=by rw [h_];exact (Below.refl _ _).alloc (Nat.le_refl _) _
           have Fb1:x5.heap[b1]? = some (.cells vCells 60 (0,0)):=by rw [h_,hg_];exact heap_alloc_new x4 _
           have Gb1:w.heap.size < b1:=by rw [hg_];exact lt_of_block F0
           have hSx5:=hSx4.next hb_
           rw [←h_,←hg_]
           clear h_ hg_
           replace F0:=keep_blk F0 hb_
           replace Fb2:=keep_blk Fb2 hb_
           clear hb_
           show runB _ _ _ _ 3 [8,9,10] _ _
           refine runB_one 8 (by kernel_rfl) (by kernel_rfl) (by rfl) (by rfl) ?_
           refine tdoes_op (w1:=x5.alloc (.cells rCells 43)) (v:=.slice (some ⟨x5.heap.size,0,none⟩) 2 2) (exec_kop2 _ _ rfl rfl rfl) ⟨hSx5.next ((Below.refl _ _).alloc (Nat.le_refl _) _),?_⟩
           (try dsimp only [Act.put])
           try simp only [List.setIfInBounds_toArray,List.set_cons_zero,List.set_cons_succ]
           obtain ⟨x6,h_⟩:∃ q,q=x5.alloc (.cells rCells 43):=⟨_,rfl⟩
           obtain ⟨b3,hg_⟩:∃ q,q=x5.heap.size:=⟨_,rfl⟩
           have hb_:Below x5.heap.size x5 x6:=by rw [h_];exact (Below.refl _ _).alloc (Nat.le_refl _) _
           have Fb3:x6.heap[b3]? = some (.cells rCells 43 (0,0)):=by rw [h_,hg_];exact heap_alloc_new x5 _
           have Gb3:w.heap.size < b3:=by rw [hg_];exact lt_of_block F0
           have hSx6:=hSx5.next hb_
           rw [←h_,←hg_]
           clear h_ hg_
           replace F0:=keep_blk F0 hb_
           replace Fb2:=keep_blk Fb2 hb_
           replace Fb1:=keep_blk Fb1 hb_
           clear hb_
           show runB _ _ _ _ 2 [9,10] _ _
           refine runB_at 9 (v:=?_) (by rfl) (by rfl) (by rfl) (by kernel_rfl) (by rfl) ?_ ?_
           rotate_left
           focus (intro w_ hw_;have f0_:=hw_.v0;have f1_:=hw_.v1;have f2_:=hw_.v2;go_simp;(try with_reducible rfl);done)
           (try dsimp only [Act.put])
           show runB _ _ _ _ 1 [10] _ _
           try simp only [List.setIfInBounds_toArray,List.set_cons_zero,List.set_cons_succ]
           refine runB_one 10 (by kernel_rfl) (by kernel_rfl) (by rfl) (by rfl) ?_
           refine tdoes_skip (w1:=x6.setRow w.heap.size #[.slice (some ⟨b1,0,none⟩) 3 3,.slice (some ⟨b2,0,none⟩) 1 1,.slice (some ⟨b3,0,none⟩) 2 2]) (sep_store 25 _ _ rfl w.heap.size #[.slice (some ⟨b1,0,none⟩) 3 3,.slice (some ⟨b2,0,none⟩) 1 1,.slice (some ⟨b3,0,none⟩) 2 2] rfl rfl 25 #[.slice none 0 0,.slice none 0 0,.slice none 0 0] F0 (by kernel_rfl) (by rfl) (by kernel_rfl)) ⟨hSx6.store _,?_⟩
           show runB _ _ _ _ 0 [] _ _
           refine runB_nil ?_
           (try dsimp only [Act.put])
           try simp only [List.setIfInBounds_toArray,List.set_cons_zero,List.set_cons_succ]
           go_wp2_with fail
           refine bodyPost_ret (results_cell_row (ty:=25) rfl _ _ w.heap.size 25 _ (0,0) _ rfl (setRow_heap _ _ _ _ _ _ F0) Tryz.underlying25 rfl (by kernel_rfl)) rfl ?_
           exact ⟨b1,b2,b3,rfl,Nat.le_of_lt Gb1,Nat.le_of_lt Gb2,Nat.le_of_lt Gb3,(setRow_other _ _ _ _ (by omega)).trans Fb1,(setRow_other _ _ _ _ (by omega)).trans Fb2,(setRow_other _ _ _ _ (by omega)).trans Fb3,(hSx6.store _).below⟩
         · refine tdoes_op (w1:=x4.alloc (.cells rCells 43)) (v:=.slice (some ⟨x4.heap.size,0,none⟩) 2 2) (exec_kop2 _ _ rfl rfl rfl) ⟨hSx4.next ((Below.refl _ _).alloc (Nat.le_refl _) _),?_⟩
           (try dsimp only [Act.put])
           try simp only [List.setIfInBounds_toArray,List.set_cons_zero,List.set_cons_succ]
           obtain ⟨x5,h_⟩:∃ q,q=x4.alloc (.cells rCells 43):=⟨_,rfl⟩
           obtain ⟨b3,hg_⟩:∃ q,q=x4.heap.size:=⟨_,rfl⟩
           have hb_:Below x4.heap.size x4 x5:=by rw [h_];exact (Below.refl _ _).alloc (Nat.le_refl _) _
           have Fb3:x5.heap[b3]? = some (.cells rCells 43 (0,0)):=by rw [h_,hg_];exact heap_alloc_new x4 _
           have Gb3:w.heap.size < b3:=by rw [hg_];exact lt_of_block F0
           have hSx5:=hSx4.next hb_
           rw [←h_,←hg_]
           clear h_ hg_
           replace F0:=keep_blk F0 hb_
           replace Fb2:=keep_blk Fb2 hb_
           clear hb_
           show runB _ _ _ _ 3 [3,9,10] _ _
           refine runB_one 3 (by kernel_rfl) (by kernel_rfl) (by rfl) (by rfl) ?_
           refine tdoes_op (w1:=x5.alloc (.cells vCells 60)) (v:=.slice (some ⟨x5.heap.size,0,none⟩) 3 3) (exec_vars _ _ _ rfl rfl rfl rfl) ⟨hSx5.next ((Below.refl _ _).alloc (Nat.le_refl _) _),?_⟩
           (try dsimp only [Act.put])
           try simp only [List.setIfInBounds_toArray,List.set_cons_zero,List.set_cons_succ]
           obtain ⟨x6,h_⟩:∃ q,q=x5.alloc (.cells vCells 60):=⟨_,rfl⟩
           obtain ⟨b1,hg_⟩:∃ q,q=x5.heap.size:=⟨_,rfl⟩
           have hb_:Below x5.heap.size x5 x6:=by rw [h_];exact (Below.refl _ _).alloc (Nat.le_refl _) _
           have Fb1:x6.heap[b1]? = some (.cells vCells 60 (0,0)):=by rw [h_,hg_];exact heap_alloc_new x5 _
           have Gb1:w.heap.size < b1:=by rw [hg_];exact lt_of_block F0
           have hSx6:=hSx5.next hb_
           rw [←h_,←hg_]
           clear h_ hg_
           replace F0:=keep_blk F0 hb_
           replace Fb2:=keep_blk Fb2 hb_
           replace Fb3:=keep_blk Fb3 hb_
           clear hb_
           show runB _ _ _ _ 2 [9,10] _ _
           refine runB_at 9 (v:=?_) (by rfl) (by rfl) (by rfl) (by kernel_rfl) (by rfl) ?_ ?_
           rotate_left
           focus (intro w_ hw_;have f0_:=hw_.v0;have f1_:=hw_.v1;have f2_:=hw_.v2;go_simp;(try with_reducible rfl);done)
           (try dsimp only [Act.put])
           show runB _ _ _ _ 1 [10] _ _
           try simp only [List.setIfInBounds_toArray,List.set_cons_zero,List.set_cons_succ]
           refine runB_one 10 (by kernel_rfl) (by kernel_rfl) (by rfl) (by rfl) ?_
           refine tdoes_skip (w1:=x6.setRow w.heap.size #[.slice (some ⟨b1,0,none⟩) 3 3,.slice (some ⟨b2,0,none⟩) 1 1,.slice (some ⟨b3,0,none⟩) 2 2]) (sep_store 25 _ _ rfl w.heap.size #[.slice (some ⟨b1,0,none⟩) 3 3,.slice (some ⟨b2,0,none⟩) 1 1,.slice (some ⟨b3,0,none⟩) 2 2] rfl rfl 25 #[.slice none 0 0,.slice none 0 0,.slice none 0 0] F0 (by kernel_rfl) (by rfl) (by kernel_rfl)) ⟨hSx6.store _,?_⟩
           show runB _ _ _ _ 0 [] _ _
           refine runB_nil ?_
           (try dsimp only [Act.put])
           try simp only [List.setIfInBounds_toArray,List.set_cons_zero,List.set_cons_succ]
           go_wp2_with fail
           refine bodyPost_ret (results_cell_row (ty:=25) rfl _ _ w.heap.size 25 _ (0,0) _ rfl (setRow_heap _ _ _ _ _ _ F0) Tryz.underlying25 rfl (by kernel_rfl)) rfl ?_
           exact ⟨b1,b2,b3,rfl,Nat.le_of_lt Gb1,Nat.le_of_lt Gb2,Nat.le_of_lt Gb3,(setRow_other _ _ _ _ (by omega)).trans Fb1,(setRow_other _ _ _ _ (by omega)).trans Fb2,(setRow_other _ _ _ _ (by omega)).trans Fb3,(hSx6.store _).below⟩
     · refine tdoes_call (f:=?_) (args:=?_) (w1:=?_) ?_ ?_
       rotate_left 3
       focus (go_simp;refine ⟨⟨?_,?_⟩,?_⟩ <;> with_reducible rfl)
       refine (lneed_any 2 0 1 (by decide) x2).mono ?_
       rintro e_ x3 ⟨rfl,hb_⟩
       have hSx3:=hSx2.next hb_
       refine ⟨_,rfl,hSx3,?_⟩
       (try dsimp only [Act.put])
       try simp only [List.setIfInBounds_toArray,List.set_cons_zero,List.set_cons_succ]
       replace F0:=keep_blk F0 hb_
       clear hb_
       show runB _ _ _ _ 5 [3,5,8,9,10] _ _
       refine runB_three 3 5 8 (by kernel_rfl) (by kernel_rfl) (by rfl) (by rfl) (by rfl) (by rfl) (by rfl) (by rfl) ?_ ?_ ?_
       · refine tdoes_op (w1:=x3.alloc (.cells vCells 60)) (v:=.slice (some ⟨x3.heap.size,0,none⟩) 3 3) (exec_vars _ _ _ rfl rfl rfl rfl) ⟨hSx3.next ((Below.refl _ _).alloc (Nat.le_refl _) _),?_⟩
         (try dsimp only [Act.put])
         try simp only [List.setIfInBounds_toArray,List.set_cons_zero,List.set_cons_succ]
         obtain ⟨x4,h_⟩:∃ q,q=x3.alloc (.cells vCells 60):=⟨_,rfl⟩
         obtain ⟨b1,hg_⟩:∃ q,q=x3.heap.size:=⟨_,rfl⟩
         have hb_:Below x3.heap.size x3 x4:=by rw [h_];exact (Below.refl _ _).alloc (Nat.le_refl _) _
         have Fb1:x4.heap[b1]? = some (.cells vCells 60 (0,0)):=by rw [h_,hg_];exact heap_alloc_new x3 _
         have Gb1:w.heap.size < b1:=by rw [hg_];exact lt_of_block F0
         have hSx4:=hSx3.next hb_
         rw [←h_,←hg_]
         clear h_ hg_
         replace F0:=keep_blk F0 hb_
         clear hb_
         show runB _ _ _ _ 4 [5,8,9,10] _ _
         refine runB_two 5 8 (by kernel_rfl) (by kernel_rfl) (by rfl) (by rfl) (by rfl) (by rfl) ?_ ?_
         · refine tdoes_op (w1:=x4.alloc (.cells oCells 43)) (v:=.slice (some ⟨x4.heap.size,0,none⟩) 1 1) (exec_kop1 _ rfl rfl) ⟨hSx4.next ((Below.refl _ _).alloc (Nat.le_refl _) _),?_⟩
           (try dsimp only [Act.put])
           try simp only [List.setIfInBounds_toArray,List.set_cons_zero,List.set_cons_succ]
           obtain ⟨x5,h_⟩:∃ q,q=x4.alloc (.cells oCells 43):=⟨_,rfl⟩
           obtain ⟨b2,hg_⟩:∃ q,q=x4.heap.size:=⟨_,rfl⟩
           have hb_:Below x4.heap.size x4 x5:=by rw [h_];exact (Below.refl _ _).alloc (Nat.le_refl _) _
           have Fb2:x5.heap[b2]? = some (.cells oCells 43 (0,0)):=by rw [h_,hg_];exact heap_alloc_new x4 _
           have Gb2:w.heap.size < b2:=by rw [hg_];exact lt_of_block F0
           have hSx5:=hSx4.next hb_
           rw [←h_,←hg_]
           clear h_ hg_
           replace F0:=keep_blk F0 hb_
           replace Fb1:=keep_blk Fb1 hb_
           clear hb_
           show runB _ _ _ _ 3 [8,9,10] _ _
           refine runB_one 8 (by kernel_rfl) (by kernel_rfl) (by rfl) (by rfl) ?_
           refine tdoes_op (w1:=x5.alloc (.cells rCells 43)) (v:=.slice (some ⟨x5.heap.size,0,none⟩) 2 2) (exec_kop2 _ _ rfl rfl rfl) ⟨hSx5.next ((Below.refl _ _).alloc (Nat.le_refl _) _),?_⟩
           (try dsimp only [Act.put])
           try simp only [List.setIfInBounds_toArray,List.set_cons_zero,List.set_cons_succ]
           obtain ⟨x6,h_⟩:∃ q,q=x5.alloc (.cells rCells 43):=⟨_,rfl⟩
           obtain ⟨b3,hg_⟩:∃ q,q=x5.heap.size:=⟨_,rfl⟩
           have hb_:Below x5.heap.size x5 x6:=by rw [h_];exact (Below.refl _ _).alloc (Nat.le_refl _) _
           have Fb3:x6.heap[b3]? = some (.cells rCells 43 (0,0)):=by rw [h_,hg_];exact heap_alloc_new x5 _
           have Gb3:w.heap.size < b3:=by rw [hg_];exact lt_of_block F0
           have hSx6:=hSx5.next hb_
           rw [←h_,←hg_]
           clear h_ hg_
           replace F0:=keep_blk F0 hb_
           replace Fb1:=keep_blk Fb1 hb_
           replace Fb2:=keep_blk Fb2 hb_
           clear hb_
           show runB _ _ _ _ 2 [9,10] _ _
           refine runB_at 9 (v:=?_) (by rfl) (by rfl) (by rfl) (by kernel_rfl) (by rfl) ?_ ?_
           rotate_left
           focus (intro w_ hw_;have f0_:=hw_.v0;have f1_:=hw_.v1;have f2_:=hw_.v2;go_simp;(try with_reducible rfl);done)
           (try dsimp only [Act.put])
           show runB _ _ _ _ 1 [10] _ _
           try simp only [List.setIfInBounds_toArray,List.set_cons_zero,List.set_cons_succ]
           refine runB_one 10 (by kernel_rfl) (by kernel_rfl) (by rfl) (by rfl) ?_
           refine tdoes_skip (w1:=x6.setRow w.heap.size #[.slice (some ⟨b1,0,none⟩) 3 3,.slice (some ⟨b2,0,none⟩) 1 1,.slice (some ⟨b3,0,none⟩) 2 2]) (sep_store 25 _ _ rfl w.heap.size #[.slice (some ⟨b1,0,none⟩) 3 3,.slice (some ⟨b2,0,none⟩) 1 1,.slice (some ⟨b3,0,none⟩) 2 2] rfl rfl 25 #[.slice none 0 0,.slice none 0 0,.slice none 0 0] F0 (by kernel_rfl) (by rfl) (by kernel_rfl)) ⟨hSx6.store _,?_⟩
           show runB _ _ _ _ 0 [] _ _
           refine runB_nil ?_
           (try dsimp only [Act.put])
           try simp only [List.setIfInBounds_toArray,List.set_cons_zero,List.set_cons_succ]
           go_wp2_with fail
           refine bodyPost_ret (results_cell_row (ty:=25) rfl _ _ w.heap.size 25 _ (0,0) _ rfl (setRow_heap _ _ _ _ _ _ F0) Tryz.underlying25 rfl (by kernel_rfl)) rfl ?_
           exact ⟨b1,b2,b3,rfl,Nat.le_of_lt Gb1,Nat.le_of_lt Gb2,Nat.le_of_lt Gb3,(setRow_other _ _ _ _ (by omega)).trans Fb1,(setRow_other _ _ _ _ (by omega)).trans Fb2,(setRow_other _ _ _ _ (by omega)).trans Fb3,(hSx6.store _).below⟩
         · refine tdoes_op (w1:=x4.alloc (.cells rCells 43)) (v:=.slice (some ⟨x4.heap.size,0,none⟩) 2 2) (exec_kop2 _ _ rfl rfl rfl) ⟨hSx4.next ((Below.refl _ _).alloc (Nat.le_refl _) _),?_⟩
           (try dsimp only [Act.put])
           try simp only [List.setIfInBounds_toArray,List.set_cons_zero,List.set_cons_succ]
           obtain ⟨x5,h_⟩:∃ q,q=x4.alloc (.cells rCells 43):=⟨_,rfl⟩
           obtain ⟨b3,hg_⟩:∃ q,q=x4.heap.size:=⟨_,rfl⟩
           have hb_:Below x4.heap.size x4 x5:=by rw [h_];exact (Below.refl _ _).alloc (Nat.le_refl _) _
           have Fb3:x5.heap[b3]? = some (.cells rCells 43 (0,0)):=by rw [h_,hg_];exact heap_alloc_new x4 _
           have Gb3:w.heap.size < b3:=by rw [hg_];exact lt_of_block F0
           have hSx5:=hSx4.next hb_
           rw [←h_,←hg_]
           clear h_ hg_
           replace F0:=keep_blk F0 hb_
           replace Fb1:=keep_blk Fb1 hb_
           clear hb_
           show runB _ _ _ _ 3 [5,9,10] _ _
           refine runB_one 5 (by kernel_rfl) (by kernel_rfl) (by rfl) (by rfl) ?_
           refine tdoes_op (w1:=x5.alloc (.cells oCells 43)) (v:=.slice (some ⟨x5.heap.size,0,none⟩) 1 1) (exec_kop1 _ rfl rfl) ⟨hSx5.next ((Below.refl _ _).alloc (Nat.le_refl _) _),?_⟩
           (try dsimp only [Act.put])
           try simp only [List.setIfInBounds_toArray,List.set_cons_zero,List.set_cons_succ]
           obtain ⟨x6,h_⟩:∃ q,q=x5.alloc (.cells oCells 43):=⟨_,rfl⟩
           obtain ⟨b2,hg_⟩:∃ q,q=x5.heap.size:=⟨_,rfl⟩
           have hb_:Below x5.heap.size x5 x6:=by rw [h_];exact (Below.refl _ _).alloc (Nat.le_refl _) _
           have Fb2:x6.heap[b2]? = some (.cells oCells 43 (0,0)):=by rw [h_,hg_];exact heap_alloc_new x5 _
           have Gb2:w.heap.size < b2:=by rw [hg_];exact lt_of_block F0
           have hSx6:=hSx5.next hb_
           rw [←h_,←hg_]
           clear h_ hg_
           replace F0:=keep_blk F0 hb_
           replace Fb1:=keep_blk Fb1 hb_
           replace Fb3:=keep_blk Fb3 hb_
           clear hb_
           show runB _ _ _ _ 2 [9,10] _ _
           refine runB_at 9 (v:=?_) (by rfl) (by rfl) (by rfl) (by kernel_rfl) (by rfl) ?_ ?_
           rotate_left
           focus (intro w_ hw_;have f0_:=hw_.v0;have f1_:=hw_.v1;have f2_:=hw_.v2;go_simp;(try with_reducible rfl);done)
           (try dsimp only [Act.put])
           show runB _ _ _ _ 1 [10] _ _
           try simp only [List.setIfInBounds_toArray,List.set_cons_zero,List.set_cons_succ]
           refine runB_one 10 (by kernel_rfl) (by kernel_rfl) (by rfl) (by rfl) ?_
           refine tdoes_skip (w1:=x6.setRow w.heap.size #[.slice (some ⟨b1,0,none⟩) 3 3,.slice (some ⟨b2,0,none⟩) 1 1,.slice (some ⟨b3,0,none⟩) 2 2]) (sep_store 25 _ _ rfl w.heap.size #[.slice (some ⟨b1,0,none⟩) 3 3,.slice (some ⟨b2,0,none⟩) 1 1,.slice (some ⟨b3,0,none⟩) 2 2] rfl rfl 25 #[.slice none 0 0,.slice none 0 0,.slice none 0 0] F0 (by kernel_rfl) (by rfl) (by kernel_rfl)) ⟨hSx6.store _,?_⟩
           show runB _ _ _ _ 0 [] _ _
           refine runB_nil ?_
           (try dsimp only [Act.put])
           try simp only [List.setIfInBounds_toArray,List.set_cons_zero,List.set_cons_succ]
           go_wp2_with fail
           refine bodyPost_ret (results_cell_row (ty:=25) rfl _ _ w.heap.size 25 _ (0,0) _ rfl (setRow_heap _ _ _ _ _ _ F0) Tryz.underlying25 rfl (by kernel_rfl)) rfl ?_
           exact ⟨b1,b2,b3,rfl,Nat.le_of_lt Gb1,Nat.le_of_lt Gb2,Nat.le_of_lt Gb3,(setRow_other _ _ _ _ (by omega)).trans Fb1,(setRow_other _ _ _ _ (by omega)).trans Fb2,(setRow_other _ _ _ _ (by omega)).trans Fb3,(hSx6.store _).below⟩
       · refine tdoes_op (w1:=x3.alloc (.cells oCells 43)) (v:=.slice (some ⟨x3.heap.size,0,none⟩) 1 1) (exec_kop1 _ rfl rfl) ⟨hSx3.next ((Below.refl _ _).alloc (Nat.le_refl _) _),?_⟩
         (try dsimp only [Act.put])
         try simp only [List.setIfInBounds_toArray,List.set_cons_zero,List.set_cons_succ]
         obtain ⟨x4,h_⟩:∃ q,q=x3.alloc (.cells oCells 43):=⟨_,rfl⟩
         obtain ⟨b2,hg_⟩:∃ q,q=x3.heap.size:=⟨_,rfl⟩
         have hb_:Below x3.heap.size x3 x4:=by rw [h_];exact (Below.refl _ _).alloc (Nat.le_refl _) _
         have Fb2:x4.heap[b2]? = some (.cells oCells 43 (0,0)):=by rw [h_,hg_];exact heap_alloc_new x3 _
         have Gb2:w.heap.size < b2:=by rw [hg_];exact lt_of_block F0
         have hSx4:=hSx3.next hb_
         rw [←h_,←hg_]
         clear h_ hg_
         replace F0:=keep_blk F0 hb_
         clear hb_
         show runB _ _ _ _ 4 [3,8,9,10] _ _
         refine runB_two 3 8 (by kernel_rfl) (by kernel_rfl) (by rfl) (by rfl) (by rfl) (by rfl) ?_ ?_
         · refine tdoes_op (w1:=x4.alloc (.cells vCells 60)) (v:=.slice (some ⟨x4.heap.size,0,none⟩) 3 3) (exec_vars _ _ _ rfl rfl rfl rfl) ⟨hSx4.next ((Below.refl _ _).alloc (Nat.le_refl _) _),?_⟩
           (try dsimp only [Act.put])
           try simp only [List.setIfInBounds_toArray,List.set_cons_zero,List.set_cons_succ]
           obtain ⟨x5,h_⟩:∃ q,q=x4.alloc (.cells vCells 60):=⟨_,rfl⟩
           obtain ⟨b1,hg_⟩:∃ q,q=x4.heap.size:=⟨_,rfl⟩
           have hb_:Below x4.heap.size x4 x5:=by rw [h_];exact (Below.refl _ _).alloc (Nat.le_refl _) _
           have Fb1:x5.heap[b1]? = some (.cells vCells 60 (0,0)):=by rw [h_,hg_];exact heap_alloc_new x4 _
           have Gb1:w.heap.size < b1:=by rw [hg_];exact lt_of_block F0
           have hSx5:=hSx4.next hb_
           rw [←h_,←hg_]
           clear h_ hg_
           replace F0:=keep_blk F0 hb_
           replace Fb2:=keep_blk Fb2 hb_
           clear hb_
           show runB _ _ _ _ 3 [8,9,10] _ _
           refine runB_one 8 (by kernel_rfl) (by kernel_rfl) (by rfl) (by rfl) ?_
           refine tdoes_op (w1:=x5.alloc (.cells rCells 43)) (v:=.slice (some ⟨x5.heap.size,0,none⟩) 2 2) (exec_kop2 _ _ rfl rfl rfl) ⟨hSx5.next ((Below.refl _ _).alloc (Nat.le_refl _) _),?_⟩
           (try dsimp only [Act.put])
           try simp only [List.setIfInBounds_toArray,List.set_cons_zero,List.set_cons_succ]
           obtain ⟨x6,h_⟩:∃ q,q=x5.alloc (.cells rCells 43):=⟨_,rfl⟩
           obtain ⟨b3,hg_⟩:∃ q,q=x5.heap.size:=⟨_,rfl⟩
           have hb_:Below x5.heap.size x5 x6:=by rw [h_];exact (Below.refl _ _).alloc (Nat.le_refl _) _
           have Fb3:x6.heap[b3]? = some (.cells rCells 43 (0,0)):=by rw [h_,hg_];exact heap_alloc_new x5 _
           have Gb3:w.heap.size < b3:=by rw [hg_];exact lt_of_block F0
           have hSx6:=hSx5.next hb_
           rw [←h_,←hg_]
           clear h_ hg_
           replace F0:=keep_blk F0 hb_
           replace Fb2:=keep_blk Fb2 hb_
           replace Fb1:=keep_blk Fb1 hb_
           clear hb_
           show runB _ _ _ _ 2 [9,10] _ _
           refine runB_at 9 (v:=?_) (by rfl) (by rfl) (by rfl) (by kernel_rfl) (by rfl) ?_ ?_
           rotate_left
           focus (intro w_ hw_;have f0_:=hw_.v0;have f1_:=hw_.v1;have f2_:=hw_.v2;go_simp;(try with_reducible rfl);done)
           (try dsimp only [Act.put])
           show runB _ _ _ _ 1 [10] _ _
           try simp only [List.setIfInBounds_toArray,List.set_cons_zero,List.set_cons_succ]
           refine runB_one 10 (by kernel_rfl) (by kernel_rfl) (by rfl) (by rfl) ?_
           refine tdoes_skip (w1:=x6.setRow w.heap.size #[.slice (some ⟨b1,0,none⟩) 3 3,.slice (some ⟨b2,0,none⟩) 1 1,.slice (some ⟨b3,0,none⟩) 2 2]) (sep_store 25 _ _ rfl w.heap.size #[.slice (some ⟨b1,0,none⟩) 3 3,.slice (some ⟨b2,0,none⟩) 1 1,.slice (some ⟨b3,0,none⟩) 2 2] rfl rfl 25 #[.slice none 0 0,.slice none 0 0,.slice none 0 0] F0 (by kernel_rfl) (by rfl) (by kernel_rfl)) ⟨hSx6.store _,?_⟩
           show runB _ _ _ _ 0 [] _ _
           refine runB_nil ?_
           (try dsimp only [Act.put])
           try simp only [List.setIfInBounds_toArray,List.set_cons_zero,List.set_cons_succ]
           go_wp2_with fail
           refine bodyPost_ret (results_cell_row (ty:=25) rfl _ _ w.heap.size 25 _ (0,0) _ rfl (setRow_heap _ _ _ _ _ _ F0) Tryz.underlying25 rfl (by kernel_rfl)) rfl ?_
           exact ⟨b1,b2,b3,rfl,Nat.le_of_lt Gb1,Nat.le_of_lt Gb2,Nat.le_of_lt Gb3,(setRow_other _ _ _ _ (by omega)).trans Fb1,(setRow_other _ _ _ _ (by omega)).trans Fb2,(setRow_other _ _ _ _ (by omega)).trans Fb3,(hSx6.store _).below⟩
         · refine tdoes_op (w1:=x4.alloc (.cells rCells 43)) (v:=.slice (some ⟨x4.heap.size,0,none⟩) 2 2) (exec_kop2 _ _ rfl rfl rfl) ⟨hSx4.next ((Below.refl _ _).alloc (Nat.le_refl _) _),?_⟩
           (try dsimp only [Act.put])
           try simp only [List.setIfInBounds_toArray,List.set_cons_zero,List.set_cons_succ]
           obtain ⟨x5,h_⟩:∃ q,q=x4.alloc (.cells rCells 43):=⟨_,rfl⟩
           obtain ⟨b3,hg_⟩:∃ q,q=x4.heap.size:=⟨_,rfl⟩
           have hb_:Below x4.heap.size x4 x5:=by rw [h_];exact (Below.refl _ _).alloc (Nat.le_refl _) _
           have Fb3:x5.heap[b3]? = some (.cells rCells 43 (0,0)):=by rw [h_,hg_];exact heap_alloc_new x4 _
           have Gb3:w.heap.size < b3:=by rw [hg_];exact lt_of_block F0
           have hSx5:=hSx4.next hb_
           rw [←h_,←hg_]
           clear h_ hg_
           replace F0:=keep_blk F0 hb_
           replace Fb2:=keep_blk Fb2 hb_
           clear hb_
           show runB _ _ _ _ 3 [3,9,10] _ _
           refine runB_one 3 (by kernel_rfl) (by kernel_rfl) (by rfl) (by rfl) ?_
           refine tdoes_op (w1:=x5.alloc (.cells vCells 60)) (v:=.slice (some ⟨x5.heap.size,0,none⟩) 3 3) (exec_vars _ _ _ rfl rfl rfl rfl) ⟨hSx5.next ((Below.refl _ _).alloc (Nat.le_refl _) _),?_⟩
           (try dsimp only [Act.put])
           try simp only [List.setIfInBounds_toArray,List.set_cons_zero,List.set_cons_succ]
           obtain ⟨x6,h_⟩:∃ q,q=x5.alloc (.cells vCells 60):=⟨_,rfl⟩
           obtain ⟨b1,hg_⟩:∃ q,q=x5.heap.size:=⟨_,rfl⟩
           have hb_:Below x5.heap.size x5 x6:=by rw [h_];exact (Below.refl _ _).alloc (Nat.le_refl _) _
           have Fb1:x6.heap[b1]? = some (.cells vCells 60 (0,0)):=by rw [h_,hg_];exact heap_alloc_new x5 _
           have Gb1:w.heap.size < b1:=by rw [hg_];exact lt_of_block F0
           have hSx6:=hSx5.next hb_
           rw [←h_,←hg_]
           clear h_ hg_
           replace F0:=keep_blk F0 hb_
           replace Fb2:=keep_blk Fb2 hb_
           replace Fb3:=keep_blk Fb3 hb_
           clear hb_
           show runB _ _ _ _ 2 [9,10] _ _
           refine runB_at 9 (v:=?_) (by rfl) (by rfl) (by rfl) (by kernel_rfl) (by rfl) ?_ ?_
           rotate_left
           focus (intro w_ hw_;have f0_:=hw_.v0;have f1_:=hw_.v1;have f2_:=hw_.v2;go_simp;(try with_reducible rfl);done)
           (try dsimp only [Act.put])
           show runB _ _ _ _ 1 [10] _ _
           try simp only [List.setIfInBounds_toArray,List.set_cons_zero,List.set_cons_succ]
           refine runB_one 10 (by kernel_rfl) (by kernel_rfl) (by rfl) (by rfl) ?_
           refine tdoes_skip (w1:=x6.setRow w.heap.size #[.slice (some ⟨b1,0,none⟩) 3 3,.slice (some ⟨b2,0,none⟩) 1 1,.slice (some ⟨b3,0,none⟩) 2 2]) (sep_store 25 _ _ rfl w.heap.size #[.slice (some ⟨b1,0,none⟩) 3 3,.slice (some ⟨b2,0,none⟩) 1 1,.slice (some ⟨b3,0,none⟩) 2 2] rfl rfl 25 #[.slice none 0 0,.slice none 0 0,.slice none 0 0] F0 (by kernel_rfl) (by rfl) (by kernel_rfl)) ⟨hSx6.store _,?_⟩
           show runB _ _ _ _ 0 [] _ _
           refine runB_nil ?_
           (try dsimp only [Act.put])
           try simp only [List.setIfInBounds_toArray,List.set_cons_zero,List.set_cons_succ]
           go_wp2_with fail
           refine bodyPost_ret (results_cell_row (ty:=25) rfl _ _ w.heap.size 25 _ (0,0) _ rfl (setRow_heap _ _ _ _ _ _ F0) Tryz.underlying25 rfl (by kernel_rfl)) rfl ?_
           exact ⟨b1,b2,b3,rfl,Nat.le_of_lt Gb1,Nat.le_of_lt Gb2,Nat.le_of_lt Gb3,(setRow_other _ _ _ _ (by omega)).trans Fb1,(setRow_other _ _ _ _ (by omega)).trans Fb2,(setRow_other _ _ _ _ (by omega)).trans Fb3,(hSx6.store _).below⟩
       · refine tdoes_op (w1:=x3.alloc (.cells rCells 43)) (v:=.slice (some ⟨x3.heap.size,0,none⟩) 2 2) (exec_kop2 _ _ rfl rfl rfl) ⟨hSx3.next ((Below.refl _ _).alloc (Nat.le_refl _) _),?_⟩
         (try dsimp only [Act.put])
         try simp only [List.setIfInBounds_toArray,List.set_cons_zero,List.set_cons_succ]
         obtain ⟨x4,h_⟩:∃ q,q=x3.alloc (.cells rCells 43):=⟨_,rfl⟩
         obtain ⟨b3,hg_⟩:∃ q,q=x3.heap.size:=⟨_,rfl⟩
         have hb_:Below x3.heap.size x3 x4:=by rw [h_];exact (Below.refl _ _).alloc (Nat.le_refl _) _
         have Fb3:x4.heap[b3]? = some (.cells rCells 43 (0,0)):=by rw [h_,hg_];exact heap_alloc_new x3 _
         have Gb3:w.heap.size < b3:=by rw [hg_];exact lt_of_block F0
         have hSx4:=hSx3.next hb_
         rw [←h_,←hg_]
         clear h_ hg_
         replace F0:=keep_blk F0 hb_
         clear hb_
         show runB _ _ _ _ 4 [3,5,9,10] _ _
         refine runB_two 3 5 (by kernel_rfl) (by kernel_rfl) (by rfl) (by rfl) (by rfl) (by rfl) ?_ ?_
         · refine tdoes_op (w1:=x4.alloc (.cells vCells 60)) (v:=.slice (some ⟨x4.heap.size,0,none⟩) 3 3) (exec_vars _ _ _ rfl rfl rfl rfl) ⟨hSx4.next ((Below.refl _ _).alloc (Nat.le_refl _) _),?_⟩
           (try dsimp only [Act.put])
           try simp only [List.setIfInBounds_toArray,List.set_cons_zero,List.set_cons_succ]
           obtain ⟨x5,h_⟩:∃ q,q=x4.alloc (.cells vCells 60):=⟨_,rfl⟩
           obtain ⟨b1,hg_⟩:∃ q,q=x4.heap.size:=⟨_,rfl⟩
           have hb_:Below x4.heap.size x4 x5:=by rw [h_];exact (Below.refl _ _).alloc (Nat.le_refl _) _
           have Fb1:x5.heap[b1]? = some (.cells vCells 60 (0,0)):=by rw [h_,hg_];exact heap_alloc_new x4 _
           have Gb1:w.heap.size < b1:=by rw [hg_];exact lt_of_block F0
           have hSx5:=hSx4.next hb_
           rw [←h_,←hg_]
           clear h_ hg_
           replace F0:=keep_blk F0 hb_
           replace Fb3:=keep_blk Fb3 hb_
           clear hb_
           show runB _ _ _ _ 3 [5,9,10] _ _
           refine runB_one 5 (by kernel_rfl) (by kernel_rfl) (by rfl) (by rfl) ?_
           refine tdoes_op (w1:=x5.alloc (.cells oCells 43)) (v:=.slice (some ⟨x5.heap.size,0,none⟩) 1 1) (exec_kop1 _ rfl rfl) ⟨hSx5.next ((Below.refl _ _).alloc (Nat.le_refl _) _),?_⟩
           (try dsimp only [Act.put])
           try simp only [List.setIfInBounds_toArray,List.set_cons_zero,List.set_cons_succ]
           obtain ⟨x6,h_⟩:∃ q,q=x5.alloc (.cells oCells 43):=⟨_,rfl⟩
           obtain ⟨b2,hg_⟩:∃ q,q=x5.heap.size:=⟨_,rfl⟩
           have hb_:Below x5.heap.size x5 x6:=by rw [h_];exact (Below.refl _ _).alloc (Nat.le_refl _) _
           have Fb2:x6.heap[b2]? = some (.cells oCells 43 (0,0)):=by rw [h_,hg_];exact heap_alloc_new x5 _
           have Gb2:w.heap.size < b2:=by rw [hg_];exact lt_of_block F0
           have hSx6:=hSx5.next hb_
           rw [←h_,←hg_]
           clear h_ hg_
           replace F0:=keep_blk F0 hb_
           replace Fb3:=keep_blk Fb3 hb_
           replace Fb1:=keep_blk Fb1 hb_
           clear hb_
           show runB _ _ _ _ 2 [9,10] _ _
           refine runB_at 9 (v:=?_) (by rfl) (by rfl) (by rfl) (by kernel_rfl) (by rfl) ?_ ?_
           rotate_left
           focus (intro w_ hw_;have f0_:=hw_.v0;have f1_:=hw_.v1;have f2_:=hw_.v2;go_simp;(try with_reducible rfl);done)
           (try dsimp only [Act.put])
           show runB _ _ _ _ 1 [10] _ _
           try simp only [List.setIfInBounds_toArray,List.set_cons_zero,List.set_cons_succ]
           refine runB_one 10 (by kernel_rfl) (by kernel_rfl) (by rfl) (by rfl) ?_
           refine tdoes_skip (w1:=x6.setRow w.heap.size #[.slice (some ⟨b1,0,none⟩) 3 3,.slice (some ⟨b2,0,none⟩) 1 1,.slice (some ⟨b3,0,none⟩) 2 2]) (sep_store 25 _ _ rfl w.heap.size #[.slice (some ⟨b1,0,none⟩) 3 3,.slice (some ⟨b2,0,none⟩) 1 1,.slice (some ⟨b3,0,none⟩) 2 2] rfl rfl 25 #[.slice none 0 0,.slice none 0 0,.slice none 0 0] F0 (by kernel_rfl) (by rfl) (by kernel_rfl)) ⟨hSx6.store _,?_⟩
           show runB _ _ _ _ 0 [] _ _
           refine runB_nil ?_
           (try dsimp only [Act.put])
           try simp only [List.setIfInBounds_toArray,List.set_cons_zero,List.set_cons_succ]
           go_wp2_with fail
           refine bodyPost_ret (results_cell_row (ty:=25) rfl _ _ w.heap.size 25 _ (0,0) _ rfl (setRow_heap _ _ _ _ _ _ F0) Tryz.underlying25 rfl (by kernel_rfl)) rfl ?_
           exact ⟨b1,b2,b3,rfl,Nat.le_of_lt Gb1,Nat.le_of_lt Gb2,Nat.le_of_lt Gb3,(setRow_other _ _ _ _ (by omega)).trans Fb1,(setRow_other _ _ _ _ (by omega)).trans Fb2,(setRow_other _ _ _ _ (by omega)).trans Fb3,(hSx6.store _).below⟩
         · refine tdoes_op (w1:=x4.alloc (.cells oCells 43)) (v:=.slice (some ⟨x4.heap.size,0,none⟩) 1 1) (exec_kop1 _ rfl rfl) ⟨hSx4.next ((Below.refl _ _).alloc (Nat.le_refl _) _),?_⟩
           (try dsimp only [Act.put])
           try simp only [List.setIfInBounds_toArray,List.set_cons_zero,List.set_cons_succ]
           obtain ⟨x5,h_⟩:∃ q,q=x4.alloc (.cells oCells 43):=⟨_,rfl⟩
           obtain ⟨b2,hg_⟩:∃ q,q=x4.heap.size:=⟨_,rfl⟩
           have hb_:Below x4.heap.size x4 x5:=by rw [h_];exact (Below.refl _ _).alloc (Nat.le_refl _) _
           have Fb2:x5.heap[b2]? = some (.cells oCells 43 (0,0)):=by rw [h_,hg_];exact heap_alloc_new x4 _
           have Gb2:w.heap.size < b2:=by rw [hg_];exact lt_of_block F0
           have hSx5:=hSx4.next hb_
           rw [←h_,←hg_]
           clear h_ hg_
           replace F0:=keep_blk F0 hb_
           replace Fb3:=keep_blk Fb3 hb_
           clear hb_
           show runB _ _ _ _ 3 [3,9,10] _ _
           refine runB_one 3 (by kernel_rfl) (by kernel_rfl) (by rfl) (by rfl) ?_
           refine tdoes_op (w1:=x5.alloc (.cells vCells 60)) (v:=.slice (some ⟨x5.heap.size,0,none⟩) 3 3) (exec_vars _ _ _ rfl rfl rfl rfl) ⟨hSx5.next ((Below.refl _ _).alloc (Nat.le_refl _) _),?_⟩
           (try dsimp only [Act.put])
           try simp only [List.setIfInBounds_toArray,List.set_cons_zero,List.set_cons_succ]
           obtain ⟨x6,h_⟩:∃ q,q=x5.alloc (.cells vCells 60):=⟨_,rfl⟩
           obtain ⟨b1,hg_⟩:∃ q,q=x5.heap.size:=⟨_,rfl⟩
           have hb_:Below x5.heap.size x5 x6:=by rw [h_];exact (Below.refl _ _).alloc (Nat.le_refl _) _
           have Fb1:x6.heap[b1]? = some (.cells vCells 60 (0,0)):=by rw [h_,hg_];exact heap_alloc_new x5 _
           have Gb1:w.heap.size < b1:=by rw [hg_];exact lt_of_block F0
           have hSx6:=hSx5.next hb_
           rw [←h_,←hg_]
           clear h_ hg_
           replace F0:=keep_blk F0 hb_
           replace Fb3:=keep_blk Fb3 hb_
           replace Fb2:=keep_blk Fb2 hb_
           clear hb_
           show runB _ _ _ _ 2 [9,10] _ _
           refine runB_at 9 (v:=?_) (by rfl) (by rfl) (by rfl) (by kernel_rfl) (by rfl) ?_ ?_
           rotate_left
           focus (intro w_ hw_;have f0_:=hw_.v0;have f1_:=hw_.v1;have f2_:=hw_.v2;go_simp;(try with_reducible rfl);done)
           (try dsimp only [Act.put])
           show runB _ _ _ _ 1 [10] _ _
           try simp only [List.setIfInBounds_toArray,List.set_cons_zero,List.set_cons_succ]
           refine runB_one 10 (by kernel_rfl) (by kernel_rfl) (by rfl) (by rfl) ?_
           refine tdoes_skip (w1:=x6.setRow w.heap.size #[.slice (some ⟨b1,0,none⟩) 3 3,.slice (some ⟨b2,0,none⟩) 1 1,.slice (some ⟨b3,0,none⟩) 2 2]) (sep_store 25 _ _ rfl w.heap.size #[.slice (some ⟨b1,0,none⟩) 3 3,.slice (some ⟨b2,0,none⟩) 1 1,.slice (some ⟨b3,0,none⟩) 2 2] rfl rfl 25 #[.slice none 0 0,.slice none 0 0,.slice none 0 0] F0 (by kernel_rfl) (by rfl) (by kernel_rfl)) ⟨hSx6.store _,?_⟩
           show runB _ _ _ _ 0 [] _ _
           refine runB_nil ?_
           (try dsimp only [Act.put])
           try simp only [List.setIfInBounds_toArray,List.set_cons_zero,List.set_cons_succ]
           go_wp2_with fail
           refine bodyPost_ret (results_cell_row (ty:=25) rfl _ _ w.heap.size 25 _ (0,0) _ rfl (setRow_heap _ _ _ _ _ _ F0) Tryz.underlying25 rfl (by kernel_rfl)) rfl ?_
           exact ⟨b1,b2,b3,rfl,Nat.le_of_lt Gb1,Nat.le_of_lt Gb2,Nat.le_of_lt Gb3,(setRow_other _ _ _ _ (by omega)).trans Fb1,(setRow_other _ _ _ _ (by omega)).trans Fb2,(setRow_other _ _ _ _ (by omega)).trans Fb3,(hSx6.store _).below⟩
end Go.Proofs.YtjbabpnepjhllaaGreat
