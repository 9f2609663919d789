/- Part 21 of a claim; what it proves stands in its last text. -/
import Derived.Test.YtocndimihokcmaaGreatAm20
namespace Go.Proofs.YtocndimihokcmaaGreat
open Go.RowKit
set_option maxRecDepth 100000
open Go.Maps (Keyed)
open Go.Maps
theorem results2 {P:Program} {fn:Func} {p q:Tmp} {ty:TypeId} (h:fn.results=#[.cell p ty,.tmp q]) (tmps:Array Value) (w:World) (g:Nat) (t:TypeId) (cs:Array Value) (fr:Nat×Nat) (d:TypeDesc)
   (hp:tmps.getD p undef=.pointer (some ⟨g,0,none⟩)) (hg:w.heap[g]? = some (.cells cs t fr))
   (hu:P.underlying ty=some d) (hd:(match d with | .struct _ | .array _ _=>true | _=>false)=true) (hi:(P.info? ty).map (·.size)=some cs.size) :
   (results fn tmps).run P w=.ok (.tuple #[.agg cs,tmps.getD q undef]) w:=by
 have hp':tmps[p]?.getD undef=.pointer (some ⟨g,0,none⟩):=by simpa using hp
 simp [results,h,hp',asAddr,run_loadVar_row w g t ty cs fr d hg hu hd hi]
theorem alloc_fet (w:World):(Instr.alloc 129 true (.tuple #[])).run Tryz.prog w=.ok (.pointer (some ⟨w.heap.size,0,none⟩)) (w.alloc (.cells [.int .i64 0,.int .i64 0,.int .i64 0,.int .i64 0,.int .i64 0,.int .i64 0,.int .i64 0,.int .i64 0,.int .i64 0,.int .i64 0].toArray 129)):=by kernel_rfl
theorem fet_first {w:World} {b g:Nat} {cs:Array Value} (hb:b < w.heap.size) (hg:g < w.heap.size) :
   ∃ X,X=((w.alloc (.cells [.int .i64 0,.int .i64 0,.int .i64 0,.int .i64 0,.int .i64 0,.int .i64 0,.int .i64 0,.int .i64 0,.int .i64 0,.int .i64 0].toArray 129)).drew.alloc (.cells [.int .i64 0,.int .i64 0,.int .i64 0,.int .i64 0,.int .i64 0,.int .i64 0,.int .i64 0,.int .i64 0,.int .i64 0,.int .i64 0].toArray 129)).setRow (w.heap.size+1) cs∧X.heap[w.heap.size+1]? = some (.cells cs 129 (0,0))∧X.heap[w.heap.size]? = some (.cells [.int .i64 0,.int .i64 0,.int .i64 0,.int .i64 0,.int .i64 0,.int .i64 0,.int .i64 0,.int .i64 0,.int .i64 0,.int .i64 0].toArray 129 (0,0)) ∧
     ((w.alloc (.cells [.int .i64 0,.int .i64 0,.int .i64 0,.int .i64 0,.int .i64 0,.int .i64 0,.int .i64 0,.int .i64 0,.int .i64 0,.int .i64 0].toArray 129)).drew.alloc (.cells [.int .i64 0,.int .i64 0,.int .i64 0,.int .i64 0,.int .i64 0,.int .i64 0,.int .i64 0,.int .i64 0,.int .i64 0,.int .i64 0].toArray 129)).heap[w.heap.size+1]? = some (.cells [.int .i64 0,.int .i64 0,.int .i64 0,.int .i64 0,.int .i64 0,.int .i64 0,.int .i64 0,.int .i64 0,.int .i64 0,.int .i64 0].toArray 129 (0,0))∧Below w.heap.size w X∧Below w.heap.size w ((w.alloc (.cells [.int .i64 0,.int .i64 0,.int .i64 0,.int .i64 0,.int .i64 0,.int .i64 0,.int .i64 0,.int .i64 0,.int .i64 0,.int .i64 0].toArray 129)).drew.alloc (.cells [.int .i64 0,.int .i64 0,.int .i64 0,.int .i64 0,.int .i64 0,.int .i64 0,.int .i64 0,.int .i64 0,.int .i64 0,.int .i64 0].toArray 129))∧b≠w.heap.size∧g≠w.heap.size:=by
 have hs:(w.alloc (.cells [.int .i64 0,.int .i64 0,.int .i64 0,.int .i64 0,.int .i64 0,.int .i64 0,.int .i64 0,.int .i64 0,.int .i64 0,.int .i64 0].toArray 129)).drew.heap.size=w.heap.size+1:=by show (w.alloc _).heap.size=_;simp
 have h1:=heap_alloc_new (w.alloc (.cells [.int .i64 0,.int .i64 0,.int .i64 0,.int .i64 0,.int .i64 0,.int .i64 0,.int .i64 0,.int .i64 0,.int .i64 0,.int .i64 0].toArray 129)).drew (.cells [.int .i64 0,.int .i64 0,.int .i64 0,.int .i64 0,.int .i64 0,.int .i64 0,.int .i64 0,.int .i64 0,.int .i64 0,.int .i64 0].toArray 129)
 rw [hs] at h1
 have hB:Below w.heap.size w ((w.alloc (.cells [.int .i64 0,.int .i64 0,.int .i64 0,.int .i64 0,.int .i64 0,.int .i64 0,.int .i64 0,.int .i64 0,.int .i64 0,.int .i64 0].toArray 129)).drew.alloc (.cells [.int .i64 0,.int .i64 0,.int .i64 0,.int .i64 0,.int .i64 0,.int .i64 0,.int .i64 0,.int .i64 0,.int .i64 0,.int .i64 0].toArray 129)):=(((Below.refl _ _).alloc (Nat.le_refl _) _).drew).alloc (by rw [hs];omega) _
 refine ⟨_,rfl,setRow_heap _ _ _ _ _ _ h1,?_,h1,Below.setRow hB (Nat.le_succ _) _,hB,by omega,by omega⟩
 refine (setRow_other _ _ _ _ (by omega)).trans ((heap_alloc_old _ _ (by rw [hs];omega)).trans ?_)
 exact heap_alloc_new w _
set_option maxHeartbeats 8000000 in
theorem fetch_hit {code:List UInt8} {m:Value} {b g k:Nat} {w:World} {s:St} {n err:Int} (h:RunAt code m b g k w s n err) {x:Ins×Nat} {c:Nat} {D:DataW Value} (ho:w.ownsMap Tryz.prog 23 selfE g c D) (hx:∀ z,D.atKey (.int .u64 s.pc) z=.held (fetV x)):Calls Tryz.prog 67 #[.pointer (some ⟨b,0,none⟩)] w fun e w'=>e=.returned (.tuple #[fetV x,.bool true])∧Below w.heap.size w w':=by
 obtain ⟨X,hX,hx4,hx2,hz4,hbX,hbZ,hnb,hng⟩:=fet_first (b:=b) (g:=g) (cs:=(insRow x.1++[Value.int .i64 x.2]).toArray) (lt_of_block h.blk) ho.lt
 have HX:=Lh hX
 have H4:=Lh hx4
 have H2:=Lh hx2
 have HZ4:=Lh hz4
 have HBX:=Lh hbX
 have HBZ:=Lh hbZ
 have HPC:=Lh h.st.pc
 have HST:=Lh h.st
 have HHX:=Lh hx
 have HS0:=Lh (show (w.alloc (.cells [.int .i64 0,.int .i64 0,.int .i64 0,.int .i64 0,.int .i64 0,.int .i64 0,.int .i64 0,.int .i64 0,.int .i64 0,.int .i64 0].toArray 129)).drew.heap[b]? = some (.cells (runRow s n err (strB code) m g).toArray 68 (0,0))∧(w.alloc (.cells [.int .i64 0,.int .i64 0,.int .i64 0,.int .i64 0,.int .i64 0,.int .i64 0,.int .i64 0,.int .i64 0,.int .i64 0,.int .i64 0].toArray 129)).drew.ownsMap Tryz.prog 23 selfE g c D from ⟨(heap_alloc_old w _ (lt_of_block h.blk)).trans h.blk,(ho.alloc _).drew⟩)
 have HS1:=Lh (show ((w.alloc (.cells [.int .i64 0,.int .i64 0,.int .i64 0,.int .i64 0,.int .i64 0,.int .i64 0,.int .i64 0,.int .i64 0,.int .i64 0,.int .i64 0].toArray 129)).drew.alloc (.cells [.int .i64 0,.int .i64 0,.int .i64 0,.int .i64 0,.int .i64 0,.int .i64 0,.int .i64 0,.int .i64 0,.int .i64 0,.int .i64 0].toArray 129)).heap[b]? = some (.cells (runRow s n err (strB code) m g).toArray 68 (0,0))∧((w.alloc (.cells [.int .i64 0,.int .i64 0,.int .i64 0,.int .i64 0,.int .i64 0,.int .i64 0,.int .i64 0,.int .i64 0,.int .i64 0,.int .i64 0].toArray 129)).drew.alloc (.cells [.int .i64 0,.int .i64 0,.int .i64 0,.int .i64 0,.int .i64 0,.int .i64 0,.int .i64 0,.int .i64 0,.int .i64 0,.int .i64 0].toArray 129)).ownsMap Tryz.prog 23 selfE g c D from ⟨(hbZ.block _ (lt_of_block h.blk)).trans h.blk,own_chgH ho (Chg.of_below (F:=fun _=>False) hbZ) (fun e=>e)⟩)
 have HS2:=Lh (show X.heap[b]? = some (.cells (runRow s n err (strB code) m g).toArray 68 (0,0))∧X.ownsMap Tryz.prog 23 selfE g c D from ⟨(hbX.block _ (lt_of_block h.blk)).trans h.blk,own_chgH ho (Chg.of_below (F:=fun _=>False) hbX) (fun e=>e)⟩)
 clear h ho hx hX hx4 hx2 hz4 hbX hbZ hnb hng
 go_enter Tryz.func67,Tryz.ntmps67
 go_wp2
 (refine wp_region_lines (fun w_=>w_.heap[b]? = some (.cells (runRow s n err (strB code) m g).toArray 68 (0,0))∧w_.ownsMap Tryz.prog 23 selfE g c D) (by kernel_rfl) (by kernel_rfl) HS0.out ?_)
 (try simp only [])
 repeat (first | (refine runL_no (by rfl) ?_;(try simp only [Act.put,List.setIfInBounds_toArray,List.set_cons_zero,List.set_cons_succ])) | (refine runL_val (v:=?_) (by rfl) ?_ ?_;rotate_left;(focus (intro w_ hw_;have f1_:=(cell_at hw_.1 (run_at HST.out).1).1;have f2_:=(cell_at hw_.1 (run_at HST.out).2.2.2.2.2).1;have f3_:=look_hit hw_.2 HPC.out HHX.out;go_simp;(try with_reducible rfl);done));(try simp only [Act.put,List.setIfInBounds_toArray,List.set_cons_zero,List.set_cons_succ])) | (refine runL_op (v:=.pointer (some ⟨w.heap.size+1,0,none⟩)) (w1:=(w.alloc (.cells [.int .i64 0,.int .i64 0,.int .i64 0,.int .i64 0,.int .i64 0,.int .i64 0,.int .i64 0,.int .i64 0,.int .i64 0,.int .i64 0].toArray 129)).drew.alloc (.cells [.int .i64 0,.int .i64 0,.int .i64 0,.int .i64 0,.int .i64 0,.int .i64 0,.int .i64 0,.int .i64 0,.int .i64 0,.int .i64 0].toArray 129)) (by rfl) (by rfl) (exec_alloc rfl ((alloc_fet _).trans (by rw [show (w.alloc (.cells [.int .i64 0,.int .i64 0,.int .i64 0,.int .i64 0,.int .i64 0,.int .i64 0,.int .i64 0,.int .i64 0,.int .i64 0,.int .i64 0].toArray 129)).drew.heap.size=w.heap.size+1 from by show (w.alloc _).heap.size=_;simp]))) (.inr HS1.out) ?_;(try simp only [Act.put,List.setIfInBounds_toArray,List.set_cons_zero,List.set_cons_succ])) | (refine runL_skip (w1:=X) (by rfl) (by rfl) (by rw [HX.out];exact exec_store_row 129 _ _ rfl (w.heap.size+1) _ rfl rfl 129 _ HZ4.out (by kernel_rfl) (by rfl) (by kernel_rfl)) (.inr HS2.out) ?_;(try simp only [Act.put])))
 (refine runL_nil ?_)
 go_wp2_with (first | (refine wpList_load_row rfl 129 _ rfl (w.heap.size+1) rfl 129 _ (0,0) _ (H4.out) Tryz.underlying129 rfl (by kernel_rfl) ?_) | (refine wpList_store_row rfl 129 _ _ rfl w.heap.size _ rfl rfl 129 _ (H2.out) (by kernel_rfl) (by rfl) (by kernel_rfl) ?_))
 refine bodyPost_ret (results2 (ty:=129) rfl _ _ w.heap.size 129 _ (0,0) _ rfl (setRow_heap _ _ _ _ _ _ H2.out) Tryz.underlying129 rfl (by kernel_rfl)) rfl ⟨rfl,?_⟩
 exact Below.setRow HBX.out (Nat.le_refl _) _
end Go.Proofs.YtocndimihokcmaaGreat
namespace Go.Proofs.YtocndimihokcmaaGreat
open Go.RowKit
set_option maxRecDepth 100000
open Go.Maps (Keyed)
open Go.Maps
theorem exec_mapUpdate {P:Program} {o:Oper} {a:Act} {w w':World} {t:TypeId} {m x v:Operand} {mv kv vv:Value} (ho:o.op=.mapUpdate t m x v) (hm:a.eval m=mv) (hx:a.eval x=kv) (hv:a.eval v=vv) (h:(Instr.mapUpdate t mv kv vv).run P w=.ok () w'):(execOp a.eval o).run P w=.ok .skip w':=by
 unfold execOp
 simp only [ho,hm,hx,hv,Sem.run_bind,Sem.run_pure,h,Result.andThen_ok]
set_option maxHeartbeats 8000000 in
theorem fetch_none {code:List UInt8} {m:Value} {b g k:Nat} {w:World} {s:St} {n err:Int} (h:RunAt code m b g k w s n err) {I:Ins} {nn:Int} {c:Nat} {D:DataW Value} (ho:w.ownsMap Tryz.prog 23 selfE g c D) (hx:∀ z,D.atKey (.int .u64 s.pc) z=z) (HFE:∀ w_,Calls Tryz.prog 10 #[strB code,.int .u64 s.pc] w_ fun e w'=>e=.returned (.tuple #[.agg (insRow I).toArray,.int .i64 nn,.int .i64 11])∧Below w_.heap.size w_ w'):Calls Tryz.prog 67 #[.pointer (some ⟨b,0,none⟩)] w fun e w'=>e=.returned (.tuple #[fetZ,.bool false])∧Below w.heap.size w w':=by
 obtain ⟨X,hX,hx4,hx2,hz4,hbX,hbZ,hnb,hng⟩:=fet_first (b:=b) (g:=g) (cs:=[.int .i64 0,.int .i64 0,.int .i64 0,.int .i64 0,.int .i64 0,.int .i64 0,.int .i64 0,.int .i64 0,.int .i64 0,.int .i64 0].toArray) (lt_of_block h.blk) ho.lt
 have HX:=Lh hX
 have H4:=Lh hx4
 have H2:=Lh hx2
 have HZ4:=Lh hz4
 have HBX:=Lh hbX
 have HBZ:=Lh hbZ
 have HPC:=Lh h.st.pc
 have HFE:=Lh HFE
 have HLT:=Lh (show b < w.heap.size∧g < w.heap.size from ⟨lt_of_block h.blk,ho.lt⟩)
 have HNE:=Lh h.ne
 have HST:=Lh h.st
 have HHX:=Lh hx
 have HS0:=Lh (show (w.alloc (.cells [.int .i64 0,.int .i64 0,.int .i64 0,.int .i64 0,.int .i64 0,.int .i64 0,.int .i64 0,.int .i64 0,.int .i64 0,.int .i64 0].toArray 129)).drew.heap[b]? = some (.cells (runRow s n err (strB code) m g).toArray 68 (0,0))∧(w.alloc (.cells [.int .i64 0,.int .i64 0,.int .i64 0,.int .i64 0,.int .i64 0,.int .i64 0,.int .i64 0,.int .i64 0,.int .i64 0,.int .i64 0].toArray 129)).drew.ownsMap Tryz.prog 23 selfE g c D from ⟨(heap_alloc_old w _ (lt_of_block h.blk)).trans h.blk,(ho.alloc _).drew⟩)
 have HS1:=Lh (show ((w.alloc (.cells [.int .i64 0,.int .i64 0,.int .i64 0,.int .i64 0,.int .i64 0,.int .i64 0,.int .i64 0,.int .i64 0,.int .i64 0,.int .i64 0].toArray 129)).drew.alloc (.cells [.int .i64 0,.int .i64 0,.int .i64 0,.int .i64 0,.int .i64 0,.int .i64 0,.int .i64 0,.int .i64 0,.int .i64 0,.int .i64 0].toArray 129)).heap[b]? = some (.cells (runRow s n err (strB code) m g).toArray 68 (0,0))∧((w.alloc (.cells [.int .i64 0,.int .i64 0,.int .i64 0,.int .i64 0,.int .i64 0,.int .i64 0,.int .i64 0,.int .i64 0,.int .i64 0,.int .i64 0].toArray 129)).drew.alloc (.cells [.int .i64 0,.int .i64 0,.int .i64 0,.int .i64 0,.int .i64 0,.int .i64 0,.int .i64 0,.int .i64 0,.int .i64 0,.int .i64 0].toArray 129)).ownsMap Tryz.prog 23 selfE g c D from ⟨(hbZ.block _ (lt_of_block h.blk)).trans h.blk,own_chgH ho (Chg.of_below (F:=fun _=>False) hbZ) (fun e=>e)⟩)
 have HS2:=Lh (show X.heap[b]? = some (.cells (runRow s n err (strB code) m g).toArray 68 (0,0))∧X.ownsMap Tryz.prog 23 selfE g c D from ⟨(hbX.block _ (lt_of_block h.blk)).trans h.blk,own_chgH ho (Chg.of_below (F:=fun _=>False) hbX) (fun e=>e)⟩)
 clear h ho hx hX hx4 hx2 hz4 hbX hbZ hnb hng
 go_enter Tryz.func67,Tryz.ntmps67
 go_wp2
 (refine wp_region_lines (fun w_=>w_.heap[b]? = some (.cells (runRow s n err (strB code) m g).toArray 68 (0,0))∧w_.ownsMap Tryz.prog 23 selfE g c D) (by kernel_rfl) (by kernel_rfl) HS0.out ?_)
 (try simp only [])
 repeat (first | (refine runL_no (by rfl) ?_;(try simp only [Act.put,List.setIfInBounds_toArray,List.set_cons_zero,List.set_cons_succ])) | (refine runL_val (v:=?_) (by rfl) ?_ ?_;rotate_left;(focus (intro w_ hw_;have f1_:=(cell_at hw_.1 (run_at HST.out).1).1;have f2_:=(cell_at hw_.1 (run_at HST.out).2.2.2.2.2).1;have f3_:=look_miss hw_.2 HPC.out HHX.out;go_simp;(try with_reducible rfl);done));(try simp only [Act.put,List.setIfInBounds_toArray,List.set_cons_zero,List.set_cons_succ])) | (refine runL_op (v:=.pointer (some ⟨w.heap.size+1,0,none⟩)) (w1:=(w.alloc (.cells [.int .i64 0,.int .i64 0,.int .i64 0,.int .i64 0,.int .i64 0,.int .i64 0,.int .i64 0,.int .i64 0,.int .i64 0,.int .i64 0].toArray 129)).drew.alloc (.cells [.int .i64 0,.int .i64 0,.int .i64 0,.int .i64 0,.int .i64 0,.int .i64 0,.int .i64 0,.int .i64 0,.int .i64 0,.int .i64 0].toArray 129)) (by rfl) (by rfl) (exec_alloc rfl ((alloc_fet _).trans (by rw [show (w.alloc (.cells [.int .i64 0,.int .i64 0,.int .i64 0,.int .i64 0,.int .i64 0,.int .i64 0,.int .i64 0,.int .i64 0,.int .i64 0,.int .i64 0].toArray 129)).drew.heap.size=w.heap.size+1 from by show (w.alloc _).heap.size=_;simp]))) (.inr HS1.out) ?_;(try simp only [Act.put,List.setIfInBounds_toArray,List.set_cons_zero,List.set_cons_succ])) | (refine runL_skip (w1:=X) (by rfl) (by rfl) (by rw [HX.out];exact exec_store_row 129 _ _ rfl (w.heap.size+1) _ rfl rfl 129 _ HZ4.out (by kernel_rfl) (by rfl) (by kernel_rfl)) (.inr HS2.out) ?_;(try simp only [Act.put])))
 (refine runL_nil ?_)
 go_wp2
 refine wp_region_grow (Below X.heap.size X) (by kernel_rfl) (by kernel_rfl) (Below.refl _ X).drew ?_
 have hSx0:=(Below.refl X.heap.size X).drew
 obtain ⟨x0,hx0⟩:∃ x0,x0=X.drew:=⟨_,rfl⟩
 rw [←hx0] at hSx0 ⊢
 clear hx0
 show runC _ _ _ 19 _ [0,1,2,3,4,5,6,7,8,9,10,11,12,13,14,15,16,17,18] _ _
 refine runC_at 0 (v:=?_) (by rfl) (by rfl) (by rfl) (by kernel_rfl) (by rfl) ?_ ?_
 rotate_left
 focus (intro w_ hw_;have g1_:=(hw_.block _ (lt_of_block HS2.out.1)).trans HS2.out.1;have f1_:=(cell_at g1_ (run_at HST.out).1).1;have f2_:=(cell_at g1_ (run_at HST.out).2.2.2.1).1;go_simp;(try with_reducible rfl);done)
 (try dsimp only [Act.put])
 show runC _ _ _ 18 _ [1,2,3,4,5,6,7,8,9,10,11,12,13,14,15,16,17,18] _ _
 try simp only [List.setIfInBounds_toArray,List.set_cons_zero,List.set_cons_succ]
 refine runC_at 1 (v:=?_) (by rfl) (by rfl) (by rfl) (by kernel_rfl) (by rfl) ?_ ?_
 rotate_left
 focus (intro w_ hw_;have g1_:=(hw_.block _ (lt_of_block HS2.out.1)).trans HS2.out.1;have f1_:=(cell_at g1_ (run_at HST.out).1).1;have f2_:=(cell_at g1_ (run_at HST.out).2.2.2.1).1;go_simp;(try with_reducible rfl);done)
 (try dsimp only [Act.put])
 show runC _ _ _ 17 _ [2,3,4,5,6,7,8,9,10,11,12,13,14,15,16,17,18] _ _
 try simp only [List.setIfInBounds_toArray,List.set_cons_zero,List.set_cons_succ]
 refine runC_at 2 (v:=?_) (by rfl) (by rfl) (by rfl) (by kernel_rfl) (by rfl) ?_ ?_
 rotate_left
 focus (intro w_ hw_;have g1_:=(hw_.block _ (lt_of_block HS2.out.1)).trans HS2.out.1;have f1_:=(cell_at g1_ (run_at HST.out).1).1;have f2_:=(cell_at g1_ (run_at HST.out).2.2.2.1).1;go_simp;(try with_reducible rfl);done)
 (try dsimp only [Act.put])
 show runC _ _ _ 16 _ [3,4,5,6,7,8,9,10,11,12,13,14,15,16,17,18] _ _
 try simp only [List.setIfInBounds_toArray,List.set_cons_zero,List.set_cons_succ]
 refine runC_at 3 (v:=?_) (by rfl) (by rfl) (by rfl) (by kernel_rfl) (by rfl) ?_ ?_
 rotate_left
 focus (intro w_ hw_;have g1_:=(hw_.block _ (lt_of_block HS2.out.1)).trans HS2.out.1;have f1_:=(cell_at g1_ (run_at HST.out).1).1;have f2_:=(cell_at g1_ (run_at HST.out).2.2.2.1).1;go_simp;(try with_reducible rfl);done)
 (try dsimp only [Act.put])
 show runC _ _ _ 15 _ [4,5,6,7,8,9,10,11,12,13,14,15,16,17,18] _ _
 try simp only [List.setIfInBounds_toArray,List.set_cons_zero,List.set_cons_succ]
 refine runC_at 4 (v:=?_) (by rfl) (by rfl) (by rfl) (by kernel_rfl) (by rfl) ?_ ?_
 rotate_left
 focus (intro w_ hw_;have g1_:=(hw_.block _ (lt_of_block HS2.out.1)).trans HS2.out.1;have f1_:=(cell_at g1_ (run_at HST.out).1).1;have f2_:=(cell_at g1_ (run_at HST.out).2.2.2.1).1;go_simp;(try with_reducible rfl);done)
 (try dsimp only [Act.put])
 show runC _ _ _ 14 _ [5,6,7,8,9,10,11,12,13,14,15,16,17,18] _ _
 try simp only [List.setIfInBounds_toArray,List.set_cons_zero,List.set_cons_succ]
 refine runC_at 5 (v:=?_) (by rfl) (by rfl) (by rfl) (by kernel_rfl) (by rfl) ?_ ?_
 rotate_left
 focus (intro w_ hw_;have g1_:=(hw_.block _ (lt_of_block HS2.out.1)).trans HS2.out.1;have f1_:=(cell_at g1_ (run_at HST.out).1).1;have f2_:=(cell_at g1_ (run_at HST.out).2.2.2.1).1;go_simp;(try with_reducible rfl);done)
 (try dsimp only [Act.put])
 show runC _ _ _ 13 _ [6,7,8,9,10,11,12,13,14,15,16,17,18] _ _
 try simp only [List.setIfInBounds_toArray,List.set_cons_zero,List.set_cons_succ]
 refine runC_at 6 (v:=?_) (by rfl) (by rfl) (by rfl) (by kernel_rfl) (by rfl) ?_ ?_
 rotate_left
 focus (intro w_ hw_;have g1_:=(hw_.block _ (lt_of_block HS2.out.1)).trans HS2.out.1;have f1_:=(cell_at g1_ (run_at HST.out).1).1;have f2_:=(cell_at g1_ (run_at HST.out).2.2.2.1).1;go_simp;(try with_reducible rfl);done)
 (try dsimp only [Act.put])
 show runC _ _ _ 12 _ [7,8,9,10,11,12,13,14,15,16,17,18] _ _
 try simp only [List.setIfInBounds_toArray,List.set_cons_zero,List.set_cons_succ]
 refine runC_at 7 (v:=?_) (by rfl) (by rfl) (by rfl) (by kernel_rfl) (by rfl) ?_ ?_
 rotate_left
 focus (intro w_ hw_;have g1_:=(hw_.block _ (lt_of_block HS2.out.1)).trans HS2.out.1;have f1_:=(cell_at g1_ (run_at HST.out).1).1;have f2_:=(cell_at g1_ (run_at HST.out).2.2.2.1).1;go_simp;(try with_reducible rfl);done)
 (try dsimp only [Act.put])
 show runC _ _ _ 11 _ [8,9,10,11,12,13,14,15,16,17,18] _ _
 try simp only [List.setIfInBounds_toArray,List.set_cons_zero,List.set_cons_succ]
 refine runC_at 8 (v:=?_) (by rfl) (by rfl) (by rfl) (by kernel_rfl) (by rfl) ?_ ?_
 rotate_left
 focus (intro w_ hw_;have g1_:=(hw_.block _ (lt_of_block HS2.out.1)).trans HS2.out.1;have f1_:=(cell_at g1_ (run_at HST.out).1).1;have f2_:=(cell_at g1_ (run_at HST.out).2.2.2.1).1;go_simp;(try with_reducible rfl);done)
 (try dsimp only [Act.put])
 show runC _ _ _ 10 _ [9,10,11,12,13,14,15,16,17,18] _ _
 try simp only [List.setIfInBounds_toArray,List.set_cons_zero,List.set_cons_succ]
 refine runC_at 9 (v:=?_) (by rfl) (by rfl) (by rfl) (by kernel_rfl) (by rfl) ?_ ?_
 rotate_left
 focus (intro w_ hw_;have g1_:=(hw_.block _ (lt_of_block HS2.out.1)).trans HS2.out.1;have f1_:=(cell_at g1_ (run_at HST.out).1).1;have f2_:=(cell_at g1_ (run_at HST.out).2.2.2.1).1;go_simp;(try with_reducible rfl);done)
 (try dsimp only [Act.put])
 show runC _ _ _ 9 _ [10,11,12,13,14,15,16,17,18] _ _
 try simp only [List.setIfInBounds_toArray,List.set_cons_zero,List.set_cons_succ]
 refine runC_two 10 15 (by kernel_rfl) (by kernel_rfl) (by rfl) (by rfl) (by rfl) (by rfl) ?_ ?_
 · refine tdoes_call (f:=?_) (args:=?_) (w1:=?_) ?_ ?_
   rotate_left 3
   focus (go_simp;refine ⟨⟨?_,?_⟩,?_⟩ <;> with_reducible rfl)
   refine (HFE.out x0).mono ?_
   rintro e_ x1 ⟨rfl,hb_⟩
   have hSx1:=hSx0.trans (hb_.mono hSx0.size)
   have HBx1:=Lh hb_
   clear hb_
   (try have hZx1:=(HBx1.out.block _ (lt_of_block hZx0)).trans hZx0)
   refine ⟨_,rfl,sameS hSx1 ?_⟩
   (try dsimp only [Act.put])
   try simp only [List.setIfInBounds_toArray,List.set_cons_zero,List.set_cons_succ]
   show runC _ _ _ 8 _ [11,12,13,14,15,16,17,18] _ _
   refine runC_at 11 (v:=?_) (by rfl) (by rfl) (by rfl) (by kernel_rfl) (by rfl) ?_ ?_
   rotate_left
   focus (intro w_ hw_;have g1_:=(hw_.block _ (lt_of_block HS2.out.1)).trans HS2.out.1;have f1_:=(cell_at g1_ (run_at HST.out).1).1;have f2_:=(cell_at g1_ (run_at HST.out).2.2.2.1).1;go_simp;(try with_reducible rfl);done)
   (try dsimp only [Act.put])
   show runC _ _ _ 7 _ [12,13,14,15,16,17,18] _ _
   try simp only [List.setIfInBounds_toArray,List.set_cons_zero,List.set_cons_succ]
   refine runC_at 12 (v:=?_) (by rfl) (by rfl) (by rfl) (by kernel_rfl) (by rfl) ?_ ?_
   rotate_left
   focus (intro w_ hw_;have g1_:=(hw_.block _ (lt_of_block HS2.out.1)).trans HS2.out.1;have f1_:=(cell_at g1_ (run_at HST.out).1).1;have f2_:=(cell_at g1_ (run_at HST.out).2.2.2.1).1;go_simp;(try with_reducible rfl);done)
   (try dsimp only [Act.put])
   show runC _ _ _ 6 _ [13,14,15,16,17,18] _ _
   try simp only [List.setIfInBounds_toArray,List.set_cons_zero,List.set_cons_succ]
   refine runC_at 13 (v:=?_) (by rfl) (by rfl) (by rfl) (by kernel_rfl) (by rfl) ?_ ?_
   rotate_left
   focus (intro w_ hw_;have g1_:=(hw_.block _ (lt_of_block HS2.out.1)).trans HS2.out.1;have f1_:=(cell_at g1_ (run_at HST.out).1).1;have f2_:=(cell_at g1_ (run_at HST.out).2.2.2.1).1;go_simp;(try with_reducible rfl);done)
   (try dsimp only [Act.put])
   show runC _ _ _ 5 _ [14,15,16,17,18] _ _
   try simp only [List.setIfInBounds_toArray,List.set_cons_zero,List.set_cons_succ]
   refine runC_at 14 (v:=?_) (by rfl) (by rfl) (by rfl) (by kernel_rfl) (by rfl) ?_ ?_
   rotate_left
   focus (intro w_ hw_;have g1_:=(hw_.block _ (lt_of_block HS2.out.1)).trans HS2.out.1;have f1_:=(cell_at g1_ (run_at HST.out).1).1;have f2_:=(cell_at g1_ (run_at HST.out).2.2.2.1).1;go_simp;(try with_reducible rfl);done)
   (try dsimp only [Act.put])
   show runC _ _ _ 4 _ [15,16,17,18] _ _
   try simp only [List.setIfInBounds_toArray,List.set_cons_zero,List.set_cons_succ]
   refine runC_one 15 (by kernel_rfl) (by kernel_rfl) (by rfl) (by rfl) ?_
   obtain ⟨x2,h_⟩:∃ q,q=x1.alloc (.cells insZ.toArray 40):=⟨_,rfl⟩
   obtain ⟨g6,hg6⟩:∃ q,q=x1.heap.size:=⟨_,rfl⟩
   have hSx2:Below X.heap.size X x2:=by rw [h_];exact hSx1.alloc hSx1.size _
   have hZx2:x2.heap[g6]? = some (.cells insZ.toArray 40 (0,0)):=by rw [h_,hg6];exact heap_alloc_new _ _
   have HG6:=Lh (show X.heap.size≤g6 from by rw [hg6];exact hSx1.size)
   refine tdoes_op (w1:=x2) (v:=.pointer (some ⟨g6,0,none⟩)) (by rw [h_,hg6];exact exec_alloc rfl (alloc_insZ x1)) (sameS hSx2 ?_)
   (try dsimp only [Act.put])
   try simp only [List.setIfInBounds_toArray,List.set_cons_zero,List.set_cons_succ]
   clear h_ hg6
   show runC _ _ _ 3 _ [16,17,18] _ _
   refine runC_one 16 (by kernel_rfl) (by kernel_rfl) (by rfl) (by rfl) ?_
   obtain ⟨x3,h_⟩:∃ q,q=x2.setRow g6 (insRow I).toArray:=⟨_,rfl⟩
   have hSx3:Below X.heap.size X x3:=by rw [h_];exact Below.setRow hSx2 HG6.out _
   have hIx3:x3.heap[g6]? = some (.cells (insRow I).toArray 40 (0,0)):=by rw [h_];exact setRow_heap _ _ _ _ _ _ hZx2
   refine tdoes_skip (w1:=x3) (by rw [h_];exact exec_store_row 40 _ _ rfl g6 _ rfl rfl 40 _ hZx2 (by kernel_rfl) rfl (by kernel_rfl)) (sameS hSx3 ?_)
   (try dsimp only [Act.put])
   try simp only [List.setIfInBounds_toArray,List.set_cons_zero,List.set_cons_succ]
   clear h_
   show runC _ _ _ 2 _ [17,18] _ _
   refine runC_at 17 (v:=?_) (by rfl) (by rfl) (by rfl) (by kernel_rfl) (by rfl) ?_ ?_
   rotate_left
   focus (intro w_ hw_;have g1_:=(hw_.block _ (lt_of_block HS2.out.1)).trans HS2.out.1;have f1_:=(cell_at g1_ (run_at HST.out).1).1;have f2_:=(cell_at g1_ (run_at HST.out).2.2.2.1).1;go_simp;(try with_reducible rfl);done)
   (try dsimp only [Act.put])
   show runC _ _ _ 1 _ [18] _ _
   try simp only [List.setIfInBounds_toArray,List.set_cons_zero,List.set_cons_succ]
   refine runC_at 18 (v:=?_) (by rfl) (by rfl) (by rfl) (by kernel_rfl) (by rfl) ?_ ?_
   rotate_left
   focus (intro w_ hw_;have g1_:=(hw_.block _ (lt_of_block HS2.out.1)).trans HS2.out.1;have f1_:=(cell_at g1_ (run_at HST.out).1).1;have f2_:=(cell_at g1_ (run_at HST.out).2.2.2.1).1;go_simp;(try with_reducible rfl);done)
   (try dsimp only [Act.put])
   show runC _ _ _ 0 _ [] _ _
   try simp only [List.setIfInBounds_toArray,List.set_cons_zero,List.set_cons_succ]
   refine runC_nil ?_
   have HT4:=Lh ((hSx3.block _ (lt_of_block H4.out)).trans H4.out)
   have HT2:=Lh ((hSx3.block _ (lt_of_block H2.out)).trans H2.out)
   have HTB:=Lh (HBX.out.trans (hSx3.mono HBX.out.size))
   clear hSx3 hIx3
   go_wp2_with (first | (refine wpList_load_row rfl 129 _ rfl (w.heap.size+1) rfl 129 _ (0,0) _ (HT4.out) Tryz.underlying129 rfl (by kernel_rfl) ?_) | (refine wpList_store_row rfl 129 _ _ rfl w.heap.size _ rfl rfl 129 _ (HT2.out) (by kernel_rfl) (by rfl) (by kernel_rfl) ?_))
   refine bodyPost_ret (results2 (ty:=129) rfl _ _ w.heap.size 129 _ (0,0) _ rfl (setRow_heap _ _ _ _ _ _ HT2.out) Tryz.underlying129 rfl (by kernel_rfl)) rfl ⟨rfl,?_⟩
   exact Below.setRow HTB.out (Nat.le_refl _) _
 · obtain ⟨x4,h_⟩:∃ q,q=x0.alloc (.cells insZ.toArray 40):=⟨_,rfl⟩
   obtain ⟨g6,hg6⟩:∃ q,q=x0.heap.size:=⟨_,rfl⟩
   have hSx4:Below X.heap.size X x4:=by rw [h_];exact hSx0.alloc hSx0.size _
   have hZx4:x4.heap[g6]? = some (.cells insZ.toArray 40 (0,0)):=by rw [h_,hg6];exact heap_alloc_new _ _
   have HG6:=Lh (show X.heap.size≤g6 from by rw [hg6];exact hSx0.size)
   refine tdoes_op (w1:=x4) (v:=.pointer (some ⟨g6,0,none⟩)) (by rw [h_,hg6];exact exec_alloc rfl (alloc_insZ x0)) (sameS hSx4 ?_)
   (try dsimp only [Act.put])
   try simp only [List.setIfInBounds_toArray,List.set_cons_zero,List.set_cons_succ]
   clear h_ hg6
   show runC _ _ _ 8 _ [10,11,12,13,14,16,17,18] _ _
   refine runC_one 10 (by kernel_rfl) (by kernel_rfl) (by rfl) (by rfl) ?_
   refine tdoes_call (f:=?_) (args:=?_) (w1:=?_) ?_ ?_
   rotate_left 3
   focus (go_simp;refine ⟨⟨?_,?_⟩,?_⟩ <;> with_reducible rfl)
   refine (HFE.out x4).mono ?_
   rintro e_ x5 ⟨rfl,hb_⟩
   have hSx5:=hSx4.trans (hb_.mono hSx4.size)
   have HBx5:=Lh hb_
   clear hb_
   (try have hZx5:=(HBx5.out.block _ (lt_of_block hZx4)).trans hZx4)
   refine ⟨_,rfl,sameS hSx5 ?_⟩
   (try dsimp only [Act.put])
   try simp only [List.setIfInBounds_toArray,List.set_cons_zero,List.set_cons_succ]
   show runC _ _ _ 7 _ [11,12,13,14,16,17,18] _ _
   refine runC_at 11 (v:=?_) (by rfl) (by rfl) (by rfl) (by kernel_rfl) (by rfl) ?_ ?_
   rotate_left
   focus (intro w_ hw_;have g1_:=(hw_.block _ (lt_of_block HS2.out.1)).trans HS2.out.1;have f1_:=(cell_at g1_ (run_at HST.out).1).1;have f2_:=(cell_at g1_ (run_at HST.out).2.2.2.1).1;go_simp;(try with_reducible rfl);done)
   (try dsimp only [Act.put])
   show runC _ _ _ 6 _ [12,13,14,16,17,18] _ _
   try simp only [List.setIfInBounds_toArray,List.set_cons_zero,List.set_cons_succ]
   refine runC_at 12 (v:=?_) (by rfl) (by rfl) (by rfl) (by kernel_rfl) (by rfl) ?_ ?_
   rotate_left
   focus (intro w_ hw_;have g1_:=(hw_.block _ (lt_of_block HS2.out.1)).trans HS2.out.1;have f1_:=(cell_at g1_ (run_at HST.out).1).1;have f2_:=(cell_at g1_ (run_at HST.out).2.2.2.1).1;go_simp;(try with_reducible rfl);done)
   (try dsimp only [Act.put])
   show runC _ _ _ 5 _ [13,14,16,17,18] _ _
   try simp only [List.setIfInBounds_toArray,List.set_cons_zero,List.set_cons_succ]
   refine runC_at 13 (v:=?_) (by rfl) (by rfl) (by rfl) (by kernel_rfl) (by rfl) ?_ ?_
   rotate_left
   focus (intro w_ hw_;have g1_:=(hw_.block _ (lt_of_block HS2.out.1)).trans HS2.out.1;have f1_:=(cell_at g1_ (run_at HST.out).1).1;have f2_:=(cell_at g1_ (run_at HST.out).2.2.2.1).1;go_simp;(try with_reducible rfl);done)
   (try dsimp only [Act.put])
   show runC _ _ _ 4 _ [14,16,17,18] _ _
   try simp only [List.setIfInBounds_toArray,List.set_cons_zero,List.set_cons_succ]
   refine runC_at 14 (v:=?_) (by rfl) (by rfl) (by rfl) (by kernel_rfl) (by rfl) ?_ ?_
   rotate_left
   focus (intro w_ hw_;have g1_:=(hw_.block _ (lt_of_block HS2.out.1)).trans HS2.out.1;have f1_:=(cell_at g1_ (run_at HST.out).1).1;have f2_:=(cell_at g1_ (run_at HST.out).2.2.2.1).1;go_simp;(try with_reducible rfl);done)
   (try dsimp only [Act.put])
   show runC _ _ _ 3 _ [16,17,18] _ _
   try simp only [List.setIfInBounds_toArray,List.set_cons_zero,List.set_cons_succ]
   refine runC_one 16 (by kernel_rfl) (by kernel_rfl) (by rfl) (by rfl) ?_
   obtain ⟨x6,h_⟩:∃ q,q=x5.setRow g6 (insRow I).toArray:=⟨_,rfl⟩
   have hSx6:Below X.heap.size X x6:=by rw [h_];exact Below.setRow hSx5 HG6.out _
   have hIx6:x6.heap[g6]? = some (.cells (insRow I).toArray 40 (0,0)):=by rw [h_];exact setRow_heap _ _ _ _ _ _ hZx5
   refine tdoes_skip (w1:=x6) (by rw [h_];exact exec_store_row 40 _ _ rfl g6 _ rfl rfl 40 _ hZx5 (by kernel_rfl) rfl (by kernel_rfl)) (sameS hSx6 ?_)
   (try dsimp only [Act.put])
   try simp only [List.setIfInBounds_toArray,List.set_cons_zero,List.set_cons_succ]
   clear h_
   show runC _ _ _ 2 _ [17,18] _ _
   refine runC_at 17 (v:=?_) (by rfl) (by rfl) (by rfl) (by kernel_rfl) (by rfl) ?_ ?_
   rotate_left
   focus (intro w_ hw_;have g1_:=(hw_.block _ (lt_of_block HS2.out.1)).trans HS2.out.1;have f1_:=(cell_at g1_ (run_at HST.out).1).1;have f2_:=(cell_at g1_ (run_at HST.out).2.2.2.1).1;go_simp;(try with_reducible rfl);done)
   (try dsimp only [Act.put])
   show runC _ _ _ 1 _ [18] _ _
   try simp only [List.setIfInBounds_toArray,List.set_cons_zero,List.set_cons_succ]
   refine runC_at 18 (v:=?_) (by rfl) (by rfl) (by rfl) (by kernel_rfl) (by rfl) ?_ ?_
   rotate_left
   focus (intro w_ hw_;have g1_:=(hw_.block _ (lt_of_block HS2.out.1)).trans HS2.out.1;have f1_:=(cell_at g1_ (run_at HST.out).1).1;have f2_:=(cell_at g1_ (run_at HST.out).2.2.2.1).1;go_simp;(try with_reducible rfl);done)
   (try dsimp only [Act.put])
   show runC _ _ _ 0 _ [] _ _
   try simp only [List.setIfInBounds_toArray,List.set_cons_zero,List.set_cons_succ]
   refine runC_nil ?_
   have HT4:=Lh ((hSx6.block _ (lt_of_block H4.out)).trans H4.out)
   have HT2:=Lh ((hSx6.block _ (lt_of_block H2.out)).trans H2.out)
   have HTB:=Lh (HBX.out.trans (hSx6.mono HBX.out.size))
   clear hSx6 hIx6
   go_wp2_with (first | (refine wpList_load_row rfl 129 _ rfl (w.heap.size+1) rfl 129 _ (0,0) _ (HT4.out) Tryz.underlying129 rfl (by kernel_rfl) ?_) | (refine wpList_store_row rfl 129 _ _ rfl w.heap.size _ rfl rfl 129 _ (HT2.out) (by kernel_rfl) (by rfl) (by kernel_rfl) ?_))
   refine bodyPost_ret (results2 (ty:=129) rfl _ _ w.heap.size 129 _ (0,0) _ rfl (setRow_heap _ _ _ _ _ _ HT2.out) Tryz.underlying129 rfl (by kernel_rfl)) rfl ⟨rfl,?_⟩
   exact Below.setRow HTB.out (Nat.le_refl _) _
set_option maxHeartbeats 8000000 in
theorem fetch_new {code:List UInt8} {m:Value} {b g k:Nat} {w:World} {s:St} {n err:Int} (h:RunAt code m b g k w s n err) {I:Ins} {nn:Nat} {c:Nat} {D:DataW Value} (ho:w.ownsMap Tryz.prog 23 selfE g c D) (hx:∀ z,D.atKey (.int .u64 s.pc) z=z) (hkn:KnowOk (natsB code) D) (hck:c+1≤k+1) (hcn:c < maxLen) (hfx:fetchF (natsB code) s.pc=some (I,nn)) (HFE:∀ w_,Calls Tryz.prog 10 #[strB code,.int .u64 s.pc] w_ fun e w'=>e=.returned (.tuple #[.agg (insRow I).toArray,.int .i64 nn,.int .i64 0])∧Below w_.heap.size w_ w'):Calls Tryz.prog 67 #[.pointer (some ⟨b,0,none⟩)] w fun e w'=>e=.returned (.tuple #[fetV (I,nn),.bool true])∧RunAt code m b g (k+1) w' s n err∧Chg (fun j=>j=g) w w':=by
 have HKN:=Lh hkn
 have HCK:=Lh hck
 have HCN:=Lh hcn
 have HFX:=Lh hfx
 clear hkn hck hcn hfx
 obtain ⟨X,hX,hx4,hx2,hz4,hbX,hbZ,hnb,hng⟩:=fet_first (b:=b) (g:=g) (cs:=[.int .i64 0,.int .i64 0,.int .i64 0,.int .i64 0,.int .i64 0,.int .i64 0,.int .i64 0,.int .i64 0,.int .i64 0,.int .i64 0].toArray) (lt_of_block h.blk) ho.lt
 have HX:=Lh hX
 have H4:=Lh hx4
 have H2:=Lh hx2
 have HZ4:=Lh hz4
 have HBX:=Lh hbX
 have HBZ:=Lh hbZ
 have HPC:=Lh h.st.pc
 have HFE:=Lh HFE
 have HLT:=Lh (show b < w.heap.size∧g < w.heap.size from ⟨lt_of_block h.blk,ho.lt⟩)
 have HNE:=Lh h.ne
 have HST:=Lh h.st
 have HHX:=Lh hx
 have HS0:=Lh (show (w.alloc (.cells [.int .i64 0,.int .i64 0,.int .i64 0,.int .i64 0,.int .i64 0,.int .i64 0,.int .i64 0,.int .i64 0,.int .i64 0,.int .i64 0].toArray 129)).drew.heap[b]? = some (.cells (runRow s n err (strB code) m g).toArray 68 (0,0))∧(w.alloc (.cells [.int .i64 0,.int .i64 0,.int .i64 0,.int .i64 0,.int .i64 0,.int .i64 0,.int .i64 0,.int .i64 0,.int .i64 0,.int .i64 0].toArray 129)).drew.ownsMap Tryz.prog 23 selfE g c D from ⟨(heap_alloc_old w _ (lt_of_block h.blk)).trans h.blk,(ho.alloc _).drew⟩)
 have HS1:=Lh (show ((w.alloc (.cells [.int .i64 0,.int .i64 0,.int .i64 0,.int .i64 0,.int .i64 0,.int .i64 0,.int .i64 0,.int .i64 0,.int .i64 0,.int .i64 0].toArray 129)).drew.alloc (.cells [.int .i64 0,.int .i64 0,.int .i64 0,.int .i64 0,.int .i64 0,.int .i64 0,.int .i64 0,.int .i64 0,.int .i64 0,.int .i64 0].toArray 129)).heap[b]? = some (.cells (runRow s n err (strB code) m g).toArray 68 (0,0))∧((w.alloc (.cells [.int .i64 0,.int .i64 0,.int .i64 0,.int .i64 0,.int .i64 0,.int .i64 0,.int .i64 0,.int .i64 0,.int .i64 0,.int .i64 0].toArray 129)).drew.alloc (.cells [.int .i64 0,.int .i64 0,.int .i64 0,.int .i64 0,.int .i64 0,.int .i64 0,.int .i64 0,.int .i64 0,.int .i64 0,.int .i64 0].toArray 129)).ownsMap Tryz.prog 23 selfE g c D from ⟨(hbZ.block _ (lt_of_block h.blk)).trans h.blk,own_chgH ho (Chg.of_below (F:=fun _=>False) hbZ) (fun e=>e)⟩)
 have HS2:=Lh (show X.heap[b]? = some (.cells (runRow s n err (strB code) m g).toArray 68 (0,0))∧X.ownsMap Tryz.prog 23 selfE g c D from ⟨(hbX.block _ (lt_of_block h.blk)).trans h.blk,own_chgH ho (Chg.of_below (F:=fun _=>False) hbX) (fun e=>e)⟩)
 clear h ho hx hX hx4 hx2 hz4 hbX hbZ hnb hng
 go_enter Tryz.func67,Tryz.ntmps67
 go_wp2
 (refine wp_region_lines (fun w_=>w_.heap[b]? = some (.cells (runRow s n err (strB code) m g).toArray 68 (0,0))∧w_.ownsMap Tryz.prog 23 selfE g c D) (by kernel_rfl) (by kernel_rfl) HS0.out ?_)
 (try simp only [])
 repeat (first | (refine runL_no (by rfl) ?_;(try simp only [Act.put,List.setIfInBounds_toArray,List.set_cons_zero,List.set_cons_succ])) | (refine runL_val (v:=?_) (by rfl) ?_ ?_;rotate_left;(focus (intro w_ hw_;have f1_:=(cell_at hw_.1 (run_at HST.out).1).1;have f2_:=(cell_at hw_.1 (run_at HST.out).2.2.2.2.2).1;have f3_:=look_miss hw_.2 HPC.out HHX.out;go_simp;(try with_reducible rfl);done));(try simp only [Act.put,List.setIfInBounds_toArray,List.set_cons_zero,List.set_cons_succ])) | (refine runL_op (v:=.pointer (some ⟨w.heap.size+1,0,none⟩)) (w1:=(w.alloc (.cells [.int .i64 0,.int .i64 0,.int .i64 0,.int .i64 0,.int .i64 0,.int .i64 0,.int .i64 0,.int .i64 0,.int .i64 0,.int .i64 0].toArray 129)).drew.alloc (.cells [.int .i64 0,.int .i64 0,.int .i64 0,.int .i64 0,.int .i64 0,.int .i64 0,.int .i64 0,.int .i64 0,.int .i64 0,.int .i64 0].toArray 129)) (by rfl) (by rfl) (exec_alloc rfl ((alloc_fet _).trans (by rw [show (w.alloc (.cells [.int .i64 0,.int .i64 0,.int .i64 0,.int .i64 0,.int .i64 0,.int .i64 0,.int .i64 0,.int .i64 0,.int .i64 0,.int .i64 0].toArray 129)).drew.heap.size=w.heap.size+1 from by show (w.alloc _).heap.size=_;simp]))) (.inr HS1.out) ?_;(try simp only [Act.put,List.setIfInBounds_toArray,List.set_cons_zero,List.set_cons_succ])) | (refine runL_skip (w1:=X) (by rfl) (by rfl) (by rw [HX.out];exact exec_store_row 129 _ _ rfl (w.heap.size+1) _ rfl rfl 129 _ HZ4.out (by kernel_rfl) (by rfl) (by kernel_rfl)) (.inr HS2.out) ?_;(try simp only [Act.put])))
 (refine runL_nil ?_)
 go_wp2
 refine wp_region_grow (Below X.heap.size X) (by kernel_rfl) (by kernel_rfl) (Below.refl _ X).drew ?_
 have hSx0:=(Below.refl X.heap.size X).drew
 obtain ⟨x0,hx0⟩:∃ x0,x0=X.drew:=⟨_,rfl⟩
 rw [←hx0] at hSx0 ⊢
 clear hx0
 show runC _ _ _ 19 _ [0,1,2,3,4,5,6,7,8,9,10,11,12,13,14,15,16,17,18] _ _
 refine runC_at 0 (v:=?_) (by rfl) (by rfl) (by rfl) (by kernel_rfl) (by rfl) ?_ ?_
 rotate_left
 focus (intro w_ hw_;have g1_:=(hw_.block _ (lt_of_block HS2.out.1)).trans HS2.out.1;have f1_:=(cell_at g1_ (run_at HST.out).1).1;have f2_:=(cell_at g1_ (run_at HST.out).2.2.2.1).1;go_simp;(try with_reducible rfl);done)
 (try dsimp only [Act.put])
 show runC _ _ _ 18 _ [1,2,3,4,5,6,7,8,9,10,11,12,13,14,15,16,17,18] _ _
 try simp only [List.setIfInBounds_toArray,List.set_cons_zero,List.set_cons_succ]
 refine runC_at 1 (v:=?_) (by rfl) (by rfl) (by rfl) (by kernel_rfl) (by rfl) ?_ ?_
 rotate_left
 focus (intro w_ hw_;have g1_:=(hw_.block _ (lt_of_block HS2.out.1)).trans HS2.out.1;have f1_:=(cell_at g1_ (run_at HST.out).1).1;have f2_:=(cell_at g1_ (run_at HST.out).2.2.2.1).1;go_simp;(try with_reducible rfl);done)
 (try dsimp only [Act.put])
 show runC _ _ _ 17 _ [2,3,4,5,6,7,8,9,10,11,12,13,14,15,16,17,18] _ _
 try simp only [List.setIfInBounds_toArray,List.set_cons_zero,List.set_cons_succ]
 refine runC_at 2 (v:=?_) (by rfl) (by rfl) (by rfl) (by kernel_rfl) (by rfl) ?_ ?_
 rotate_left
 focus (intro w_ hw_;have g1_:=(hw_.block _ (lt_of_block HS2.out.1)).trans HS2.out.1;have f1_:=(cell_at g1_ (run_at HST.out).1).1;have f2_:=(cell_at g1_ (run_at HST.out).2.2.2.1).1;go_simp;(try with_reducible rfl);done)
 (try dsimp only [Act.put])
 show runC _ _ _ 16 _ [3,4,5,6,7,8,9,10,11,12,13,14,15,16,17,18] _ _
 try simp only [List.setIfInBounds_toArray,List.set_cons_zero,List.set_cons_succ]
 refine runC_at 3 (v:=?_) (by rfl) (by rfl) (by rfl) (by kernel_rfl) (by rfl) ?_ ?_
 rotate_left
 focus (intro w_ hw_;have g1_:=(hw_.block _ (lt_of_block HS2.out.1)).trans HS2.out.1;have f1_:=(cell_at g1_ (run_at HST.out).1).1;have f2_:=(cell_at g1_ (run_at HST.out).2.2.2.1).1;go_simp;(try with_reducible rfl);done)
 (try dsimp only [Act.put])
 show runC _ _ _ 15 _ [4,5,6,7,8,9,10,11,12,13,14,15,16,17,18] _ _
 try simp only [List.setIfInBounds_toArray,List.set_cons_zero,List.set_cons_succ]
 refine runC_at 4 (v:=?_) (by rfl) (by rfl) (by rfl) (by kernel_rfl) (by rfl) ?_ ?_
 rotate_left
 focus (intro w_ hw_;have g1_:=(hw_.block _ (lt_of_block HS2.out.1)).trans HS2.out.1;have f1_:=(cell_at g1_ (run_at HST.out).1).1;have f2_:=(cell_at g1_ (run_at HST.out).2.2.2.1).1;go_simp;(try with_reducible rfl);done)
 (try dsimp only [Act.put])
 show runC _ _ _ 14 _ [5,6,7,8,9,10,11,12,13,14,15,16,17,18] _ _
 try simp only [List.setIfInBounds_toArray,List.set_cons_zero,List.set_cons_succ]
 refine runC_at 5 (v:=?_) (by rfl) (by rfl) (by rfl) (by kernel_rfl) (by rfl) ?_ ?_
 rotate_left
 focus (intro w_ hw_;have g1_:=(hw_.block _ (lt_of_block HS2.out.1)).trans HS2.out.1;have f1_:=(cell_at g1_ (run_at HST.out).1).1;have f2_:=(cell_at g1_ (run_at HST.out).2.2.2.1).1;go_simp;(try with_reducible rfl);done)
 (try dsimp only [Act.put])
 show runC _ _ _ 13 _ [6,7,8,9,10,11,12,13,14,15,16,17,18] _ _
 try simp only [List.setIfInBounds_toArray,List.set_cons_zero,List.set_cons_succ]
 refine runC_at 6 (v:=?_) (by rfl) (by rfl) (by rfl) (by kernel_rfl) (by rfl) ?_ ?_
 rotate_left
 focus (intro w_ hw_;have g1_:=(hw_.block _ (lt_of_block HS2.out.1)).trans HS2.out.1;have f1_:=(cell_at g1_ (run_at HST.out).1).1;have f2_:=(cell_at g1_ (run_at HST.out).2.2.2.1).1;go_simp;(try with_reducible rfl);done)
 (try dsimp only [Act.put])
 show runC _ _ _ 12 _ [7,8,9,10,11,12,13,14,15,16,17,18] _ _
 try simp only [List.setIfInBounds_toArray,List.set_cons_zero,List.set_cons_succ]
 refine runC_at 7 (v:=?_) (by rfl) (by rfl) (by rfl) (by kernel_rfl) (by rfl) ?_ ?_
 rotate_left
 focus (intro w_ hw_;have g1_:=(hw_.block _ (lt_of_block HS2.out.1)).trans HS2.out.1;have f1_:=(cell_at g1_ (run_at HST.out).1).1;have f2_:=(cell_at g1_ (run_at HST.out).2.2.2.1).1;go_simp;(try with_reducible rfl);done)
 (try dsimp only [Act.put])
 show runC _ _ _ 11 _ [8,9,10,11,12,13,14,15,16,17,18] _ _
 try simp only [List.setIfInBounds_toArray,List.set_cons_zero,List.set_cons_succ]
 refine runC_at 8 (v:=?_) (by rfl) (by rfl) (by rfl) (by kernel_rfl) (by rfl) ?_ ?_
 rotate_left
 focus (intro w_ hw_;have g1_:=(hw_.block _ (lt_of_block HS2.out.1)).trans HS2.out.1;have f1_:=(cell_at g1_ (run_at HST.out).1).1;have f2_:=(cell_at g1_ (run_at HST.out).2.2.2.1).1;go_simp;(try with_reducible rfl);done)
 (try dsimp only [Act.put])
 show runC _ _ _ 10 _ [9,10,11,12,13,14,15,16,17,18] _ _
 try simp only [List.setIfInBounds_toArray,List.set_cons_zero,List.set_cons_succ]
 refine runC_at 9 (v:=?_) (by rfl) (by rfl) (by rfl) (by kernel_rfl) (by rfl) ?_ ?_
 rotate_left
 focus (intro w_ hw_;have g1_:=(hw_.block _ (lt_of_block HS2.out.1)).trans HS2.out.1;have f1_:=(cell_at g1_ (run_at HST.out).1).1;have f2_:=(cell_at g1_ (run_at HST.out).2.2.2.1).1;go_simp;(try with_reducible rfl);done)
 (try dsimp only [Act.put])
 show runC _ _ _ 9 _ [10,11,12,13,14,15,16,17,18] _ _
 try simp only [List.setIfInBounds_toArray,List.set_cons_zero,List.set_cons_succ]
 refine runC_two 10 15 (by kernel_rfl) (by kernel_rfl) (by rfl) (by rfl) (by rfl) (by rfl) ?_ ?_
 · refine tdoes_call (f:=?_) (args:=?_) (w1:=?_) ?_ ?_
   rotate_left 3
   focus (go_simp;refine ⟨⟨?_,?_⟩,?_⟩ <;> with_reducible rfl)
   refine (HFE.out x0).mono ?_
   rintro e_ x1 ⟨rfl,hb_⟩
   have hSx1:=hSx0.trans (hb_.mono hSx0.size)
   have HBx1:=Lh hb_
   clear hb_
   (try have hZx1:=(HBx1.out.block _ (lt_of_block hZx0)).trans hZx0)
   refine ⟨_,rfl,sameS hSx1 ?_⟩
   (try dsimp only [Act.put])
   try simp only [List.setIfInBounds_toArray,List.set_cons_zero,List.set_cons_succ]
   show runC _ _ _ 8 _ [11,12,13,14,15,16,17,18] _ _
   refine runC_at 11 (v:=?_) (by rfl) (by rfl) (by rfl) (by kernel_rfl) (by rfl) ?_ ?_
   rotate_left
   focus (intro w_ hw_;have g1_:=(hw_.block _ (lt_of_block HS2.out.1)).trans HS2.out.1;have f1_:=(cell_at g1_ (run_at HST.out).1).1;have f2_:=(cell_at g1_ (run_at HST.out).2.2.2.1).1;go_simp;(try with_reducible rfl);done)
   (try dsimp only [Act.put])
   show runC _ _ _ 7 _ [12,13,14,15,16,17,18] _ _
   try simp only [List.setIfInBounds_toArray,List.set_cons_zero,List.set_cons_succ]
   refine runC_at 12 (v:=?_) (by rfl) (by rfl) (by rfl) (by kernel_rfl) (by rfl) ?_ ?_
   rotate_left
   focus (intro w_ hw_;have g1_:=(hw_.block _ (lt_of_block HS2.out.1)).trans HS2.out.1;have f1_:=(cell_at g1_ (run_at HST.out).1).1;have f2_:=(cell_at g1_ (run_at HST.out).2.2.2.1).1;go_simp;(try with_reducible rfl);done)
   (try dsimp only [Act.put])
   show runC _ _ _ 6 _ [13,14,15,16,17,18] _ _
   try simp only [List.setIfInBounds_toArray,List.set_cons_zero,List.set_cons_succ]
   refine runC_at 13 (v:=?_) (by rfl) (by rfl) (by rfl) (by kernel_rfl) (by rfl) ?_ ?_
   rotate_left
   focus (intro w_ hw_;have g1_:=(hw_.block _ (lt_of_block HS2.out.1)).trans HS2.out.1;have f1_:=(cell_at g1_ (run_at HST.out).1).1;have f2_:=(cell_at g1_ (run_at HST.out).2.2.2.1).1;go_simp;(try with_reducible rfl);done)
   (try dsimp only [Act.put])
   show runC _ _ _ 5 _ [14,15,16,17,18] _ _
   try simp only [List.setIfInBounds_toArray,List.set_cons_zero,List.set_cons_succ]
   refine runC_at 14 (v:=?_) (by rfl) (by rfl) (by rfl) (by kernel_rfl) (by rfl) ?_ ?_
   rotate_left
   focus (intro w_ hw_;have g1_:=(hw_.block _ (lt_of_block HS2.out.1)).trans HS2.out.1;have f1_:=(cell_at g1_ (run_at HST.out).1).1;have f2_:=(cell_at g1_ (run_at HST.out).2.2.2.1).1;go_simp;(try with_reducible rfl);done)
   (try dsimp only [Act.put])
   show runC _ _ _ 4 _ [15,16,17,18] _ _
   try simp only [List.setIfInBounds_toArray,List.set_cons_zero,List.set_cons_succ]
   refine runC_one 15 (by kernel_rfl) (by kernel_rfl) (by rfl) (by rfl) ?_
   obtain ⟨x2,h_⟩:∃ q,q=x1.alloc (.cells insZ.toArray 40):=⟨_,rfl⟩
   obtain ⟨g6,hg6⟩:∃ q,q=x1.heap.size:=⟨_,rfl⟩
   have hSx2:Below X.heap.size X x2:=by rw [h_];exact hSx1.alloc hSx1.size _
   have hZx2:x2.heap[g6]? = some (.cells insZ.toArray 40 (0,0)):=by rw [h_,hg6];exact heap_alloc_new _ _
   have HG6:=Lh (show X.heap.size≤g6 from by rw [hg6];exact hSx1.size)
   refine tdoes_op (w1:=x2) (v:=.pointer (some ⟨g6,0,none⟩)) (by rw [h_,hg6];exact exec_alloc rfl (alloc_insZ x1)) (sameS hSx2 ?_)
   (try dsimp only [Act.put])
   try simp only [List.setIfInBounds_toArray,List.set_cons_zero,List.set_cons_succ]
   clear h_ hg6
   show runC _ _ _ 3 _ [16,17,18] _ _
   refine runC_one 16 (by kernel_rfl) (by kernel_rfl) (by rfl) (by rfl) ?_
   obtain ⟨x3,h_⟩:∃ q,q=x2.setRow g6 (insRow I).toArray:=⟨_,rfl⟩
   have hSx3:Below X.heap.size X x3:=by rw [h_];exact Below.setRow hSx2 HG6.out _
   have hIx3:x3.heap[g6]? = some (.cells (insRow I).toArray 40 (0,0)):=by rw [h_];exact setRow_heap _ _ _ _ _ _ hZx2
   refine tdoes_skip (w1:=x3) (by rw [h_];exact exec_store_row 40 _ _ rfl g6 _ rfl rfl 40 _ hZx2 (by kernel_rfl) rfl (by kernel_rfl)) (sameS hSx3 ?_)
   (try dsimp only [Act.put])
   try simp only [List.setIfInBounds_toArray,List.set_cons_zero,List.set_cons_succ]
   clear h_
   show runC _ _ _ 2 _ [17,18] _ _
   refine runC_at 17 (v:=?_) (by rfl) (by rfl) (by rfl) (by kernel_rfl) (by rfl) ?_ ?_
   rotate_left
   focus (intro w_ hw_;have g1_:=(hw_.block _ (lt_of_block HS2.out.1)).trans HS2.out.1;have f1_:=(cell_at g1_ (run_at HST.out).1).1;have f2_:=(cell_at g1_ (run_at HST.out).2.2.2.1).1;go_simp;(try with_reducible rfl);done)
   (try dsimp only [Act.put])
   show runC _ _ _ 1 _ [18] _ _
   try simp only [List.setIfInBounds_toArray,List.set_cons_zero,List.set_cons_succ]
   refine runC_at 18 (v:=?_) (by rfl) (by rfl) (by rfl) (by kernel_rfl) (by rfl) ?_ ?_
   rotate_left
   focus (intro w_ hw_;have g1_:=(hw_.block _ (lt_of_block HS2.out.1)).trans HS2.out.1;have f1_:=(cell_at g1_ (run_at HST.out).1).1;have f2_:=(cell_at g1_ (run_at HST.out).2.2.2.1).1;go_simp;(try with_reducible rfl);done)
   (try dsimp only [Act.put])
   show runC _ _ _ 0 _ [] _ _
   try simp only [List.setIfInBounds_toArray,List.set_cons_zero,List.set_cons_succ]
   refine runC_nil ?_
   have HT4:=Lh ((hSx3.block _ (lt_of_block H4.out)).trans H4.out)
   have HT2:=Lh ((hSx3.block _ (lt_of_block H2.out)).trans H2.out)
   have HTB:=Lh (HBX.out.trans (hSx3.mono HBX.out.size))
   have hTS:x3.heap[b]? = some (.cells (runRow s n err (strB code) m g).toArray 68 (0,0))∧x3.ownsMap Tryz.prog 23 selfE g c D:=⟨(hSx3.block _ (lt_of_block HS2.out.1)).trans HS2.out.1,own_chgH HS2.out.2 (Chg.of_below (F:=fun _=>False) hSx3) (fun e=>e)⟩
   have HI6:=Lh hIx3
   clear hSx3 hIx3
   obtain ⟨V,hV⟩:∃ q,q=x3.setRow (w.heap.size+1) (insRow I++[Value.int .i64 nn]).toArray:=⟨_,rfl⟩
   have HV4:=Lh (show V.drew.heap[w.heap.size+1]? = some (.cells (insRow I++[Value.int .i64 nn]).toArray 129 (0,0)) from by rw [hV];exact setRow_heap _ _ _ _ _ _ HT4.out)
   have HV2:=Lh (show V.drew.heap[w.heap.size]? = some (.cells [.int .i64 0,.int .i64 0,.int .i64 0,.int .i64 0,.int .i64 0,.int .i64 0,.int .i64 0,.int .i64 0,.int .i64 0,.int .i64 0].toArray 129 (0,0)) from by rw [hV];exact (setRow_other _ _ _ _ (show w.heap.size≠w.heap.size+1 by omega)).trans HT2.out)
   have HVB:=Lh (show Below w.heap.size w V.drew from by rw [hV];exact (Below.setRow HTB.out (Nat.le_succ _) _).drew)
   have hVc:Chg (fun j=>j=w.heap.size+1) x3 V.drew:=by rw [hV];exact ((Chg.refl (fun j=>j=w.heap.size+1) x3).setRow (.inl rfl) _).drew
   have HVS:=Lh (show V.drew.heap[b]? = some (.cells (runRow s n err (strB code) m g).toArray 68 (0,0))∧V.drew.ownsMap Tryz.prog 23 selfE g c D from ⟨(hVc.block _ (lt_of_block hTS.1) (by have:=HLT.out;omega)).trans hTS.1,own_chgH hTS.2 hVc (by have:=HLT.out;omega)⟩)
   have HV:=Lh hV
   clear hV hVc hTS
   obtain ⟨W2,hup,hown2,hgr⟩:=World.ownsMap.update HVS.out.2 keyedU Tryz.underlying66 HCN.out (val:=.agg (insRow I++[Value.int .i64 nn]).toArray) (Go.Maps.keyOf_int_mk Tryz.underlying23 (wfU s.pc HPC.out)) (d:=.held (.agg (insRow I++[Value.int .i64 nn]).toArray)) (ps:=[]) rfl
   have HUP:=Lh hup
   have HW2:=Lh hown2
   have hgc:=chg_grown (F:=fun j=>j=g) hgr (fun j e=>by cases e;rfl)
   have HWC:=Lh hgc
   have HW24:=Lh ((hgc.block _ (lt_of_block HV4.out) (by have:=HLT.out;omega)).trans HV4.out)
   have HW22:=Lh ((hgc.block _ (lt_of_block HV2.out) (by have:=HLT.out;omega)).trans HV2.out)
   have HW2B:=Lh ((hgc.block _ (lt_of_block HVS.out.1) HNE.out).trans HVS.out.1)
   clear hup hown2 hgr hgc
   go_wp2_with (first | (refine wpList_load_row rfl 40 _ rfl (g6) rfl 40 _ (0,0) _ (HI6.out) Tryz.underlying40 rfl (by kernel_rfl) ?_) | (refine wpList_built rfl 129 _ rfl (insRow I++[Value.int .i64 nn]).toArray (by kernel_rfl) ?_) | (refine wpList_store_row rfl 129 _ _ rfl (w.heap.size+1) (insRow I++[Value.int .i64 nn]).toArray rfl rfl 129 _ HT4.out (by kernel_rfl) (by rfl) (by kernel_rfl) ?_;rw [←HV.out]))
   (refine wp_region_lines (fun w_=>(w_.heap[b]? = some (.cells (runRow s n err (strB code) m g).toArray 68 (0,0))∧w_.ownsMap Tryz.prog 23 selfE g c D)∧w_.heap[w.heap.size+1]? = some (.cells (insRow I++[Value.int .i64 nn]).toArray 129 (0,0))) (by kernel_rfl) (by kernel_rfl) ⟨HVS.out,HV4.out⟩ ?_)
   (try simp only [])
   repeat (first | (refine runL_no (by rfl) ?_;(try simp only [Act.put,List.setIfInBounds_toArray,List.set_cons_zero,List.set_cons_succ])) | (refine runL_val (v:=?_) (by rfl) ?_ ?_;rotate_left;(focus (intro w_ hw_;have f1_:=(cell_at hw_.1.1 (run_at HST.out).1).1;have f2_:=(cell_at hw_.1.1 (run_at HST.out).2.2.2.2.2).1;go_simp;(try with_reducible rfl);done));(try simp only [Act.put,List.setIfInBounds_toArray,List.set_cons_zero,List.set_cons_succ])) | (refine runL_val (v:=.agg (insRow I++[Value.int .i64 nn]).toArray) (by rfl) (fun w_ hw_=>exec_load_row 129 _ rfl (w.heap.size+1) rfl _ _ (0,0) hw_.2 _ Tryz.underlying129 rfl (by kernel_rfl)) ?_;(try simp only [Act.put,List.setIfInBounds_toArray,List.set_cons_zero,List.set_cons_succ])) | (refine runL_skip (w1:=W2) (by rfl) (by rfl) (exec_mapUpdate rfl rfl rfl rfl HUP.out) (.inl ⟨rfl,by kernel_rfl⟩) ?_;(try simp only [Act.put])))
   (refine runL_nil ?_)
   go_wp2_with (first | (refine wpList_load_row rfl 129 _ rfl (w.heap.size+1) rfl 129 _ (0,0) _ (HW24.out) Tryz.underlying129 rfl (by kernel_rfl) ?_) | (refine wpList_store_row rfl 129 _ _ rfl w.heap.size _ rfl rfl 129 _ (HW22.out) (by kernel_rfl) (by rfl) (by kernel_rfl) ?_))
   refine bodyPost_ret (results2 (ty:=129) rfl _ _ w.heap.size 129 _ (0,0) _ rfl (setRow_heap _ _ _ _ _ _ HW22.out) Tryz.underlying129 rfl (by kernel_rfl)) rfl ⟨rfl,?_,?_⟩
   · exact ⟨HST.out,HNE.out,(setRow_other _ _ _ _ (by have:=HLT.out;omega)).trans HW2B.out,c+1,_,HCK.out,own_chgH HW2.out ((Chg.refl (fun j=>j=w.heap.size) W2).setRow (.inl rfl) _) (by have:=HLT.out;omega),know_put HKN.out HPC.out HFX.out⟩
   · exact ((Chg.of_below HVB.out).trans' HWC.out (fun q _ hq=>hq)).setRow (.inr (Nat.le_refl _)) _
 · obtain ⟨x4,h_⟩:∃ q,q=x0.alloc (.cells insZ.toArray 40):=⟨_,rfl⟩
   obtain ⟨g6,hg6⟩:∃ q,q=x0.heap.size:=⟨_,rfl⟩
   have hSx4:Below X.heap.size X x4:=by rw [h_];exact hSx0.alloc hSx0.size _
   have hZx4:x4.heap[g6]? = some (.cells insZ.toArray 40 (0,0)):=by rw [h_,hg6];exact heap_alloc_new _ _
   have HG6:=Lh (show X.heap.size≤g6 from by rw [hg6];exact hSx0.size)
   refine tdoes_op (w1:=x4) (v:=.pointer (some ⟨g6,0,none⟩)) (by rw [h_,hg6];exact exec_alloc rfl (alloc_insZ x0)) (sameS hSx4 ?_)
   (try dsimp only [Act.put])
   try simp only [List.setIfInBounds_toArray,List.set_cons_zero,List.set_cons_succ]
   clear h_ hg6
   show runC _ _ _ 8 _ [10,11,12,13,14,16,17,18] _ _
   refine runC_one 10 (by kernel_rfl) (by kernel_rfl) (by rfl) (by rfl) ?_
   refine tdoes_call (f:=?_) (args:=?_) (w1:=?_) ?_ ?_
   rotate_left 3
   focus (go_simp;refine ⟨⟨?_,?_⟩,?_⟩ <;> with_reducible rfl)
   refine (HFE.out x4).mono ?_
   rintro e_ x5 ⟨rfl,hb_⟩
   have hSx5:=hSx4.trans (hb_.mono hSx4.size)
   have HBx5:=Lh hb_
   clear hb_
   (try have hZx5:=(HBx5.out.block _ (lt_of_block hZx4)).trans hZx4)
   refine ⟨_,rfl,sameS hSx5 ?_⟩
   (try dsimp only [Act.put])
   try simp only [List.setIfInBounds_toArray,List.set_cons_zero,List.set_cons_succ]
   show runC _ _ _ 7 _ [11,12,13,14,16,17,18] _ _
   refine runC_at 11 (v:=?_) (by rfl) (by rfl) (by rfl) (by kernel_rfl) (by rfl) ?_ ?_
   rotate_left
   focus (intro w_ hw_;have g1_:=(hw_.block _ (lt_of_block HS2.out.1)).trans HS2.out.1;have f1_:=(cell_at g1_ (run_at HST.out).1).1;have f2_:=(cell_at g1_ (run_at HST.out).2.2.2.1).1;go_simp;(try with_reducible rfl);done)
   (try dsimp only [Act.put])
   show runC _ _ _ 6 _ [12,13,14,16,17,18] _ _
   try simp only [List.setIfInBounds_toArray,List.set_cons_zero,List.set_cons_succ]
   refine runC_at 12 (v:=?_) (by rfl) (by rfl) (by rfl) (by kernel_rfl) (by rfl) ?_ ?_
   rotate_left
   focus (intro w_ hw_;have g1_:=(hw_.block _ (lt_of_block HS2.out.1)).trans HS2.out.1;have f1_:=(cell_at g1_ (run_at HST.out).1).1;have f2_:=(cell_at g1_ (run_at HST.out).2.2.2.1).1;go_simp;(try with_reducible rfl);done)
   (try dsimp only [Act.put])
   show runC _ _ _ 5 _ [13,14,16,17,18] _ _
   try simp only [List.setIfInBounds_toArray,List.set_cons_zero,List.set_cons_succ]
   refine runC_at 13 (v:=?_) (by rfl) (by rfl) (by rfl) (by kernel_rfl) (by rfl) ?_ ?_
   rotate_left
   focus (intro w_ hw_;have g1_:=(hw_.block _ (lt_of_block HS2.out.1)).trans HS2.out.1;have f1_:=(cell_at g1_ (run_at HST.out).1).1;have f2_:=(cell_at g1_ (run_at HST.out).2.2.2.1).1;go_simp;(try with_reducible rfl);done)
   (try dsimp only [Act.put])
   show runC _ _ _ 4 _ [14,16,17,18] _ _
   try simp only [List.setIfInBounds_toArray,List.set_cons_zero,List.set_cons_succ]
   refine runC_at 14 (v:=?_) (by rfl) (by rfl) (by rfl) (by kernel_rfl) (by rfl) ?_ ?_
   rotate_left
   focus (intro w_ hw_;have g1_:=(hw_.block _ (lt_of_block HS2.out.1)).trans HS2.out.1;have f1_:=(cell_at g1_ (run_at HST.out).1).1;have f2_:=(cell_at g1_ (run_at HST.out).2.2.2.1).1;go_simp;(try with_reducible rfl);done)
   (try dsimp only [Act.put])
   show runC _ _ _ 3 _ [16,17,18] _ _
   try simp only [List.setIfInBounds_toArray,List.set_cons_zero,List.set_cons_succ]
   refine runC_one 16 (by kernel_rfl) (by kernel_rfl) (by rfl) (by rfl) ?_
   obtain ⟨x6,h_⟩:∃ q,q=x5.setRow g6 (insRow I).toArray:=⟨_,rfl⟩
   have hSx6:Below X.heap.size X x6:=by rw [h_];exact Below.setRow hSx5 HG6.out _
   have hIx6:x6.heap[g6]? = some (.cells (insRow I).toArray 40 (0,0)):=by rw [h_];exact setRow_heap _ _ _ _ _ _ hZx5
   refine tdoes_skip (w1:=x6) (by rw [h_];exact exec_store_row 40 _ _ rfl g6 _ rfl rfl 40 _ hZx5 (by kernel_rfl) rfl (by kernel_rfl)) (sameS hSx6 ?_)
   (try dsimp only [Act.put])
   try simp only [List.setIfInBounds_toArray,List.set_cons_zero,List.set_cons_succ]
   clear h_
   show runC _ _ _ 2 _ [17,18] _ _
   refine runC_at 17 (v:=?_) (by rfl) (by rfl) (by rfl) (by kernel_rfl) (by rfl) ?_ ?_
   rotate_left
   focus (intro w_ hw_;have g1_:=(hw_.block _ (lt_of_block HS2.out.1)).trans HS2.out.1;have f1_:=(cell_at g1_ (run_at HST.out).1).1;have f2_:=(cell_at g1_ (run_at HST.out).2.2.2.1).1;go_simp;(try with_reducible rfl);done)
   (try dsimp only [Act.put])
   show runC _ _ _ 1 _ [18] _ _
   try simp only [List.setIfInBounds_toArray,List.set_cons_zero,List.set_cons_succ]
   refine runC_at 18 (v:=?_) (by rfl) (by rfl) (by rfl) (by kernel_rfl) (by rfl) ?_ ?_
   rotate_left
   focus (intro w_ hw_;have g1_:=(hw_.block _ (lt_of_block HS2.out.1)).trans HS2.out.1;have f1_:=(cell_at g1_ (run_at HST.out).1).1;have f2_:=(cell_at g1_ (run_at HST.out).2.2.2.1).1;go_simp;(try with_reducible rfl);done)
   (try dsimp only [Act.put])
   show runC _ _ _ 0 _ [] _ _
   try simp only [List.setIfInBounds_toArray,List.set_cons_zero,List.set_cons_succ]
   refine runC_nil ?_
   have HT4:=Lh ((hSx6.block _ (lt_of_block H4.out)).trans H4.out)
   have HT2:=Lh ((hSx6.block _ (lt_of_block H2.out)).trans H2.out)
   have HTB:=Lh (HBX.out.trans (hSx6.mono HBX.out.size))
   have hTS:x6.heap[b]? = some (.cells (runRow s n err (strB code) m g).toArray 68 (0,0))∧x6.ownsMap Tryz.prog 23 selfE g c D:=⟨(hSx6.block _ (lt_of_block HS2.out.1)).trans HS2.out.1,own_chgH HS2.out.2 (Chg.of_below (F:=fun _=>False) hSx6) (fun e=>e)⟩
   have HI6:=Lh hIx6
   clear hSx6 hIx6
   obtain ⟨V,hV⟩:∃ q,q=x6.setRow (w.heap.size+1) (insRow I++[Value.int .i64 nn]).toArray:=⟨_,rfl⟩
   have HV4:=Lh (show V.drew.heap[w.heap.size+1]? = some (.cells (insRow I++[Value.int .i64 nn]).toArray 129 (0,0)) from by rw [hV];exact setRow_heap _ _ _ _ _ _ HT4.out)
   have HV2:=Lh (show V.drew.heap[w.heap.size]? = some (.cells [.int .i64 0,.int .i64 0,.int .i64 0,.int .i64 0,.int .i64 0,.int .i64 0,.int .i64 0,.int .i64 0,.int .i64 0,.int .i64 0].toArray 129 (0,0)) from by rw [hV];exact (setRow_other _ _ _ _ (show w.heap.size≠w.heap.size+1 by omega)).trans HT2.out)
   have HVB:=Lh (show Below w.heap.size w V.drew from by rw [hV];exact (Below.setRow HTB.out (Nat.le_succ _) _).drew)
   have hVc:Chg (fun j=>j=w.heap.size+1) x6 V.drew:=by rw [hV];exact ((Chg.refl (fun j=>j=w.heap.size+1) x6).setRow (.inl rfl) _).drew
   have HVS:=Lh (show V.drew.heap[b]? = some (.cells (runRow s n err (strB code) m g).toArray 68 (0,0))∧V.drew.ownsMap Tryz.prog 23 selfE g c D from ⟨(hVc.block _ (lt_of_block hTS.1) (by have:=HLT.out;omega)).trans hTS.1,own_chgH hTS.2 hVc (by have:=HLT.out;omega)⟩)
   have HV:=Lh hV
   clear hV hVc hTS
   obtain ⟨W2,hup,hown2,hgr⟩:=World.ownsMap.update HVS.out.2 keyedU Tryz.underlying66 HCN.out (val:=.agg (insRow I++[Value.int .i64 nn]).toArray) (Go.Maps.keyOf_int_mk Tryz.underlying23 (wfU s.pc HPC.out)) (d:=.held (.agg (insRow I++[Value.int .i64 nn]).toArray)) (ps:=[]) rfl
   have HUP:=Lh hup
   have HW2:=Lh hown2
   have hgc:=chg_grown (F:=fun j=>j=g) hgr (fun j e=>by cases e;rfl)
   have HWC:=Lh hgc
   have HW24:=Lh ((hgc.block _ (lt_of_block HV4.out) (by have:=HLT.out;omega)).trans HV4.out)
   have HW22:=Lh ((hgc.block _ (lt_of_block HV2.out) (by have:=HLT.out;omega)).trans HV2.out)
   have HW2B:=Lh ((hgc.block _ (lt_of_block HVS.out.1) HNE.out).trans HVS.out.1)
   clear hup hown2 hgr hgc
   go_wp2_with (first | (refine wpList_load_row rfl 40 _ rfl (g6) rfl 40 _ (0,0) _ (HI6.out) Tryz.underlying40 rfl (by kernel_rfl) ?_) | (refine wpList_built rfl 129 _ rfl (insRow I++[Value.int .i64 nn]).toArray (by kernel_rfl) ?_) | (refine wpList_store_row rfl 129 _ _ rfl (w.heap.size+1) (insRow I++[Value.int .i64 nn]).toArray rfl rfl 129 _ HT4.out (by kernel_rfl) (by rfl) (by kernel_rfl) ?_;rw [←HV.out]))
   (refine wp_region_lines (fun w_=>(w_.heap[b]? = some (.cells (runRow s n err (strB code) m g).toArray 68 (0,0))∧w_.ownsMap Tryz.prog 23 selfE g c D)∧w_.heap[w.heap.size+1]? = some (.cells (insRow I++[Value.int .i64 nn]).toArray 129 (0,0))) (by kernel_rfl) (by kernel_rfl) ⟨HVS.out,HV4.out⟩ ?_)
   (try simp only [])
   repeat (first | (refine runL_no (by rfl) ?_;(try simp only [Act.put,List.setIfInBounds_toArray,List.set_cons_zero,List.set_cons_succ])) | (refine runL_val (v:=?_) (by rfl) ?_ ?_;rotate_left;(focus (intro w_ hw_;have f1_:=(cell_at hw_.1.1 (run_at HST.out).1).1;have f2_:=(cell_at hw_.1.1 (run_at HST.out).2.2.2.2.2).1;go_simp;(try with_reducible rfl);done));(try simp only [Act.put,List.setIfInBounds_toArray,List.set_cons_zero,List.set_cons_succ])) | (refine runL_val (v:=.agg (insRow I++[Value.int .i64 nn]).toArray) (by rfl) (fun w_ hw_=>exec_load_row 129 _ rfl (w.heap.size+1) rfl _ _ (0,0) hw_.2 _ Tryz.underlying129 rfl (by kernel_rfl)) ?_;(try simp only [Act.put,List.setIfInBounds_toArray,List.set_cons_zero,List.set_cons_succ])) | (refine runL_skip (w1:=W2) (by rfl) (by rfl) (exec_mapUpdate rfl rfl rfl rfl HUP.out) (.inl ⟨rfl,by kernel_rfl⟩) ?_;(try simp only [Act.put])))
   (refine runL_nil ?_)
   go_wp2_with (first | (refine wpList_load_row rfl 129 _ rfl (w.heap.size+1) rfl 129 _ (0,0) _ (HW24.out) Tryz.underlying129 rfl (by kernel_rfl) ?_) | (refine wpList_store_row rfl 129 _ _ rfl w.heap.size _ rfl rfl 129 _ (HW22.out) (by kernel_rfl) (by rfl) (by kernel_rfl) ?_))
   refine bodyPost_ret (results2 (ty:=129) rfl _ _ w.heap.size 129 _ (0,0) _ rfl (setRow_heap _ _ _ _ _ _ HW22.out) Tryz.underlying129 rfl (by kernel_rfl)) rfl ⟨rfl,?_,?_⟩
   · exact ⟨HST.out,HNE.out,(setRow_other _ _ _ _ (by have:=HLT.out;omega)).trans HW2B.out,c+1,_,HCK.out,own_chgH HW2.out ((Chg.refl (fun j=>j=w.heap.size) W2).setRow (.inl rfl) _) (by have:=HLT.out;omega),know_put HKN.out HPC.out HFX.out⟩
   · exact ((Chg.of_below HVB.out).trans' HWC.out (fun q _ hq=>hq)).setRow (.inr (Nat.le_refl _)) _
end Go.Proofs.YtocndimihokcmaaGreat
