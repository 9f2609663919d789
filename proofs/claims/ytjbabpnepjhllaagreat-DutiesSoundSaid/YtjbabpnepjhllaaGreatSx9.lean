/- Part 9 of a claim; what it proves stands in its last text. -/
import Derived.Test.YtjbabpnepjhllaaGreatSx8
namespace Go.Proofs.YtjbabpnepjhllaaGreat
open Go.RowKit
theorem below_setRow {b:Nat} {w w':World} (h:Below b w w') {g:Nat} (hg:b≤g) (cs:Array Value):Below b w (w'.setRow g cs) :=
 ⟨h.os,h.tape,h.output,by rw [show (w'.setRow g cs).heap.size=w'.heap.size by simp [World.setRow]];exact h.size,fun k hk=>by rw [setRow_other _ _ _ _ (by omega)];exact h.block k hk⟩
theorem of2_any (v:Int) (w:World):Calls Tryz.prog 133 #[.int .i64 v] w fun e w'=>e=.returned (.agg #[.int .i64 1,.int .i64 v,.int .i64 (-1)])∧Below w.heap.size w w':=by
 have HA:=Lh alone_any
 go_enter Tryz.func133,Tryz.ntmps133
 go_wp2_with (first
   | ((with_reducible refine (HA.out _ _ _).mono ?_);rintro e w1 ⟨rfl,hb1⟩
      have hbk:w1.heap[w.heap.size]? = some (.cells #[.int .i64 0,.int .i64 0,.int .i64 0] 45 (0,0)):=(hb1.block _ (by simp)).trans (heap_alloc_new w _)
      have HBK:=Lh hbk
      have HB1:=Lh hb1
      clear hbk hb1)
   | (refine wpList_store_row rfl 45 _ _ rfl w.heap.size _ rfl rfl 45 #[.int .i64 0,.int .i64 0,.int .i64 0] HBK.out (by kernel_rfl) (by rfl) (by kernel_rfl) ?_)
   | go_in)
 refine bodyPost_ret (results_cell_row (ty:=45) rfl _ _ w.heap.size 45 _ (0,0) _ rfl (setRow_heap _ _ _ _ _ _ HBK.out) Tryz.underlying45 rfl (by kernel_rfl)) rfl ⟨rfl,?_⟩
 exact below_setRow (((Below.refl _ _).alloc (Nat.le_refl _) _).trans (HB1.out.mono (by simp))) (Nat.le_refl _) _
theorem of3_any (v:Int) (w:World):Calls Tryz.prog 134 #[.int .i64 v] w fun e w'=>e=.returned (.agg #[.int .i64 3,.int .i64 v,.int .i64 (-1)])∧Below w.heap.size w w':=by
 have HA:=Lh alone_any
 go_enter Tryz.func134,Tryz.ntmps134
 go_wp2_with (first
   | ((with_reducible refine (HA.out _ _ _).mono ?_);rintro e w1 ⟨rfl,hb1⟩
      have hbk:w1.heap[w.heap.size]? = some (.cells #[.int .i64 0,.int .i64 0,.int .i64 0] 45 (0,0)):=(hb1.block _ (by simp)).trans (heap_alloc_new w _)
      have HBK:=Lh hbk
      have HB1:=Lh hb1
      clear hbk hb1)
   | (refine wpList_store_row rfl 45 _ _ rfl w.heap.size _ rfl rfl 45 #[.int .i64 0,.int .i64 0,.int .i64 0] HBK.out (by kernel_rfl) (by rfl) (by kernel_rfl) ?_)
   | go_in)
 refine bodyPost_ret (results_cell_row (ty:=45) rfl _ _ w.heap.size 45 _ (0,0) _ rfl (setRow_heap _ _ _ _ _ _ HBK.out) Tryz.underlying45 rfl (by kernel_rfl)) rfl ⟨rfl,?_⟩
 exact below_setRow (((Below.refl _ _).alloc (Nat.le_refl _) _).trans (HB1.out.mono (by simp))) (Nat.le_refl _) _
theorem of4_any (v y:Int) (B:Nat) (w:World) (hy:w.cell? ⟨B,0,none⟩=some (.int .i64 y)) (hB:B < w.heap.size):Calls Tryz.prog 135 #[.int .i64 v,.pointer (some ⟨B,0,none⟩)] w fun e w'=>e=.returned (.agg #[.int .i64 2,.int .i64 v,.int .i64 y])∧Below w.heap.size w w':=by
 have HA:=Lh less_any
 go_enter Tryz.func135,Tryz.ntmps135
 go_wp2_with (first
   | ((with_reducible refine (HA.out _ _ _).mono ?_);rintro e w1 ⟨rfl,hb1⟩
      have hbk:w1.heap[w.heap.size]? = some (.cells #[.int .i64 0,.int .i64 0,.int .i64 0] 45 (0,0)):=(hb1.block _ (by simp)).trans (heap_alloc_new w _)
      have HBK:=Lh hbk
      have HB1:=Lh hb1
      clear hbk hb1)
   | (refine wpList_store_row rfl 45 _ _ rfl w.heap.size _ rfl rfl 45 #[.int .i64 0,.int .i64 0,.int .i64 0] HBK.out (by kernel_rfl) (by rfl) (by kernel_rfl) ?_)
   | go_in)
 refine bodyPost_ret (results_cell_row (ty:=45) rfl _ _ w.heap.size 45 _ (0,0) _ rfl (setRow_heap _ _ _ _ _ _ HBK.out) Tryz.underlying45 rfl (by kernel_rfl)) rfl ⟨rfl,?_⟩
 exact below_setRow (((Below.refl _ _).alloc (Nat.le_refl _) _).trans (HB1.out.mono (by simp))) (Nat.le_refl _) _
theorem of5_any (v y:Int) (B:Nat) (w:World) (hy:w.cell? ⟨B,0,none⟩=some (.int .i64 y)) (hB:B < w.heap.size):Calls Tryz.prog 136 #[.int .i64 v,.pointer (some ⟨B,0,none⟩)] w fun e w'=>e=.returned (.agg #[.int .i64 2,.int .i64 y,.int .i64 v])∧Below w.heap.size w w':=by
 have HA:=Lh less_any
 go_enter Tryz.func136,Tryz.ntmps136
 go_wp2_with (first
   | ((with_reducible refine (HA.out _ _ _).mono ?_);rintro e w1 ⟨rfl,hb1⟩
      have hbk:w1.heap[w.heap.size]? = some (.cells #[.int .i64 0,.int .i64 0,.int .i64 0] 45 (0,0)):=(hb1.block _ (by simp)).trans (heap_alloc_new w _)
      have HBK:=Lh hbk
      have HB1:=Lh hb1
      clear hbk hb1)
   | (refine wpList_store_row rfl 45 _ _ rfl w.heap.size _ rfl rfl 45 #[.int .i64 0,.int .i64 0,.int .i64 0] HBK.out (by kernel_rfl) (by rfl) (by kernel_rfl) ?_)
   | go_in)
 refine bodyPost_ret (results_cell_row (ty:=45) rfl _ _ w.heap.size 45 _ (0,0) _ rfl (setRow_heap _ _ _ _ _ _ HBK.out) Tryz.underlying45 rfl (by kernel_rfl)) rfl ⟨rfl,?_⟩
 exact below_setRow (((Below.refl _ _).alloc (Nat.le_refl _) _).trans (HB1.out.mono (by simp))) (Nat.le_refl _) _
end Go.Proofs.YtjbabpnepjhllaaGreat
namespace Go.Proofs.YtjbabpnepjhllaaGreat
open Go.RowKit
variable {o:Oper} {a:Act} {w:World}
theorem exec_fact1 {f:Fct} (x:Operand) (ho:o.op=.buildSlice 39 1 #[(0,x)]) (hx:a.eval x=.agg #[.int .i64 f.kind,.int .i64 f.a,.int .i64 f.b]) :
   (execOp a.eval o).run Tryz.prog w=.ok (.value (.slice (some ⟨w.heap.size,0,none⟩) 1 1)) (w.alloc (.cells (factRow f).toArray 45)):=by
 obtain ⟨j0,hie,hy0,hy1,hy2⟩:=info_parts infoFact
 have h:=run_buildSlice (P:=Tryz.prog) w 39 45 1 #[(0,.agg #[.int .i64 f.kind,.int .i64 f.a,.int .i64 f.b])] #[.int .i64 f.kind,.int .i64 f.a,.int .i64 f.b] j0 _ Tryz.underlying39 hie hy0 (by rw [hy1];decide) (by rw [hy1];decide) (by rw [hy1];kernel_rfl)
 unfold execOp
 simp only [ho,hx,List.map_toArray,List.map_cons,List.map_nil,Sem.run_bind,h,Result.andThen_ok,Sem.run_pure,factRow]
theorem exec_appendF {base n:Nat} {v:Value} {l:List Fct} {f:Fct} {g:Nat} (s x:Operand) (ho:o.op=.call { callee:=.builtin .append,args:=#[s,x],argTypes:=#[39,39] })
   (hs:a.eval s=v) (hown:w.ownsRow base 45 3 v n (cellsOfF l)) (hx:a.eval x=.slice (some ⟨g,0,none⟩) 1 1) (hg:w.heap[g]? = some (.cells (factRow f).toArray 45 (0,0))) (h63:n≤1000000) (hbase:base≤w.heap.size) :
   ∃ v' w',(execOp a.eval o).run Tryz.prog w=.ok (.value v') w'∧w'.ownsRow base 45 3 v' (n+1) (cellsOfF (l++[f]))∧w.grownBy w' v.ownBlock∧(v'.ownBlock=v.ownBlock∨v'.ownBlock=some w.heap.size):=by
 obtain ⟨j0,hie,hy0,hy1,hy2⟩:=info_parts infoFact
 obtain ⟨v',w',h1,h2,h3,_,h5⟩:=run_append_own_at (P:=Tryz.prog) w base 39 o.type 45 j0 (.agg #[.int .i64 0,.int .i64 0,.int .i64 0]) 3 24 Tryz.underlying39 hie hy0 hy1 hy2 rfl (by decide) v n (cellsOfF l) hown ⟨g,0,none⟩ 1 1 (factRow f) rfl
   (by simpa using World.news_of_block (cs:=(factRow f).toArray) (t:=45) (fr:=(0,0)) hg) (by simp [Value.oneCell',factRow]) (by unfold maxLen;omega) (by omega) hbase
 refine ⟨v',w',?_,by rw [cellsOf_snoc];exact h2,h3,h5⟩
 unfold execOp
 simp only [ho,resolve,invoke,builtin,hs,hx,List.map_toArray,List.map_cons,List.map_nil,Sem.run_bind,h1,Result.andThen_ok,Sem.run_pure]
theorem runL_appendF {ops:Array Oper} {Q:Act→World→Prop} {S:World→Prop} {o:Oper} {l:List Oper} {a:Act} {w:World} (hT:isT o=true) (hw:Region.wanted o (yielded ops a.tmps)=true) {base n:Nat} {v:Value} {xs:List Fct} {f:Fct} {g:Nat}
   (s x:Operand) (ho:o.op=.call { callee:=.builtin .append,args:=#[s,x],argTypes:=#[39,39] }) (hs:a.eval s=v) (hown:w.ownsRow base 45 3 v n (cellsOfF xs)) (hx:a.eval x=.slice (some ⟨g,0,none⟩) 1 1)
   (hg:w.heap[g]? = some (.cells (factRow f).toArray 45 (0,0))) (h63:n≤1000000) (hbase:base≤w.heap.size)
   (k:∀ v' w',w'.ownsRow base 45 3 v' (n+1) (cellsOfF (xs++[f]))→w.grownBy w' v.ownBlock→(v'.ownBlock=v.ownBlock∨v'.ownBlock=some w.heap.size)→S w'∧runL Tryz.prog ops S Q l (a.put o.dst v') w'):runL Tryz.prog ops S Q (o :: l) a w:=by
 obtain ⟨v',w',h1,h2,h3,h4⟩:=exec_appendF s x ho hs hown hx hg h63 hbase
 obtain ⟨k1,k2⟩:=k v' w' h2 h3 h4
 exact runL_op hT hw h1 (.inr k1) k2
end Go.Proofs.YtjbabpnepjhllaaGreat
namespace Go.Proofs.YtjbabpnepjhllaaGreat
open Go.RowKit
set_option maxRecDepth 100000
structure AskAt (w:World) (K:Nat→Prop) (bl ba bb bt:Nat) (vl vt:Value) (l:List Fct) (a b:Int) (told:List Int):Prop where
 cl:w.cell? ⟨bl,0,none⟩=some vl
 ca:w.cell? ⟨ba,0,none⟩=some (.int .i64 a)
 cb:w.cell? ⟨bb,0,none⟩=some (.int .i64 b)
 ct:w.cell? ⟨bt,0,none⟩=some vt
 kl:K bl
 ka:K ba
 kb:K bb
 kt:K bt
 fl:FactsAt w K vl l
 ft:NumsAt w K vt told
 lt:∀ k,K k→k < w.heap.size
structure AskTo (K:Nat→Prop) (w w':World):Prop where
 same:SameOn K w w'
 size:w.heap.size≤w'.heap.size
theorem AskTo.refl (K:Nat→Prop) (w:World):AskTo K w w:=⟨SameOn.refl _ _,Nat.le_refl _⟩
theorem AskTo.drew {K:Nat→Prop} {w w':World} (h:AskTo K w w'):AskTo K w w'.drew:=⟨h.same,h.size⟩
theorem AskTo.below {K:Nat→Prop} {w w1 w2:World} (h:AskTo K w w1) (hb:Below w1.heap.size w1 w2) (hK:∀ k,K k→k < w.heap.size):AskTo K w w2 :=
 ⟨h.same.trans (SameOn.of_below hb fun k hk=>Nat.lt_of_lt_of_le (hK k hk) h.size),Nat.le_trans h.size hb.size⟩
theorem AskAt.to {w w':World} {K:Nat→Prop} {bl ba bb bt:Nat} {vl vt:Value} {l:List Fct} {a b:Int} {told:List Int} (h:AskAt w K bl ba bb bt vl vt l a b told) (ht:AskTo K w w'):AskAt w' K bl ba bb bt vl vt l a b told :=
 ⟨(World.cell?_of_block (ht.same _ h.kl)).trans h.cl,(World.cell?_of_block (ht.same _ h.ka)).trans h.ca,(World.cell?_of_block (ht.same _ h.kb)).trans h.cb,(World.cell?_of_block (ht.same _ h.kt)).trans h.ct,h.kl,h.ka,h.kb,h.kt,Rows.keep h.fl ht.same,Rows.keep h.ft ht.same,fun k hk=>Nat.lt_of_lt_of_le (h.lt k hk) ht.size⟩
def OfOk (K:Nat→Prop) (w:World) (g:Nat) (cap:Array Value) (φ:Int→Fct):Prop :=
 ∀ (v:Int) (W:World),AskTo K w W→Calls Tryz.prog g (#[.int .i64 v]++cap) W fun e w'=>e=.returned (.agg #[.int .i64 (φ v).kind,.int .i64 (φ v).a,.int .i64 (φ v).b])∧Below W.heap.size W w'
theorem AskTo.of {K:Nat→Prop} {w w':World} (hK:∀ k,K k→k < w.heap.size) (h:Below w.heap.size w w'):AskTo K w w':=⟨SameOn.of_below h hK,h.size⟩
set_option maxHeartbeats 4000000 in
theorem ask_no (g:Nat) (cap:Array Value) (φ:Int→Fct) (w:World) (K:Nat→Prop) (bl ba bb bt bo:Nat) (Al:Option Addr) (nl cl:Nat) (vt:Value) (l:List Fct) (a b:Int) (told:List Int) (eg:∀ args w,(callFunc g args).run Tryz.prog w=.ok (.enter g args) w)
   (h:AskAt w K bl ba bb bt (.slice Al nl cl) vt l a b told) (hof:OfOk K w g cap φ) (hn:l.length≤100000) (hno:(knowsF l (φ a) && knowsF l (φ b))=false) :
   Calls Tryz.prog 132 #[.func (.func g) #[] cap,.pointer (some ⟨bl,0,none⟩),.pointer (some ⟨ba,0,none⟩),.pointer (some ⟨bb,0,none⟩),.pointer (some ⟨bt,0,none⟩),.pointer (some ⟨bo,0,none⟩)] w fun e w'=>e=.returned (.tuple #[])∧Below w.heap.size w w':=by
 have HC:=Lh h
 have HOF:=Lh hof
 have HLT:=Lh h.lt
 have HKA:=Lh (show ∀ W,AskTo K w W→Calls Tryz.prog 19 #[.slice Al nl cl,.agg #[.int .i64 (φ a).kind,.int .i64 (φ a).a,.int .i64 (φ a).b]] W fun e w'=>e=.returned (.bool (knowsF l (φ a)))∧Below W.heap.size W w' from fun W hW=>Knows_any _ _ l W K ((h.to hW).fl) (h.to hW).lt hn)
 have HKB:=Lh (show ∀ W,AskTo K w W→Calls Tryz.prog 19 #[.slice Al nl cl,.agg #[.int .i64 (φ b).kind,.int .i64 (φ b).a,.int .i64 (φ b).b]] W fun e w'=>e=.returned (.bool (knowsF l (φ b)))∧Below W.heap.size W w' from fun W hW=>Knows_any _ _ l W K ((h.to hW).fl) (h.to hW).lt hn)
 generalize knowsF l (φ a)=p at HKA hno
 generalize knowsF l (φ b)=q at HKB hno
 clear h hof hn
 cases p
 · clear hno
   go_enter Tryz.func132,Tryz.ntmps132
   go_wp2
   have hS:=(Below.refl w.heap.size w).drew
   (refine wp_region_lines (Below w.heap.size w) (by kernel_rfl) (by kernel_rfl) (Below.refl w.heap.size w).drew ?_)
   (try simp only [])
   repeat (first | (refine runL_no (by rfl) ?_;(try simp only [Act.put,List.setIfInBounds_toArray,List.set_cons_zero,List.set_cons_succ])) | (refine runL_val (v:=?_) (by rfl) ?_ ?_;rotate_left;(focus (intro w_ hw_;have hc_:=HC.out.to (AskTo.of HLT.out hw_);have c0_:=hc_.cl;have c1_:=hc_.ca;have c2_:=hc_.cb;go_simp;(try with_reducible rfl);done));(try simp only [Act.put,List.setIfInBounds_toArray,List.set_cons_zero,List.set_cons_succ])) | (refine runL_call (f:=?_) (args:=?_) (w1:=?_) (by rfl) (by rfl) ?_ ?_;rotate_left 3;(focus (go_simp;refine ⟨⟨?_,?_⟩,?_⟩ <;> with_reducible rfl));(first | (go_at_fn g;refine (HOF.out a _ (AskTo.of HLT.out hS)).mono ?_) | (go_at_fn g;refine (HOF.out b _ (AskTo.of HLT.out hS)).mono ?_) | (with_reducible refine (HKA.out _ (AskTo.of HLT.out hS)).mono ?_) | (with_reducible refine (HKB.out _ (AskTo.of HLT.out hS)).mono ?_));rintro e w1 ⟨rfl,hb1⟩;replace hS:=hS.trans (hb1.mono hS.size);clear hb1;refine ⟨_,rfl,.inr hS,?_⟩;(try simp only [Act.put,List.setIfInBounds_toArray,List.set_cons_zero,List.set_cons_succ])))
   (refine runL_nil ?_)
   go_wp2
   go_end0
   exact ⟨rfl,hS⟩
 · cases q
   · clear hno
     go_enter Tryz.func132,Tryz.ntmps132
     go_wp2
     have hS:=(Below.refl w.heap.size w).drew
     (refine wp_region_lines (Below w.heap.size w) (by kernel_rfl) (by kernel_rfl) (Below.refl w.heap.size w).drew ?_)
     (try simp only [])
     repeat (first | (refine runL_no (by rfl) ?_;(try simp only [Act.put,List.setIfInBounds_toArray,List.set_cons_zero,List.set_cons_succ])) | (refine runL_val (v:=?_) (by rfl) ?_ ?_;rotate_left;(focus (intro w_ hw_;have hc_:=HC.out.to (AskTo.of HLT.out hw_);have c0_:=hc_.cl;have c1_:=hc_.ca;have c2_:=hc_.cb;go_simp;(try with_reducible rfl);done));(try simp only [Act.put,List.setIfInBounds_toArray,List.set_cons_zero,List.set_cons_succ])) | (refine runL_call (f:=?_) (args:=?_) (w1:=?_) (by rfl) (by rfl) ?_ ?_;rotate_left 3;(focus (go_simp;refine ⟨⟨?_,?_⟩,?_⟩ <;> with_reducible rfl));(first | (go_at_fn g;refine (HOF.out a _ (AskTo.of HLT.out hS)).mono ?_) | (go_at_fn g;refine (HOF.out b _ (AskTo.of HLT.out hS)).mono ?_) | (with_reducible refine (HKA.out _ (AskTo.of HLT.out hS)).mono ?_) | (with_reducible refine (HKB.out _ (AskTo.of HLT.out hS)).mono ?_));rintro e w1 ⟨rfl,hb1⟩;replace hS:=hS.trans (hb1.mono hS.size);clear hb1;refine ⟨_,rfl,.inr hS,?_⟩;(try simp only [Act.put,List.setIfInBounds_toArray,List.set_cons_zero,List.set_cons_succ])))
     (refine runL_nil ?_)
     go_wp2
     go_end0
     exact ⟨rfl,hS⟩
   · cases hno
end Go.Proofs.YtjbabpnepjhllaaGreat
namespace Go.Proofs.YtjbabpnepjhllaaGreat
open Go.RowKit
set_option maxRecDepth 100000
structure AskOut (bo base:Nat) (v0:Value) (outs:List Fct) (w:World) (A:Option Addr) (m c:Nat) (w':World):Prop where
 box:w'.heap[bo]? = some (.cells #[.slice A m c] 39 (0,0))
 own:w'.ownsRow base 45 3 (.slice A m c) m (cellsOfF outs)
 len:m=outs.length
 new:∀ k,(Value.slice A m c).ownBlock=some k→v0.ownBlock=some k∨w.heap.size≤k
 chg:Chg (fun k=>k=bo∨v0.ownBlock=some k) w w'
theorem AskOut.cell {bo base:Nat} {v0:Value} {outs:List Fct} {w w':World} {A:Option Addr} {m c:Nat} (h:AskOut bo base v0 outs w A m c w'):w'.cell? ⟨bo,0,none⟩=some (.slice A m c):=by simp [World.cell?,h.box]
theorem AskOut.to {bo base:Nat} {v0:Value} {outs:List Fct} {w w':World} {A:Option Addr} {m c:Nat} {K:Nat→Prop} (h:AskOut bo base v0 outs w A m c w') (hK:∀ k,K k→k < w.heap.size) (hbo:¬ K bo) (hv:∀ k,v0.ownBlock=some k→¬ K k):AskTo K w w' :=
 ⟨h.chg.same fun k hk => ⟨hK k hk, fun e => by rcases e with rfl | e
                                               · exact hbo hk
                                               · exact hv k e hk⟩,h.chg.size⟩
set_option maxHeartbeats 4000000 in
theorem ask_yes (g:Nat) (cap:Array Value) (φ:Int→Fct) (w:World) (K:Nat→Prop) (bl ba bb bt bo base:Nat) (Al:Option Addr) (nl cl:Nat) (At:Option Addr) (nt ct:Nat) (l:List Fct) (a b:Int) (told:List Int) (Ao:Option Addr) (mo co:Nat) (out:List Fct) (eg:∀ args w,(callFunc g args).run Tryz.prog w=.ok (.enter g args) w)
   (h:AskAt w K bl ba bb bt (.slice Al nl cl) (.slice At nt ct) l a b told) (hof:OfOk K w g cap φ) (hn:l.length≤100000) (hyes:(knowsF l (φ a) && knowsF l (φ b))=true)
   (hbo:¬ K bo) (hvo:∀ k,(Value.slice Ao mo co).ownBlock=some k→¬ K k∧k≠bo) (hout:AskOut bo base (.slice Ao mo co) out w Ao mo co w) (hbase:base≤w.heap.size) (hm:mo+nt≤100000) :
   Calls Tryz.prog 132 #[.func (.func g) #[] cap,.pointer (some ⟨bl,0,none⟩),.pointer (some ⟨ba,0,none⟩),.pointer (some ⟨bb,0,none⟩),.pointer (some ⟨bt,0,none⟩),.pointer (some ⟨bo,0,none⟩)] w fun e w'=>e=.returned (.tuple #[])∧∃ A m c,AskOut bo base (.slice Ao mo co) (out++told.map φ) w A m c w':=by
 have HC:=Lh h
 have HOF:=Lh hof
 have HLT:=Lh h.lt
 have HNT:=Lh (rows_len h.ft).1
 have HKA:=Lh (show ∀ W,AskTo K w W→Calls Tryz.prog 19 #[.slice Al nl cl,.agg #[.int .i64 (φ a).kind,.int .i64 (φ a).a,.int .i64 (φ a).b]] W fun e w'=>e=.returned (.bool (knowsF l (φ a)))∧Below W.heap.size W w' from fun W hW=>Knows_any _ _ l W K ((h.to hW).fl) (h.to hW).lt hn)
 have HKB:=Lh (show ∀ W,AskTo K w W→Calls Tryz.prog 19 #[.slice Al nl cl,.agg #[.int .i64 (φ b).kind,.int .i64 (φ b).a,.int .i64 (φ b).b]] W fun e w'=>e=.returned (.bool (knowsF l (φ b)))∧Below W.heap.size W w' from fun W hW=>Knows_any _ _ l W K ((h.to hW).fl) (h.to hW).lt hn)
 rw [Bool.and_eq_true] at hyes
 rw [hyes.1] at HKA
 rw [hyes.2] at HKB
 have HOUT:=Lh hout
 have HBO:=Lh hbo
 have HVO:=Lh hvo
 have HBASE:=Lh hbase
 clear h hof hn hyes hout hbo hvo hbase
 go_enter Tryz.func132,Tryz.ntmps132
 go_wp2
 have hS:=(Below.refl w.heap.size w).drew
 (refine wp_region_lines (Below w.heap.size w) (by kernel_rfl) (by kernel_rfl) (Below.refl w.heap.size w).drew ?_)
 (try simp only [])
 repeat (first | (refine runL_no (by rfl) ?_;(try simp only [Act.put,List.setIfInBounds_toArray,List.set_cons_zero,List.set_cons_succ])) | (refine runL_val (v:=?_) (by rfl) ?_ ?_;rotate_left;(focus (intro w_ hw_;have hc_:=HC.out.to (AskTo.of HLT.out hw_);have c0_:=hc_.cl;have c1_:=hc_.ca;have c2_:=hc_.cb;go_simp;(try with_reducible rfl);done));(try simp only [Act.put,List.setIfInBounds_toArray,List.set_cons_zero,List.set_cons_succ])) | (refine runL_call (f:=?_) (args:=?_) (w1:=?_) (by rfl) (by rfl) ?_ ?_;rotate_left 3;(focus (go_simp;refine ⟨⟨?_,?_⟩,?_⟩ <;> with_reducible rfl));(first | (go_at_fn g;refine (HOF.out a _ (AskTo.of HLT.out hS)).mono ?_) | (go_at_fn g;refine (HOF.out b _ (AskTo.of HLT.out hS)).mono ?_) | (with_reducible refine (HKA.out _ (AskTo.of HLT.out hS)).mono ?_) | (with_reducible refine (HKB.out _ (AskTo.of HLT.out hS)).mono ?_));rintro e w1 ⟨rfl,hb1⟩;replace hS:=hS.trans (hb1.mono hS.size);clear hb1;refine ⟨_,rfl,.inr hS,?_⟩;(try simp only [Act.put,List.setIfInBounds_toArray,List.set_cons_zero,List.set_cons_succ])))
 (refine runL_nil ?_)
 have hc1:=(HC.out.to (AskTo.of HLT.out hS)).ct
 have HS:=Lh hS
 clear hS
 have HO0:=Lh (show AskOut bo base (.slice Ao mo co) out w Ao mo co w1 from ⟨(HS.out.block bo (lt_of_block HOUT.out.box)).trans HOUT.out.box,HOUT.out.own.kept (grownBy_of_below HS.out) (by cases hh:(Value.slice Ao mo co).ownBlock <;> simp),HOUT.out.len,fun k hk=>.inl hk,Chg.of_below HS.out⟩)
 go_wp2
 go_loopw [8,23] (fun _ j wr=>∃ k:Nat,k≤nt∧j=.int .i64 k∧∃ (A:Option Addr) (m c:Nat),AskOut bo base (.slice Ao mo co) (out++(told.take k).map φ) w A m c wr) (fun _ j _=>nt - (intOf j).toNat)
 case atStart=>exact ⟨0,by omega,rfl,Ao,mo,co,by simpa using HO0.out⟩
 case round =>
   obtain ⟨k,hk,rfl,A,m,c,hao⟩:=hrel
   by_cases hlt:k < nt
   · have d1:decide (k < nt)=true:=decide_eq_true hlt
     obtain ⟨x,hx⟩:∃ s,told[k]? = some s:=⟨_,List.getElem?_eq_getElem (by have:=HNT.out;omega)⟩
     have hto:=hao.to HLT.out HBO.out (fun k hk=>(HVO.out k hk).1)
     obtain ⟨gt,ot,rfl,hgt,c0⟩:=(HC.out.to hto).ft.at_ hx
     have HTO:=Lh hto.drew
     have HBX:=Lh (show wr.drew.heap[bo]? = some (.cells #[.slice A m c] 39 (0,0)) from hao.box)
     have HBL:=Lh (lt_of_block HBX.out)
     have HCO:=Lh (show wr.drew.cell? ⟨bo,0,none⟩=some (.slice A m c) from hao.cell)
     have hml:m≤mo+k:=by
       have h1:=hao.len
       have h2:=HOUT.out.len
       rw [List.length_append,List.length_map,List.length_take] at h1
       omega
     have HM:=Lh (show m≤1000000 by omega)
     have HNO:=Lh (show some bo≠(Value.slice A m c).ownBlock from fun e=>by
       rcases hao.new bo e.symm with h1 | h1
       · exact (HVO.out bo h1).2 rfl
       · have:=lt_of_block HOUT.out.box;omega)
     have HOWN:=Lh (show ∀ w1,Below wr.drew.heap.size wr.drew w1→(w1.alloc (.cells (factRow (φ x)).toArray 45)).ownsRow base 45 3 (.slice A m c) m (cellsOfF (out++(told.take k).map φ)) from fun w1 h1=>(hao.own.drew.kept (grownBy_of_below h1) (by cases hh:(Value.slice A m c).ownBlock <;> simp)).alloc _)
     have HBA:=Lh (show ∀ w1,Below wr.drew.heap.size wr.drew w1→base≤(w1.alloc (.cells (factRow (φ x)).toArray 45)).heap.size from fun w1 h1=>by
       have h2:=h1.size
       have h3:=hao.chg.size
       have h4:=HBASE.out
       have h5:wr.drew.heap.size=wr.heap.size:=rfl
       simp;omega)
     have HAO:=Lh hao
     have HXK:=Lh hx
     have i0:(0:Int)≤(k:Int):=by omega
     have i1:(k:Int) < (nt:Int):=by omega
     clear hao hx hto hgt hml
     go_wp2
     (refine wp_region_lines (fun w_=>w_.cell? ⟨bo,0,none⟩=some (.slice A m c)) (by kernel_rfl) (by kernel_rfl) HCO.out ?_)
     (try simp only [])
     repeat (first | (refine runL_no (by rfl) ?_;(try simp only [Act.put,List.setIfInBounds_toArray,List.set_cons_zero,List.set_cons_succ])) | (refine runL_val (v:=?_) (by rfl) ?_ ?_;rotate_left;(focus (intro w_ hw_;have f1_:=hw_;go_simp;(try with_reducible rfl);done));(try simp only [Act.put,List.setIfInBounds_toArray,List.set_cons_zero,List.set_cons_succ])) | (refine runL_call (f:=?_) (args:=?_) (w1:=?_) (by rfl) (by rfl) ?_ ?_;rotate_left 3;(focus (go_simp;refine ⟨⟨?_,?_⟩,?_⟩ <;> with_reducible rfl));(go_at_fn g;refine (HOF.out x _ HTO.out).mono ?_);rintro e w1 ⟨rfl,hb1⟩;have HB1:=Lh hb1;have HX1:=Lh ((hb1.block bo HBL.out).trans HBX.out);clear hb1;refine ⟨_,rfl,.inr (by simp [World.cell?,HX1.out]),?_⟩;(try simp only [Act.put,List.setIfInBounds_toArray,List.set_cons_zero,List.set_cons_succ])) | (refine runL_op (by rfl) (by rfl) (exec_fact1 (f:=φ x) _ rfl rfl) (.inr (by have h1:=(Below.heap_alloc w1 (.cells (factRow (φ x)).toArray 45) bo (lt_of_block HX1.out)).trans HX1.out;simp [World.cell?,h1])) ?_;(try simp only [Act.put,List.setIfInBounds_toArray,List.set_cons_zero,List.set_cons_succ])) | (refine runL_appendF (by rfl) (by rfl) _ _ rfl (v:=.slice A m c) rfl (HOWN.out w1 HB1.out) rfl (heap_alloc_new w1 _) HM.out (HBA.out w1 HB1.out) ?_;intro v2 w2 ho2 hg2 hb2;obtain ⟨A2,c2,rfl⟩:=own_form ho2;have HX2:=Lh ((hg2.block bo (by have:=lt_of_block HX1.out;simp;omega) (fun e=>HNO.out e)).trans ((Below.heap_alloc w1 _ bo (lt_of_block HX1.out)).trans HX1.out));have HO2:=Lh ho2;have HG2:=Lh hg2;have HW2:=Lh hb2;clear ho2 hg2 hb2;refine ⟨by simp [World.cell?,HX2.out],?_⟩;(try simp only [Act.put,List.setIfInBounds_toArray,List.set_cons_zero,List.set_cons_succ])) | (refine runL_skip (w1:=w2.setCell ⟨bo,0,none⟩ (.slice A2 (m+1) c2)) (by rfl) (by rfl) (exec_store1 39 _ _ rfl bo 0 (.slice A2 (m+1) c2) rfl rfl (by kernel_rfl) (by simp [World.cell?,HX2.out]) (by simp [World.frozen?,HX2.out]) rfl) (.inl ⟨rfl,by kernel_rfl⟩) ?_;(try simp only [Act.put])))
     (refine runL_nil ?_)
     have hone:∀ j,(Value.slice A2 (m+1) c2).ownBlock=some j→(Value.slice A m c).ownBlock=some j∨wr.heap.size≤j:=fun j hj=>by
       rcases HW2.out with h1 | h1
       · exact .inl (h1▸hj)
       · refine .inr ?_
         rw [h1] at hj
         cases hj
         have h2:=HB1.out.size
         have h5:wr.drew.heap.size=wr.heap.size:=rfl
         simp;omega
     have hbw:bo < wr.heap.size:=HBL.out
     have HONE:=Lh hone
     have HLE:=Lh (show out++(told.take (k+1)).map φ=(out++(told.take k).map φ)++[φ x] by rw [List.take_add_one,HXK.out,Option.toList_some,List.map_append,List.append_assoc];rfl)
     have HEND:=Lh (show AskOut bo base (.slice Ao mo co) (out++(told.take (k+1)).map φ) w A2 (m+1) c2 (w2.setCell ⟨bo,0,none⟩ (.slice A2 (m+1) c2)) from by
       have hsz:wr.heap.size≤w2.heap.size:=by
         have h1:=HB1.out.size
         have h2:=HG2.out.size
         have h5:wr.drew.heap.size=wr.heap.size:=rfl
         simp at h2;omega
       refine ⟨heap_setCell_box_a _ HX2.out,?_,by rw [HLE.out,List.length_append,←HAO.out.len];rfl,fun j hj=>?_,⟨?_,?_,?_,?_,fun j hj hne=>?_⟩⟩
       · rw [HLE.out]
         refine HO2.out.kept (grownBy_setCell _ _ _ _) (.inr fun e=>?_)
         rcases HONE.out bo e with h1 | h1
         · exact HNO.out h1.symm
         · omega
       · rcases HONE.out j hj with h1 | h1
         · exact HAO.out.new j h1
         · have:=HAO.out.chg.size;exact .inr (by omega)
       · exact HG2.out.os.trans (HB1.out.os.trans HAO.out.chg.os)
       · exact HG2.out.tape.trans (HB1.out.tape.trans HAO.out.chg.tape)
       · exact HG2.out.output.trans (HB1.out.output.trans HAO.out.chg.output)
       · have:=HAO.out.chg.size;simp;omega
       · have h0:=HAO.out.chg.size
         have h5:wr.drew.heap.size=wr.heap.size:=rfl
         have h6:=HB1.out.size
         refine (Below.heap_setCell _ _ _ j (fun e=>hne (.inl e))).trans ((HG2.out.block j (by simp;omega) (fun e=>?_)).trans ((Below.heap_alloc w1 _ j (by omega)).trans ((HB1.out.block j (by omega)).trans (HAO.out.chg.block j hj hne))))
         rcases HAO.out.new j e.symm with h1 | h1
         · exact hne (.inr h1)
         · omega)
     have n5:nt≤100000:=by omega
     clear hone hbw
     go_wp2
     go_roundw
     case rel=>exact ⟨k+1,hlt,by go_num,A2,m+1,c2,HEND.out⟩
     case measure=>simp [intOf];omega
   · have d1:decide (k < nt)=false:=decide_eq_false hlt
     have HE:=Lh (show AskOut bo base (.slice Ao mo co) (out++told.map φ) w A m c wr by rw [List.take_of_length_le (by have:=HNT.out;omega)] at hao;exact hao)
     clear hao
     go_wp2
     go_end0
     exact ⟨rfl,A,m,c,HE.out⟩
end Go.Proofs.YtjbabpnepjhllaaGreat
namespace Go.Proofs.YtjbabpnepjhllaaGreat
open Go.RowKit
theorem AskOut.below {bo base:Nat} {v0:Value} {outs:List Fct} {w w1 w':World} {A:Option Addr} {m c:Nat} (h:AskOut bo base v0 outs w A m c w1) (hb:Below w1.heap.size w1 w'):AskOut bo base v0 outs w A m c w' :=
 ⟨(hb.block bo (lt_of_block h.box)).trans h.box,h.own.kept (grownBy_of_below hb) (by cases hh:(Value.slice A m c).ownBlock <;> simp),h.len,h.new,⟨hb.os.trans h.chg.os,hb.tape.trans h.chg.tape,hb.output.trans h.chg.output,Nat.le_trans h.chg.size hb.size,fun k hk hn=>(hb.block k (Nat.lt_of_lt_of_le hk h.chg.size)).trans (h.chg.block k hk hn)⟩⟩
theorem AskOut.trans {bo base:Nat} {v0:Value} {o1 o2:List Fct} {w w1 w':World} {A A':Option Addr} {m c m' c':Nat} (h:AskOut bo base v0 o1 w A m c w1) (h2:AskOut bo base (.slice A m c) o2 w1 A' m' c' w'):AskOut bo base v0 o2 w A' m' c' w':=by
 refine ⟨h2.box,h2.own,h2.len,fun k hk=>?_,⟨h2.chg.os.trans h.chg.os,h2.chg.tape.trans h.chg.tape,h2.chg.output.trans h.chg.output,Nat.le_trans h.chg.size h2.chg.size,fun k hk hn=>?_⟩⟩
 · rcases h2.new k hk with h3 | h3
   · exact h.new k h3
   · exact .inr (Nat.le_trans h.chg.size h3)
 · refine (h2.chg.block k (Nat.lt_of_lt_of_le hk h.chg.size) fun e=>?_).trans (h.chg.block k hk hn)
   rcases e with e | e
   · exact hn (.inl e)
   · rcases h.new k e with h3 | h3
     · exact hn (.inr h3)
     · omega
theorem ask_any (g:Nat) (cap:Array Value) (φ:Int→Fct) (w:World) (K:Nat→Prop) (bl ba bb bt bo base:Nat) (Al:Option Addr) (nl cl:Nat) (At:Option Addr) (nt ct:Nat) (l:List Fct) (a b:Int) (told:List Int) (Ao:Option Addr) (mo co:Nat) (out:List Fct) (eg:∀ args w,(callFunc g args).run Tryz.prog w=.ok (.enter g args) w)
   (h:AskAt w K bl ba bb bt (.slice Al nl cl) (.slice At nt ct) l a b told) (hof:OfOk K w g cap φ) (hn:l.length≤100000)
   (hbo:¬ K bo) (hvo:∀ k,(Value.slice Ao mo co).ownBlock=some k→¬ K k∧k≠bo) (hout:AskOut bo base (.slice Ao mo co) out w Ao mo co w) (hbase:base≤w.heap.size) (hm:mo+nt≤100000) :
   Calls Tryz.prog 132 #[.func (.func g) #[] cap,.pointer (some ⟨bl,0,none⟩),.pointer (some ⟨ba,0,none⟩),.pointer (some ⟨bb,0,none⟩),.pointer (some ⟨bt,0,none⟩),.pointer (some ⟨bo,0,none⟩)] w fun e w'=>e=.returned (.tuple #[])∧∃ A m c,AskOut bo base (.slice Ao mo co) (out++askF l φ a b told) w A m c w':=by
 cases hk:(knowsF l (φ a) && knowsF l (φ b))
 · refine (ask_no g cap φ w K bl ba bb bt bo Al nl cl _ l a b told eg h hof hn hk).mono ?_
   rintro e w1 ⟨rfl,hb⟩
   refine ⟨rfl,Ao,mo,co,?_⟩
   unfold askF
   rw [hk,if_neg (by simp),List.append_nil]
   exact hout.below hb
 · refine (ask_yes g cap φ w K bl ba bb bt bo base Al nl cl At nt ct l a b told Ao mo co out eg h hof hn hk hbo hvo hout hbase hm).mono ?_
   rintro e w1 ⟨rfl,A,m,c,hb⟩
   refine ⟨rfl,A,m,c,?_⟩
   unfold askF
   rw [hk,if_pos rfl]
   exact hb
theorem askF_len (l:List Fct) (of:Int→Fct) (a b:Int) (told:List Int):(askF l of a b told).length≤told.length:=by
 unfold askF;split <;> simp
theorem both_next (y:Nat) (l:List Fct) (a b p q:Int) (told:List Int):bothF (y+1) l a b p q told=bothF y l a b p q told++(if (y:Int)=p∨(y:Int)=q then [] else askF l (fun v=>lessF v y) a b told++askF l (fun v=>lessF y v) a b told):=by
 unfold bothF
 rw [List.range_succ,List.map_append,List.flatten_append]
 simp
theorem both_zero (l:List Fct) (a b p q:Int) (told:List Int):bothF 0 l a b p q told=askF l (aloneF 1) a b told++askF l (aloneF 3) a b told:=by
 unfold bothF;simp
theorem both_len (l:List Fct) (a b p q:Int) (told:List Int):∀ y,(bothF y l a b p q told).length≤(2+2*y)*told.length:=by
 intro y
 induction y with
 | zero=>rw [both_zero,List.length_append];have h1:=askF_len l (aloneF 1) a b told;have h2:=askF_len l (aloneF 3) a b told;simp;omega
 | succ y ih =>
   rw [both_next,List.length_append]
   have h1:=askF_len l (fun v=>lessF v y) a b told
   have h2:=askF_len l (fun v=>lessF y v) a b told
   have h3:(2+2*(y+1))*told.length=(2+2*y)*told.length+2*told.length:=by rw [←Nat.add_mul];rfl
   split
   · simp;omega
   · rw [List.length_append];omega
end Go.Proofs.YtjbabpnepjhllaaGreat
namespace Go.Proofs.YtjbabpnepjhllaaGreat
open Go.RowKit
theorem res_box {P:Program} {fn:Func} {p:Tmp} {ty:TypeId} (h:fn.results=#[.cell p ty]) (tmps:Array Value) (w:World) (g:Nat) (v:Value) (d:TypeDesc)
   (hp:tmps.getD p undef=.pointer (some ⟨g,0,none⟩)) (hu:P.underlying ty=some d) (hd:(match d with | .struct _ | .array _ _=>true | _=>false)=false) (hc:w.cell? ⟨g,0,none⟩=some v) :
   (results fn tmps).run P w=.ok v w:=by
 have hp':tmps[p]?.getD undef=.pointer (some ⟨g,0,none⟩):=by simpa using hp
 have hagg:(isAgg ty).run P w=.ok false w:=by
   unfold isAgg
   rw [Sem.run_bind,run_underlying hu w]
   cases d <;> simp_all
 simp [results,h,hp',asAddr,loadVar,Sem.run_bind,hagg,hc]
theorem AskOut.self {bo base:Nat} {v0:Value} {outs:List Fct} {w w1:World} {A:Option Addr} {m c:Nat} (h:AskOut bo base v0 outs w A m c w1):AskOut bo base (.slice A m c) outs w1 A m c w1 :=
 ⟨h.box,h.own,h.len,fun _ hk=>.inl hk,Chg.refl _ _⟩
theorem AskAt.more {w:World} {K K':Nat→Prop} {bl ba bb bt:Nat} {vl vt:Value} {l:List Fct} {a b:Int} {told:List Int} (h:AskAt w K bl ba bb bt vl vt l a b told) (hK:∀ k,K k→K' k) (hl:∀ k,K' k→k < w.heap.size):AskAt w K' bl ba bb bt vl vt l a b told :=
 ⟨h.cl,h.ca,h.cb,h.ct,hK _ h.kl,hK _ h.ka,hK _ h.kb,hK _ h.kt,Rows.mono h.fl hK,Rows.mono h.ft hK,hl⟩
structure BothAt (W:World) (K:Nat→Prop) (b0 b1 b2 b3 b4 b5 b6:Nat) (base:Nat) (vl vt:Value) (l:List Fct) (a b p q:Int) (told:List Int) (nv:Nat):Prop where
 ask:AskAt W K b1 b2 b3 b5 vl vt l a b told
 vars:∃ A c,W.cell? ⟨b0,0,none⟩=some (.slice A nv c)
 p0:W.cell? ⟨b4,0,none⟩=some (.int .i64 p)
 q0:W.cell? ⟨b4,1,none⟩=some (.int .i64 q)
 k0:K b0
 k4:K b4
 k6:¬ K b6
 out:AskOut b6 base (.slice none 0 0) [] W none 0 0 W
theorem both_start (w:World) (F:Nat→Prop) (vo vr:Value) (Av:Option Addr) (nv cv:Nat) (vl vt:Value) (l:List Fct) (a b p q:Int) (told:List Int)
   (hf:FactsAt w F vl l) (ht:NumsAt w F vt told) (hF:∀ k,F k→k < w.heap.size) :
   BothAt (((((((w.alloc (.cells #[.slice Av nv cv,vo,vr] 25)).alloc (.cells #[vl] 39)).alloc (.cells #[.int .i64 a] 3)).alloc (.cells #[.int .i64 b] 3)).alloc (.cells #[.int .i64 p,.int .i64 q] 135)).alloc (.cells #[vt] 50)).alloc (.cells #[.slice none 0 0] 39))
     (fun k=>k < w.heap.size+6) w.heap.size (w.heap.size+1) (w.heap.size+1+1) (w.heap.size+1+1+1) (w.heap.size+1+1+1+1) (w.heap.size+1+1+1+1+1) (w.heap.size+1+1+1+1+1+1) w.heap.size vl vt l a b p q told nv:=by
 generalize ho0:(Obj.cells #[.slice Av nv cv,vo,vr] 25)=o0
 generalize ho1:(Obj.cells #[vl] 39)=o1
 generalize ho2:(Obj.cells #[.int .i64 a] 3)=o2
 generalize ho3:(Obj.cells #[.int .i64 b] 3)=o3
 generalize ho4:(Obj.cells #[.int .i64 p,.int .i64 q] 135)=o4
 generalize ho5:(Obj.cells #[vt] 50)=o5
 generalize ho6:(Obj.cells #[.slice none 0 0] 39)=o6
 have hh:∀ k,(((((((w.alloc o0).alloc o1).alloc o2).alloc o3).alloc o4).alloc o5).alloc o6).heap[k]? = if k < w.heap.size then w.heap[k]? else [o0,o1,o2,o3,o4,o5,o6][k - w.heap.size]?:=fun k=>by
   simp only [World.alloc,Array.getElem?_push,Array.size_push]
   by_cases h:k < w.heap.size
   · rw [if_pos h]
     repeat rw [if_neg (by omega)]
   · rw [if_neg h]
     by_cases e0:k=w.heap.size
     · rw [show k - w.heap.size=0 by omega]
       repeat rw [if_neg (by omega)]
       rw [if_pos (by omega)]
       rfl
     by_cases e1:k=w.heap.size+1
     · rw [show k - w.heap.size=1 by omega]
       repeat rw [if_neg (by omega)]
       rw [if_pos (by omega)]
       rfl
     by_cases e2:k=w.heap.size+2
     · rw [show k - w.heap.size=2 by omega]
       repeat rw [if_neg (by omega)]
       rw [if_pos (by omega)]
       rfl
     by_cases e3:k=w.heap.size+3
     · rw [show k - w.heap.size=3 by omega]
       repeat rw [if_neg (by omega)]
       rw [if_pos (by omega)]
       rfl
     by_cases e4:k=w.heap.size+4
     · rw [show k - w.heap.size=4 by omega]
       repeat rw [if_neg (by omega)]
       rw [if_pos (by omega)]
       rfl
     by_cases e5:k=w.heap.size+5
     · rw [show k - w.heap.size=5 by omega]
       repeat rw [if_neg (by omega)]
       rw [if_pos (by omega)]
       rfl
     by_cases e6:k=w.heap.size+6
     · rw [show k - w.heap.size=6 by omega]
       repeat rw [if_neg (by omega)]
       rw [if_pos (by omega)]
       rfl
     rw [List.getElem?_eq_none (by simp;omega)]
     repeat rw [if_neg (by omega)]
     exact Array.getElem?_eq_none (by omega)
 have hb:Below w.heap.size w (((((((w.alloc o0).alloc o1).alloc o2).alloc o3).alloc o4).alloc o5).alloc o6):=by
   refine ⟨rfl,rfl,rfl,by simp;omega,fun k hk=>?_⟩
   rw [hh,if_pos hk]
 have hs:(((((((w.alloc o0).alloc o1).alloc o2).alloc o3).alloc o4).alloc o5).alloc o6).heap.size=w.heap.size+7:=by simp
 generalize (((((((w.alloc o0).alloc o1).alloc o2).alloc o3).alloc o4).alloc o5).alloc o6)=W at hh hb hs ⊢
 have hc:∀ (k j:Nat) (cs:Array Value) (t:TypeId) (v:Value),[o0,o1,o2,o3,o4,o5,o6][k]? = some (.cells cs t)→cs[j]? = some v→W.cell? ⟨w.heap.size+k,j,none⟩=some v:=fun k j cs t v h hv=>by
   have:=hh (w.heap.size+k)
   rw [if_neg (by omega),Nat.add_sub_cancel_left,h] at this
   simp only [World.cell?,this]
   exact hv
 have hsame:SameOn F w W:=SameOn.of_below hb hF
 refine ⟨⟨hc 1 0 #[vl] _ _ (by rw [←ho1];rfl) rfl,hc 2 0 #[.int .i64 a] _ _ (by rw [←ho2];rfl) rfl,hc 3 0 #[.int .i64 b] _ _ (by rw [←ho3];rfl) rfl,hc 5 0 #[vt] _ _ (by rw [←ho5];rfl) rfl,by omega,by omega,by omega,by omega,Rows.mono (Rows.keep hf hsame) (fun k hk=>by have:=hF k hk;omega),Rows.mono (Rows.keep ht hsame) (fun k hk=>by have:=hF k hk;omega),fun k hk=>by omega⟩,⟨Av,cv,hc 0 0 #[.slice Av nv cv,vo,vr] _ _ (by rw [←ho0];rfl) rfl⟩,hc 4 0 #[.int .i64 p,.int .i64 q] _ _ (by rw [←ho4];rfl) rfl,hc 4 1 #[.int .i64 p,.int .i64 q] _ _ (by rw [←ho4];rfl) rfl,by omega,by omega,by omega,?_⟩
 refine ⟨?_,World.ownsRow_nil _ _ _ _,rfl,fun _ hk=>.inl hk,Chg.refl _ _⟩
 have:=hh (w.heap.size+6)
 rw [if_neg (by omega),Nat.add_sub_cancel_left] at this
 rw [show w.heap.size+1+1+1+1+1+1=w.heap.size+6 by omega,this,←ho6]
 rfl
end Go.Proofs.YtjbabpnepjhllaaGreat
namespace Go.Proofs.YtjbabpnepjhllaaGreat
open Go.RowKit
set_option maxRecDepth 100000
theorem setCell_same {W:World} {B:Nat} {v:Value} {t:TypeId} {fr:Nat×Nat} (h:W.heap[B]? = some (.cells #[v] t fr)):W.setCell ⟨B,0,none⟩ v=W:=by
 have e:(W.setCell ⟨B,0,none⟩ v).heap=W.heap:=by
   refine Array.ext_getElem? fun k=>?_
   show (W.heap.modify B _)[k]? = _
   rw [Array.getElem?_modify]
   split
   · rename_i e;subst e;rw [h];rfl
   · rfl
 show { W with heap:=(W.setCell ⟨B,0,none⟩ v).heap }=W
 rw [e]
set_option maxHeartbeats 4000000 in
theorem both_any (w:World) (F:Nat→Prop) (vo vr:Value) (Av Al At:Option Addr) (nv cv nl cl nt ct:Nat) (l:List Fct) (a b p q:Int) (told:List Int)
   (hf:FactsAt w F (.slice Al nl cl) l) (ht:NumsAt w F (.slice At nt ct) told) (hF:∀ k,F k→k < w.heap.size) (hn:l.length≤100000) (hv:nv≤1000) (htl:told.length≤2) :
   Calls Tryz.prog 113 #[.agg #[.slice Av nv cv,vo,vr],.slice Al nl cl,.int .i64 a,.int .i64 b,.agg #[.int .i64 p,.int .i64 q],.slice At nt ct] w (SortedSays w.heap.size (bothF nv l a b p q told) w):=by
 obtain ⟨W,hW⟩:∃ W,W=(((((((w.alloc (.cells #[.slice Av nv cv,vo,vr] 25)).alloc (.cells #[.slice Al nl cl] 39)).alloc (.cells #[.int .i64 a] 3)).alloc (.cells #[.int .i64 b] 3)).alloc (.cells #[.int .i64 p,.int .i64 q] 135)).alloc (.cells #[.slice At nt ct] 50)).alloc (.cells #[.slice none 0 0] 39)):=⟨_,rfl⟩
 have h:=both_start w F vo vr Av nv cv (.slice Al nl cl) (.slice At nt ct) l a b p q told hf ht hF
 rw [←hW] at h
 have hb:Below w.heap.size w W:=by
   rw [hW]
   refine ((((((((Below.refl _ _).alloc ?_ _).alloc ?_ _).alloc ?_ _).alloc ?_ _).alloc ?_ _).alloc ?_ _).alloc ?_ _) <;> simp <;> omega
 have hz:W.heap.size=w.heap.size+7:=by rw [hW];simp
 have hnt:nt≤2:=by have:=(rows_len ht).1;omega
 have HW:=Lh hW
 clear hW hf ht
 go_enter Tryz.func113,Tryz.ntmps113
 go_upto_region 1 with (first | go_in)
 rw [←HW.out]
 clear HW
 have hk:(fun k=>k < w.heap.size+6) w.heap.size∧w.heap.size < w.heap.size+1:=⟨by simp,by omega⟩
 generalize hK:(fun k=>k < w.heap.size+6)=K at h hk
 obtain ⟨b6,h6⟩:∃ x,x=w.heap.size+1+1+1+1+1+1:=⟨_,rfl⟩
 rw [←h6] at h ⊢
 generalize w.heap.size+1+1+1+1+1=b5 at h ⊢
 generalize w.heap.size+1+1+1+1=b4 at h ⊢
 generalize w.heap.size+1+1+1=b3 at h ⊢
 generalize w.heap.size+1+1=b2 at h ⊢
 generalize w.heap.size+1=b1 at h ⊢
 have H:=Lh h
 have HB:=Lh hb
 have HZ:=Lh hz
 have H6:=Lh h6
 have HKK:=Lh hK
 have HASK:=Lh (fun (g:Nat) (cap:Array Value) (φ:Int→Fct) (W':World) (K':Nat→Prop) (Ao:Option Addr) (mo co:Nat) (out:List Fct) (eg:∀ args w,(callFunc g args).run Tryz.prog w=.ok (.enter g args) w) (h1:AskAt W' K' b1 b2 b3 b5 (.slice Al nl cl) (.slice At nt ct) l a b told) (h2:OfOk K' W' g cap φ) (h3:¬ K' b6) (h4:∀ k,(Value.slice Ao mo co).ownBlock=some k→¬ K' k∧k≠b6) (h5:AskOut b6 w.heap.size (.slice Ao mo co) out W' Ao mo co W') (h7:w.heap.size≤W'.heap.size) (h8:mo+nt≤100000)=>ask_any g cap φ W' K' b1 b2 b3 b5 b6 w.heap.size Al nl cl At nt ct l a b told Ao mo co out eg h1 h2 hn h3 h4 h5 h7 h8)
 have HA2:=Lh (HASK.out 133 #[] (aloneF 1) W K none 0 0 [] (enters_of Tryz.func133 (by kernel_rfl) rfl) h.ask (fun v W' _=>of2_any v W') h.k6 (fun k hk=>by cases hk) h.out hb.size (by omega))
 have HA3:=Lh (fun (w1:World) (A1:Option Addr) (m1 c1:Nat) (h1:AskOut b6 w.heap.size (.slice none 0 0) ([]++askF l (aloneF 1) a b told) W A1 m1 c1 w1)=>HASK.out 134 #[] (aloneF 3) w1 K A1 m1 c1 _ (enters_of Tryz.func134 (by kernel_rfl) rfl) (h.ask.to (h1.to h.ask.lt h.k6 (fun k hk=>by cases hk))) (fun v W' _=>of3_any v W') h.k6 (fun k hk=>by
     rcases h1.new k hk with h2 | h2
     · cases h2
     · exact ⟨by rw [←HKK.out];simp only;omega,by omega⟩) h1.self (Nat.le_trans hb.size h1.chg.size) (by
     have h2:=h1.len
     have h3:=askF_len l (aloneF 1) a b told
     rw [List.nil_append] at h2
     omega))
 clear h hb hz h6 hK
 go_upto_region 4 with (first
   | ((with_reducible refine HA2.out.mono ?_);rintro e w1 ⟨rfl,A1,m1,c1,h1⟩;have HO1:=Lh h1;clear h1)
   | ((with_reducible refine (HA3.out w1 A1 m1 c1 HO1.out).mono ?_);rintro e w2 ⟨rfl,A2,m2,c2,h2⟩;have HO2:=Lh (HO1.out.trans h2);clear h2)
   | go_in)
 have HTO:=Lh (fun (A:Option Addr) (m c:Nat) (outs:List Fct) (w':World) (h:AskOut b6 w.heap.size (.slice none 0 0) outs W A m c w')=>h.to H.out.ask.lt H.out.k6 (fun k hk=>by cases hk))
 obtain ⟨Ak,ck,hvar⟩:=H.out.vars
 have HVAR:=Lh hvar
 clear hvar
 have g0:w2.cell? ⟨w.heap.size,0,none⟩=some (.slice Ak nv ck):=(World.cell?_of_block ((HTO.out _ _ _ _ _ HO2.out).same _ H.out.k0)).trans HVAR.out
 have HO2:=Lh (show AskOut b6 w.heap.size (.slice none 0 0) (bothF 0 l a b p q told) W A2 m2 c2 w2 by rw [both_zero];exact HO2.out)
 go_wp2
 go_loopw [14,23] (fun _ j wr=>∃ k:Nat,k≤nv∧j=.int .i64 k∧∃ (A:Option Addr) (m c:Nat),AskOut b6 w.heap.size (.slice none 0 0) (bothF k l a b p q told) W A m c wr) (fun _ j _=>nv - (intOf j).toNat)
 case atStart=>exact ⟨0,by omega,rfl,A2,m2,c2,HO2.out⟩
 case round =>
   obtain ⟨k,hk,rfl,A,m,c,hao⟩:=hrel
   clear g0 HO2 HO1 HA2 HA3
   by_cases hlt:k < nv
   · have d1:decide (k < nv)=true:=decide_eq_true hlt
     have i0:(0:Int)≤(k:Int):=by omega
     have HAO:=Lh hao
     clear hao
     go_upto_region 7 with (first | go_in)
     obtain ⟨WY,hWY⟩:∃ WY,wr.alloc (.cells #[.int .i64 (k:Int)] 3)=WY:=⟨_,rfl⟩
     rw [hWY]
     have hby:Below wr.heap.size wr WY:=by rw [←hWY];exact (Below.refl _ _).alloc (Nat.le_refl _) _
     have hao:=HAO.out.below hby
     have hto:=HTO.out _ _ _ _ _ hao
     have hyc:WY.cell? ⟨wr.heap.size,0,none⟩=some (.int .i64 (k:Int)):=by rw [←hWY];exact (by have h1:=heap_alloc_new wr (.cells #[.int .i64 (k:Int)] 3);simp only [World.cell?,h1];rfl)
     have hys:WY.heap.size=wr.heap.size+1:=by rw [←hWY];simp
     obtain ⟨y,hy⟩:∃ y,y=wr.heap.size:=⟨_,rfl⟩
     rw [←hy] at hyc hys ⊢
     have g0:WY.cell? ⟨b4,0,none⟩=some (.int .i64 p):=(World.cell?_of_block (hto.same _ H.out.k4)).trans H.out.p0
     have g1:WY.cell? ⟨b4,1,none⟩=some (.int .i64 q):=(World.cell?_of_block (hto.same _ H.out.k4)).trans H.out.q0
     have HWY:=Lh (And.intro hao (And.intro hto (And.intro hys (And.intro hy hyc))))
     clear hWY hby hao hto hys hy
     have HNX:=Lh (both_next k l a b p q told)
     cases dp:((k:Int) == p)
     rotate_left
     · have HS:=Lh (show bothF (k+1) l a b p q told=bothF k l a b p q told by rw [HNX.out,if_pos (.inl (by simpa using dp)),List.append_nil])
       have np:((k:Int) != p)=false:=by rw [bne,dp];rfl
       go_wp2
       go_roundw
       case rel=>exact ⟨k+1,hlt,by go_num,A,m,c,by rw [HS.out];exact HWY.out.1⟩
       case measure=>simp [intOf];omega
     have np:((k:Int) != p)=true:=by rw [bne,dp];rfl
     cases dq:((k:Int) == q)
     rotate_left
     · have HS:=Lh (show bothF (k+1) l a b p q told=bothF k l a b p q told by rw [HNX.out,if_pos (.inr (by simpa using dq)),List.append_nil])
       have nq:((k:Int) != q)=false:=by rw [bne,dq];rfl
       go_wp2
       go_roundw
       case rel=>exact ⟨k+1,hlt,by go_num,A,m,c,by rw [HS.out];exact HWY.out.1⟩
       case measure=>simp [intOf];omega
     have nq:((k:Int) != q)=true:=by rw [bne,dq];rfl
     have HS:=Lh (show bothF (k+1) l a b p q told=(bothF k l a b p q told++askF l (fun v=>lessF v k) a b told)++askF l (fun v=>lessF k v) a b told by rw [HNX.out,if_neg (by simp only [beq_eq_false_iff_ne] at dp dq;omega),List.append_assoc])
     clear dp dq
     have hszw:W.heap.size≤wr.heap.size:=HAO.out.chg.size
     have hml:m≤(2+2*k)*told.length:=by rw [HAO.out.len];exact both_len l a b p q told k
     have hml2:(2+2*k)*told.length≤(2+2*k)*2:=Nat.mul_le_mul_left _ htl
     have hKb:∀ j,K j↔j < w.heap.size+6:=fun j=>by rw [←HKK.out]
     have hz:=HZ.out
     have h6:=H6.out
     obtain ⟨hw1,hw2,hw3,hw4,hw5⟩:=HWY.out
     have hask:AskAt WY (fun j=>K j∨j=y) b1 b2 b3 b5 (.slice Al nl cl) (.slice At nt ct) l a b told:=(H.out.ask.to hw2).more (fun _ h=>.inl h) (fun j hj=>by
       rcases hj with hj | hj
       · have:=hw2.size;rw [hKb] at hj;omega
       · omega)
     have h6n:¬ (K b6∨b6=y):=fun e=>by
       rcases e with e | e
       · exact H.out.k6 e
       · omega
     have hov:∀ j,(Value.slice A m c).ownBlock=some j→¬ (K j∨j=y)∧j≠b6:=fun j hj=>by
       have h1:=(own_lt HAO.out.own j hj).1
       rcases HAO.out.new j hj with h2 | h2
       · cases h2
       · refine ⟨fun e=>?_,by omega⟩
         rcases e with e | e
         · rw [hKb] at e;omega
         · omega
     have HA4:=Lh (HASK.out 135 #[.pointer (some ⟨y,0,none⟩)] (fun v=>lessF v k) WY (fun j=>K j∨j=y) A m c _ (enters_of Tryz.func135 (by kernel_rfl) rfl) hask (fun v W' h=>of4_any v k y W' ((World.cell?_of_block (h.same y (.inr rfl))).trans hw5) (by have:=h.size;omega)) h6n hov hw1.self (by omega) (by omega))
     have HA5:=Lh (fun (w1:World) (A1:Option Addr) (m1 c1:Nat) (h1:AskOut b6 w.heap.size (.slice A m c) (bothF k l a b p q told++askF l (fun v=>lessF v k) a b told) WY A1 m1 c1 w1)=>HASK.out 136 #[.pointer (some ⟨y,0,none⟩)] (fun v=>lessF k v) w1 (fun j=>K j∨j=y) A1 m1 c1 _ (enters_of Tryz.func136 (by kernel_rfl) rfl) (hask.to (h1.to hask.lt h6n (fun j hj=>(hov j hj).1))) (fun v W' h=>of5_any v k y W' ((World.cell?_of_block (h.same y (.inr rfl))).trans ((World.cell?_of_block ((h1.to hask.lt h6n (fun j hj=>(hov j hj).1)).same y (.inr rfl))).trans hw5)) (by have:=h.size;have:=h1.chg.size;omega)) h6n (fun j hj=>by
         rcases h1.new j hj with h2 | h2
         · exact hov j h2
         · refine ⟨fun e=>?_,by omega⟩
           rcases e with e | e
           · rw [hKb] at e;omega
           · omega) h1.self (by have:=h1.chg.size;omega) (by
         have h2:=h1.len
         have h3:=askF_len l (fun v=>lessF v k) a b told
         rw [List.length_append] at h2
         have h4:=both_len l a b p q told k
         omega))
     clear hw1 hw2 hw3 hw4 hw5 hask h6n hov hz h6 hKb hml hml2 hszw HNX
     go_wp2_with (first
       | ((with_reducible refine HA4.out.mono ?_);rintro e w3 ⟨rfl,A3,m3,c3,h3⟩;have HO3:=Lh h3;clear h3)
       | ((with_reducible refine (HA5.out w3 A3 m3 c3 HO3.out).mono ?_);rintro e w4 ⟨rfl,A4,m4,c4,h4⟩;have HO4:=Lh ((HWY.out.1.trans HO3.out).trans h4);clear h4)
       | go_in)
     go_roundw
     case rel=>exact ⟨k+1,hlt,by go_num,A4,m4,c4,by rw [HS.out];exact HO4.out⟩
     case measure=>simp [intOf];omega
   · have d1:decide (k < nv)=false:=decide_eq_false hlt
     have e:k=nv:=by omega
     subst e
     have g0:=hao.cell
     have g1:wr.frozen? ⟨b6,0,none⟩=false:=by simp [World.frozen?,hao.box]
     have HAO:=Lh hao
     clear hao
     go_wp2
     rw [setCell_same HAO.out.box]
     refine bodyPost_ret (res_box rfl _ _ b6 (.slice A m c) _ rfl Tryz.underlying39 rfl HAO.out.cell) rfl ⟨_,rfl,?_,HB.out.trans ?_⟩
     · have:=HAO.out.own
       rw [HAO.out.len] at this ⊢
       exact this
     · exact HAO.out.chg.below (fun j hj e=>by
         rcases e with e | e
         · have:=H6.out;omega
         · cases e) HB.out.size
end Go.Proofs.YtjbabpnepjhllaaGreat
