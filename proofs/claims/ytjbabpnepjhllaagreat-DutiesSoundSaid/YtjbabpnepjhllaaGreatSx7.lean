/- Part 7 of a claim; what it proves stands in its last text. -/
import Derived.Test.YtjbabpnepjhllaaGreatSx6
import Derived.Shelf.Small.Bits
import Derived.Shelf.Small.Wraps
import Derived.Shelf.Strconv.Itoa0
import Derived.Shelf.Bits.Mul64
import Derived.Ground.Names2Prog
import Derived.Shelf.Slices.SearchI
import Derived.Test.YtjbabpnepjhllaaGreatProg
import Derived.Shelf.SlSortCmp.WholeK
import Derived.Ground.SlsfProg
import Derived.Test.YtjbabpnepjhllaaGreatSx2
import Derived.Shelf.SlSortCmp.NoneTotal
namespace Go.Proofs.YtjbabpnepjhllaaGreat
open Go.RowKit Go.Maps Go.Sort Go.Shelf
set_option maxRecDepth 100000
theorem infoFact:(Tryz.prog.info? 45).map (fun i=>(i.zero,i.size,i.bytes))=some (some (.agg #[.int .i64 0,.int .i64 0,.int .i64 0]),3,24):=by kernel_rfl
theorem cells_new_at (w:World) (cs:Array Value) (t:TypeId):∀ (j:Nat) (u:Value),cs.toList[j]? = some u→(w.alloc (.cells cs t)).cell? ((⟨w.heap.size,0,none⟩:Addr).add j)=some u:=by
 intro j u h
 have e:(⟨w.heap.size,0,none⟩:Addr).add j=⟨w.heap.size,j,none⟩:=by unfold Addr.add;split <;> simp_all
 rw [e,World.cell?_alloc_at _ _ _ _ rfl]
 simpa using h
def apAssign : Code := (Code.region 2 #[{ dst := some 5, op := Op.alloc 45, type := 0, pos := "iter.go:51", after := #[], guard := none }, { dst := none, op := Op.store 45 (Operand.tmp 5) (Operand.tmp 7), type := 0, pos := "iter.go:51", after := #[{ on := 0, ground := Ground.data }, { on := 0, ground := Ground.phase }], guard := none }] false)
def apBody : Code := (Code.block 1 (Code.region 3 #[{ dst := some 8, op := Op.load 39 (Operand.tmp 2), type := 39, pos := "iter.go:52", after := #[], guard := none }, { dst := some 9, op := Op.load 45 (Operand.tmp 5), type := 45, pos := "iter.go:52", after := #[], guard := none }, { dst := some 10, op := Op.buildSlice 39 1 #[(0, Operand.tmp 9)], type := 39, pos := "iter.go:52", after := #[{ on := 1, ground := Ground.data }], guard := none }, { dst := some 11, op := Op.call { callee := Callee.builtin Builtin.append, args := #[Operand.tmp 8, Operand.tmp 10], argTypes := #[39, 39] }, type := 39, pos := "iter.go:52", after := #[{ on := 0, ground := Ground.data }, { on := 2, ground := Ground.data }], guard := none }, { dst := none, op := Op.store 39 (Operand.tmp 2) (Operand.tmp 11), type := 0, pos := "iter.go:52", after := #[{ on := 3, ground := Ground.data }, { on := 3, ground := Ground.chain }, { on := 0, ground := Ground.phase }, { on := 1, ground := Ground.phase }, { on := 2, ground := Ground.phase }, { on := 3, ground := Ground.phase }], guard := none }] false))
def apRec (fn:FuncId) (sv:Value) (Bs D:Nat) (st:LoopState) (pend:Option Code):Loop :=
 { state:=st,pending:=pend,fn,tmps:=#[.slice none 0 0,sv,.pointer (some ⟨Bs,0,none⟩),undef,.slice none 0 0,undef,sv,undef,undef,undef,undef,undef,undef],params:=#[7],assign:=apAssign,body:=apBody,defers:=D }
def cellsOfF (l:List Fct):List Value:=(l.map factRow).flatten
structure ApAt (w0:World) (fn:FuncId) (sv:Value) (Bs l D:Nat) (ss:List Fct) (W:World):Prop where
 box:∃ v,W.heap[Bs]? = some (.cells #[v] 39 (0,0))∧W.ownsRow w0.heap.size 45 3 v ss.length (cellsOfF ss)∧(v=.slice none 0 0↔ss=[])
 L:W.heap[l]? = some (.loop (apRec fn sv Bs D .ready none))
 K:W.heap[D]? = some (.deferred (some []))
 below:Below w0.heap.size w0 W
theorem ownsRow_abides_a {W W':World} {row:Option Nat} {base:Nat} {e:TypeId} {size:Nat} {v:Value} {k:Nat} {xs:List Value} (h:W.ownsRow base e size v k xs) (hg:W.grownBy W' row)
   (hrow:∀ r,row=some r→∃ o:Obj,W.heap[r]? = some o∧o.isWalk=true):W'.ownsRow base e size v k xs:=by
 refine h.kept hg ?_
 rcases h.2 with ⟨rfl,_⟩ | ⟨g,cap,cur,rfl,_,hgb,_⟩
 · exact .inl rfl
 · refine .inr fun e'=>?_
   obtain ⟨o,ho,hw⟩:=hrow g (by simpa [Value.ownBlock] using e'.symm)
   rw [hgb] at ho;cases ho;cases hw
theorem ap_abides (w0:World) (fn:FuncId) (sv:Value) (Bs l D B:Nat) (hB:w0.heap.size≤B):AbidesFrom B (ApAt w0 fn sv Bs l D):=fun s W W' row h hg hrow=>by
 have hrow':∀ r,row=some r→∃ o:Obj,W.heap[r]? = some o∧o.isWalk=true:=fun r e=>(hrow r e).2
 obtain ⟨v,hv,hr,hn⟩:=h.box
 exact ⟨⟨v,(grownBy_keeps hg hrow' hv rfl).trans hv,ownsRow_abides_a hr hg hrow',hn⟩,(grownBy_keeps hg hrow' h.L rfl).trans h.L,(grownBy_keeps hg hrow' h.K rfl).trans h.K,
   h.below.grown hg h.below.size (fun k e=>Nat.le_trans hB (hrow k e).1)⟩
theorem grownBy_putObj_a (W:World) (l:Nat) (o:Obj):W.grownBy (W.putObj l o) (some l) :=
 ⟨rfl,rfl,rfl,by simp,fun k _ hk=>World.putObj_heap_other (fun e=>hk (by rw [e]))⟩
theorem grownBy_setCell0_a (W:World) (b:Nat) (v:Value):W.grownBy (W.setCell ⟨b,0,none⟩ v) (some b) :=
 ⟨rfl,rfl,rfl,(KeepsWalks.setCell W _ v).size,fun k _ hk=>Below.heap_setCell _ _ _ k (fun e=>hk (by rw [e]))⟩
theorem ownsRow_ne_a {W:World} {base:Nat} {e:TypeId} {size:Nat} {v:Value} {k:Nat} {xs:List Value} (h:W.ownsRow base e size v k xs) {j:Nat} {o:Obj} (hj:W.heap[j]? = some o) (hno:∀ cur,o≠.cells cur e (0,0)) :
   v.ownBlock=none∨v.ownBlock≠some j:=by
 rcases h.2 with ⟨rfl,_⟩ | ⟨g,cap,cur,rfl,_,hgb,_⟩
 · exact .inl rfl
 · refine .inr fun e'=>?_
   have:g=j:=by simpa [Value.ownBlock] using e'
   subst this;rw [hgb] at hj;cases hj;exact hno cur rfl
theorem cell_of_box_a {W:World} {B:Nat} {v:Value} {t:TypeId} (h:W.heap[B]? = some (.cells #[v] t (0,0))):W.cell? ⟨B,0,none⟩=some v∧W.frozen? ⟨B,0,none⟩=false:=by
 constructor <;> simp [World.cell?,World.frozen?,h]
theorem heap_setCell_box_a {W:World} {B:Nat} {v:Value} {t:TypeId} (v':Value) (h:W.heap[B]? = some (.cells #[v] t (0,0))):(W.setCell ⟨B,0,none⟩ v').heap[B]? = some (.cells #[v'] t (0,0)):=by
 obtain ⟨hlt,hk⟩:=Array.getElem?_eq_some_iff.1 h
 show (W.heap.modify B _)[B]? = _
 rw [Array.getElem?_eq_getElem (by rw [Array.size_modify];exact hlt),Array.getElem_modify_self,hk]
 rfl
theorem ownsRow_not_walk_a {W:World} {base:Nat} {e:TypeId} {size:Nat} {v:Value} {k:Nat} {xs:List Value} (h:W.ownsRow base e size v k xs):∀ (j:Nat) (o:Obj),v.ownBlock=some j→W.heap[j]? = some o→o.isWalk=false:=by
 intro j o hj ho
 rcases h.2 with ⟨rfl,_⟩ | ⟨g,cap,cur,rfl,_,hgb,_⟩
 · simp [Value.ownBlock] at hj
 · have:g=j:=by simpa [Value.ownBlock] using hj
   subst this;rw [hgb] at ho;cases ho;rfl
set_option maxHeartbeats 2000000 in
theorem apYield (F:Fence) (m:Nat) (w0:World) (fn:FuncId) (hfn:F.fn fn) (sv:Value) (Bs l D:Nat) (hBl:Bs≠l) (hDl:D≠l) (hDB:D≠Bs) (h0B:w0.heap.size≤Bs) (h0l:w0.heap.size≤l)
   (N:Nat) (hN:N≤maxLen) (hNb:N*24≤140737488355328) (ss:List Fct) (x:Fct) (W:World) (h:ApAt w0 fn sv Bs l D ss W) (hlen:ss.length < N) :
   YieldAt F m Tryz.prog l #[factV x] W fun e W'=>e=.returned (.bool true)∧ApAt w0 fn sv Bs l D (ss++[x]) W'∧KeepsWalks W W':=by
 have hne:39≠45:=by decide
 obtain ⟨i0,hi,hz0,hz1,hz2⟩:=info_parts infoFact
 refine ⟨fn,#[.slice none 0 0,sv,.pointer (some ⟨Bs,0,none⟩),undef,.slice none 0 0,undef,sv,factV x,undef,undef,undef,undef,undef],apAssign,apBody,by simpa [apRec] using run_yield (P:=Tryz.prog) (args:=#[factV x]) h.L rfl,roundIn_of_wpIn hfn ?_⟩
 unfold apAssign factV
 gi_wp2_with (rw [Oper.semAt_eq _ _ _ (fun c h=>by cases h)];go_simp;try go_bits)
 obtain ⟨Wa,hWa⟩:∃ Wa,W.alloc (.cells #[.int .i64 x.kind,.int .i64 x.a,.int .i64 x.b] 45)=Wa:=⟨_,rfl⟩
 rw [hWa]
 obtain ⟨B5,hB5⟩:∃ B5,W.heap.size=B5:=⟨_,rfl⟩
 have hx:∀ i,Wa.cell? ⟨B5,i,none⟩=#[Value.int .i64 x.kind,.int .i64 x.a,.int .i64 x.b][i]?:=fun i=>by rw [←hWa,←hB5,World.cell?_alloc_at _ _ _ _ rfl]
 have hy0:=hx 0
 have hy1:=hx 1
 have hy2:=hx 2
 simp only [List.getElem?_toArray,List.getElem?_cons_zero,List.getElem?_cons_succ] at hy0 hy1 hy2
 have ga:W.grownBy Wa none:=by rw [←hWa];exact World.grownBy_alloc _ _ none
 have hka:KeepsWalks W Wa:=by rw [←hWa];exact KeepsWalks.alloc _ _
 have hlB:l≠B5:=by have:=(Array.getElem?_eq_some_iff.1 h.L).1;omega
 have hB5l:B5 < Wa.heap.size:=by rw [←hWa,←hB5];simp
 have hA:=ap_abides w0 fn sv Bs l D w0.heap.size (Nat.le_refl _) ss W Wa none h ga (fun r e=>by cases e)
 obtain ⟨v,hv,hrow,_⟩:=hA.box
 rw [hB5]
 clear hx ga hWa h
 have hl:l < Wa.heap.size:=(Array.getElem?_eq_some_iff.1 hA.L).1
 have hbr:=run_beginRound (P:=Tryz.prog) hA.L rfl
 obtain ⟨W2,hW2⟩:∃ W2,Wa.putObj l (.loop { apRec fn sv Bs D .ready none with state:=.busy })=W2:=⟨_,rfl⟩
 rw [hW2] at hbr
 have hg2:Wa.grownBy W2 (some l):=by rw [←hW2];exact grownBy_putObj_a _ _ _
 have hk2:KeepsWalks Wa W2:=by rw [←hW2];exact KeepsWalks.putObj _ hA.L rfl
 have hv2:W2.heap[Bs]? = some (.cells #[v] (39) (0,0)):=by rw [←hW2];exact (World.putObj_heap_other hBl).trans hv
 have hK2:W2.heap[D]? = some (.deferred (some [])):=by rw [←hW2];exact (World.putObj_heap_other hDl).trans hA.K
 have hL2:W2.heap[l]? = some (.loop { apRec fn sv Bs D .ready none with state:=.busy }):=by rw [←hW2];exact World.putObj_heap_same hl
 have hrow2:W2.ownsRow w0.heap.size (45) 3 v ss.length (cellsOfF ss):=hrow.kept hg2 (ownsRow_ne_a hrow hA.L (fun cur e=>by first | cases e | exact hne (Obj.cells.inj e).2.1))
 have hb2:Below w0.heap.size w0 W2:=hA.below.grown hg2 hA.below.size (fun k e=>by cases e;exact h0l)
 have hx0:W2.cell? ⟨B5,0,none⟩=some (.int .i64 x.kind):=hg2.cell hy0 (fun e=>hlB (by cases e;rfl))
 have hx1:W2.cell? ⟨B5,1,none⟩=some (.int .i64 x.a):=hg2.cell hy1 (fun e=>hlB (by cases e;rfl))
 have hx2:W2.cell? ⟨B5,2,none⟩=some (.int .i64 x.b):=hg2.cell hy2 (fun e=>hlB (by cases e;rfl))
 have hB2:B5 < W2.heap.size:=Nat.lt_of_lt_of_le hB5l hg2.size
 clear hW2 hy0 hy1 hy2
 obtain ⟨hc2,hf2⟩:=cell_of_box_a hv2
 have hBlt:Bs < W2.heap.size:=(Array.getElem?_eq_some_iff.1 hv2).1
 have hl2:l < W2.heap.size:=(Array.getElem?_eq_some_iff.1 hL2).1
 have hDlt:D < W2.heap.size:=(Array.getElem?_eq_some_iff.1 hK2).1
 have ne_of:∀ {j:Nat} {o:Obj},W2.heap[j]? = some o→(∀ cur,o≠.cells cur (45) (0,0))→some j≠v.ownBlock:=fun hj hno=>by
   rcases ownsRow_ne_a hrow2 hj hno with e | e
   · rw [e];simp
   · exact fun e'=>e e'.symm
 have HN:=Lh (cells_new_at W2 (factRow x).toArray 45)
 refine ⟨W2,hbr,?_⟩
 clear hbr
 unfold apBody
 gi_wp2_with (first
   | (gi_at_builtin;refine wpListIn_append_own _ rfl _ _ (39) rfl w0.heap.size (45) i0 (.agg #[.int .i64 0,.int .i64 0,.int .i64 0]) 3 24 Tryz.underlying39 hi hz0 hz1 hz2 rfl (by decide) _ _ _ rfl (hrow2.alloc _) ⟨W2.heap.size,0,none⟩ 1 1 (factRow x) rfl rfl HN.out (by simp [Value.oneCell',factRow]) (by omega) (by omega) (by have:=hb2.size;simp;omega) ?_;intro v' w3 hown' hg3 hnil3
      have hv3:w3.heap[Bs]? = some (.cells #[v] (39) (0,0)):=(hg3.block Bs (by simp;omega) (ne_of hv2 (fun cur e=>by first | cases e | exact hne (Obj.cells.inj e).2.1))).trans ((Below.heap_alloc _ _ Bs hBlt).trans hv2)
      obtain ⟨hc3,hf3⟩:=cell_of_box_a hv3
      obtain ⟨g',cap',cur',rfl,hb2se',hgb',hr1,hr2,hr3,hr4⟩:∃ g' cap' cur',v'=.slice (some ⟨g',0,none⟩) (ss.length+1) cap'∧w0.heap.size≤g'∧w3.heap[g']? = some (.cells cur' (45) (0,0))∧ss.length+1≤cap'∧cap'≤maxLen∧cur'.size=cap'*3∧cur'.toList.take ((ss.length+1)*3)=cellsOfF ss++factRow x:=by
        rcases hown'.2 with ⟨_,h0⟩ | h'
        · exact absurd h0 (by omega)
        · exact h'
      go_frame)
   | (rw [Oper.semAt_eq _ _ _ (fun c h=>by cases h)];go_simp;try go_bits))
 have hg3':(W2.alloc (.cells #[.int .i64 x.kind,.int .i64 x.a,.int .i64 x.b] (45))).grownBy w3 v.ownBlock:=hg3
 have hL3:w3.heap[l]? = some (.loop { apRec fn sv Bs D .ready none with state:=.busy }):=(hg3'.block l (by simp;omega) (ne_of hL2 (fun cur e=>by first | cases e | exact hne (Obj.cells.inj e).2.1))).trans ((Below.heap_alloc _ _ l hl2).trans hL2)
 have hK3:w3.heap[D]? = some (.deferred (some [])):=(hg3'.block D (by simp;omega) (ne_of hK2 (fun cur e=>by first | cases e | exact hne (Obj.cells.inj e).2.1))).trans ((Below.heap_alloc _ _ D hDlt).trans hK2)
 obtain ⟨w4,hw4⟩:∃ w4,w3.setCell ⟨Bs,0,none⟩ (.slice (some ⟨g',0,none⟩) (ss.length+1) cap')=w4:=⟨_,rfl⟩
 rw [hw4]
 have hg4:w3.grownBy w4 (some Bs):=by rw [←hw4];exact grownBy_setCell0_a _ _ _
 have hv4:w4.heap[Bs]? = some (.cells #[.slice (some ⟨g',0,none⟩) (ss.length+1) cap'] (39) (0,0)):=by rw [←hw4];exact heap_setCell_box_a _ hv3
 have hL4:w4.heap[l]? = some (.loop { apRec fn sv Bs D .ready none with state:=.busy }):=(hg4.block l (Array.getElem?_eq_some_iff.1 hL3).1 (fun e=>hBl (by cases e;rfl))).trans hL3
 have hK4:w4.heap[D]? = some (.deferred (some [])):=(hg4.block D (Array.getElem?_eq_some_iff.1 hK3).1 (fun e=>hDB (by cases e;rfl))).trans hK3
 have hrow4:=hown'.kept hg4 (ownsRow_ne_a hown' hv3 (fun cur e=>by first | cases e | exact hne (Obj.cells.inj e).2.1))
 have hl4:l < w4.heap.size:=(Array.getElem?_eq_some_iff.1 hL4).1
 have hb3:Below w0.heap.size w0 w3:=(hb2.alloc hb2.size _).grown hg3' (by have:=hb2.size;simp;omega) (fun k e=>(hrow2.lt k e).1)
 have hb4:Below w0.heap.size w0 w4:=hb3.grown hg4 hb3.size (fun k e=>by cases e;exact h0B)
 have hk4:KeepsWalks Wa w4:=((hk2.trans (KeepsWalks.alloc _ _)).trans (KeepsWalks.of_grownBy hg3' (ownsRow_not_walk_a (hrow2.alloc _)))).trans (by rw [←hw4];exact KeepsWalks.setCell _ _ _)
 clear hw4
 refine ⟨_,_,run_endRound none hL4,rfl,⟨⟨_,(World.putObj_heap_other hBl).trans hv4,?_,by simp⟩,World.putObj_heap_same hl4,(World.putObj_heap_other hDl).trans hK4,hb4.grown (grownBy_putObj_a _ _ _) hb4.size (fun k e=>by cases e;exact h0l)⟩,(hka.trans hk4).trans (KeepsWalks.putObj _ hL4 rfl)⟩
 have:=hrow4.kept (grownBy_putObj_a w4 l (.loop { { apRec fn sv Bs D .ready none with state:=.busy } with state:=if (none:Option Code).isNone then .ready else .done,pending:=none })) (ownsRow_ne_a hrow4 hL4 (fun cur e=>by first | cases e | exact hne (Obj.cells.inj e).2.1))
 simpa [cellsOfF] using this
set_option maxHeartbeats 2000000 in
theorem appendSeq_in (F:Fence) (n:Nat) (h11:F.fn (137)) (hro:F.round=none) (hn:2≤n) (g:Nat) (lb:Array Value) (hFg:F.fn g) (eg:∀ args w,(callFunc g args).run Tryz.prog w=.ok (.enter g args) w)
   (S:List Fct→Prop) (N:Nat) (hN:N≤maxLen) (hNb:N*24≤140737488355328) (w:World) (hseq:SeqGives F (n - 1) Tryz.prog g lb factV S N w) :
   CallsIn F n Tryz.prog (137) #[.slice none 0 0,.func (.func g) #[] lb] w fun e w'=>∃ (v:Value) (ss:List Fct),e=.returned v∧S ss∧w'.ownsRow w.heap.size (45) 3 v ss.length (cellsOfF ss)∧(v=.slice none 0 0↔ss=[])∧Below w.heap.size w w':=by
 have h1:1≤n:=by omega
 have hne:39≠45:=by decide
 refine callsIn_of_wp_marks Tryz.func137 rfl h11 ?_ hro
 simp only [Tryz.ntmps137,List.size_toArray,List.length_cons,List.length_nil,Nat.reduceAdd,Nat.reduceSub,Array.replicate_succ,Array.replicate_zero,List.push_toArray,List.append_toArray,List.nil_append,List.cons_append]
 gi_wp2
 refine wpIn_rangeFunc ?_
 intro fn hfn
 rw [hro]
 obtain ⟨W0,hW0⟩:∃ W0,w.alloc (.cells #[.slice none 0 0] (39))=W0:=⟨_,rfl⟩
 have hs0:W0.heap.size=w.heap.size+1:=by rw [←hW0];simp
 have hv0:W0.heap[w.heap.size]? = some (.cells #[.slice none 0 0] (39) (0,0)):=by rw [←hW0];exact World.alloc_heap_new w _
 have hb0:Below w.heap.size w W0:=by rw [←hW0];exact (Below.refl _ w).alloc (Nat.le_refl _) _
 rw [hW0]
 obtain ⟨W1,hW1⟩:∃ W1,(W0.alloc (.deferred (some []))).alloc (.loop (apRec fn (.func (.func g) #[] lb) w.heap.size W0.heap.size .ready none))=W1:=⟨_,rfl⟩
 have hold:∀ k,k < W0.heap.size→W1.heap[k]? = W0.heap[k]?:=fun k hk=>by
   rw [←hW1];exact (Below.heap_alloc _ _ k (by simp;omega)).trans (Below.heap_alloc _ _ k hk)
 have hb1:Below w.heap.size w W1:=by rw [←hW1];exact (hb0.alloc hb0.size _).alloc (by have:=hb0.size;simp;omega) _
 have hs1:W1.heap.size=W0.heap.size+2:=by rw [←hW1];simp
 have hM:ApAt w fn (.func (.func g) #[] lb) w.heap.size (W0.heap.size+1) W0.heap.size [] W1 :=
   ⟨⟨_,(hold w.heap.size (by omega)).trans hv0,⟨rfl,.inl ⟨rfl,rfl⟩⟩,by simp⟩,
    by rw [←hW1];have:=World.alloc_heap_new (W0.alloc (.deferred (some []))) (.loop (apRec fn (.func (.func g) #[] lb) w.heap.size W0.heap.size .ready none));rwa [World.size_alloc] at this,
    by rw [←hW1];exact (Below.heap_alloc _ _ _ (by simp)).trans (World.alloc_heap_new W0 _),hb1⟩
 refine ⟨W0.heap.size+1,[{ target:=.collected W0.heap.size,args:=#[] }],W1,{ target:=.fn (.func g) lb,args:=#[.func (.yield (W0.heap.size+1)) #[] #[]] },W1,g,
   #[.func (.yield (W0.heap.size+1)) #[] #[]]++lb,W1,?_,?_,?_,?_,fun _=>h1,?_⟩
 · rw [←hW1];exact run_enterLoop_outer _ _ _ _ _
 · simp [resolve,go_sem]
 · intro f' hf';simp [Target.leads] at hf';subst hf';exact hFg
 · simp [invoke,go_sem,eg]
 · refine (hseq (W0.heap.size+1) (ApAt w fn (.func (.func g) #[] lb) w.heap.size (W0.heap.size+1) W0.heap.size) W1 hb1 (ap_abides _ _ _ _ _ _ _ hb1.size)
     (fun pre x W hJ hl=>apYield F (n - 1 - 1) w fn hfn _ w.heap.size (W0.heap.size+1) W0.heap.size (by omega) (by omega) (by omega) (Nat.le_refl _) (by omega) N hN hNb pre x W hJ hl) hM).mono ?_
   rintro e W2 ⟨⟨v0,rfl⟩,ss,hS,h2⟩
   obtain ⟨v,hv,hrow,hnil⟩:=h2.box
   have hend:=run_endLoop (P:=Tryz.prog) h2.L (by simp [apRec])
   obtain ⟨W3,hW3⟩:∃ W3,W2.putObj (W0.heap.size+1) (.loop { apRec fn (.func (.func g) #[] lb) w.heap.size W0.heap.size .ready none with state:=.exhausted })=W3:=⟨_,rfl⟩
   rw [hW3] at hend
   have hg3:W2.grownBy W3 (some (W0.heap.size+1)):=by rw [←hW3];exact grownBy_putObj_a _ _ _
   have hv3:W3.heap[w.heap.size]? = some (.cells #[v] (39) (0,0)):=by rw [←hW3];exact (World.putObj_heap_other (by omega)).trans hv
   have hK3:W3.heap[W0.heap.size]? = some (.deferred (some [])):=by rw [←hW3];exact (World.putObj_heap_other (by omega)).trans h2.K
   have hrow3:=hrow.kept hg3 (ownsRow_ne_a hrow h2.L (fun cur e=>by first | cases e | exact hne (Obj.cells.inj e).2.1))
   have hb3:Below w.heap.size w W3:=h2.below.grown hg3 h2.below.size (fun k e=>by cases e;omega)
   obtain ⟨hc3,hf3⟩:=cell_of_box_a hv3
   clear hW3
   refine ⟨none,W3,hend,?_⟩
   gi_wp2
   rw [←hs0]
   refine ⟨by simp,.inl ⟨_,_,rfl,run_takeDeferred hK3,?_⟩⟩
   exact ⟨_,results_tmp rfl _ _ _,v,ss,rfl,hS,hrow3.kept (grownBy_putObj_a _ _ _) (ownsRow_ne_a hrow3 hK3 (fun cur e=>by first | cases e | exact hne (Obj.cells.inj e).2.1)),hnil,hb3.grown (grownBy_putObj_a _ _ _) hb3.size (fun k e=>by cases e;omega)⟩
set_option maxHeartbeats 1000000 in
theorem collect_in (F:Fence) (n:Nat) (h8:F.fn (114)) (h11:F.fn (137)) (hro:F.round=none) (hn:3≤n) (g:Nat) (lb:Array Value) (hFg:F.fn g) (eg:∀ args w,(callFunc g args).run Tryz.prog w=.ok (.enter g args) w)
   (S:List Fct→Prop) (N:Nat) (hN:N≤maxLen) (hNb:N*24≤140737488355328) (w:World) (hseq:SeqGives F (n - 1 - 1) Tryz.prog g lb factV S N w) :
   CallsIn F n Tryz.prog (114) #[.func (.func g) #[] lb] w fun e w'=>∃ (v:Value) (ss:List Fct),e=.returned v∧S ss∧w'.ownsRow w.heap.size (45) 3 v ss.length (cellsOfF ss)∧(v=.slice none 0 0↔ss=[])∧Below w.heap.size w w':=by
 have h1:1≤n:=by omega
 have e11:∀ args w,(callFunc (137) args).run Tryz.prog w=.ok (.enter (137) args) w:=fun args w=>enters_of Tryz.func137 (by kernel_rfl) rfl args w
 refine callsIn_of_wp Tryz.func114 rfl h8 ?_ hro
 simp only [Tryz.ntmps114,List.size_toArray,List.length_cons,List.length_nil,Nat.reduceAdd,Nat.reduceSub,Array.replicate_succ,Array.replicate_zero,List.push_toArray,List.append_toArray,List.nil_append,List.cons_append]
 gi_wp2_with (gi_at_fn (137);refine (appendSeq_in F (n - 1) h11 hro (by omega) g lb hFg eg S N hN hNb _ hseq).mono ?_;rintro e w' ⟨v,ss,rfl,hS,hrow,hnil,hb⟩)
 go_ret
 exact ⟨v,ss,rfl,hS,hrow,hnil,hb⟩
end Go.Proofs.YtjbabpnepjhllaaGreat
namespace Go.Proofs.YtjbabpnepjhllaaGreat
open Go.Shelf
def Tryz.lays128_ren:Go.Shelf.Ren:=⟨fun | 128=>159 | n=>n,fun | 51=>149 | 3=>3 | 4=>4 | 46=>93 | 5=>5 | 9=>9 | n=>n,fun | n=>n⟩
theorem Tryz.lays128:Go.Proofs.Lays.n128 Tryz.prog Tryz.lays128_ren:={
 mixed:=by kernel_rfl
 f128:=Tryz.func159.trans (congrArg some (by kernel_rfl))
 t3:=Tryz.underlying3
 a3:=Tryz.isAgg3
 z3:=Tryz.sizeOf3
 v3:=Tryz.zeroValue3
 t4:=Tryz.underlying4
 a4:=Tryz.isAgg4
 z4:=Tryz.sizeOf4
 v4:=Tryz.zeroValue4
 t5:=Tryz.underlying5
 a5:=Tryz.isAgg5
 z5:=Tryz.sizeOf5
 v5:=Tryz.zeroValue5
 t9:=Tryz.underlying9
 a9:=Tryz.isAgg9
 z9:=Tryz.sizeOf9
 v9:=Tryz.zeroValue9
 t46:=Tryz.underlying93
 a46:=Tryz.isAgg93
 z46:=Tryz.sizeOf93
 v46:=Tryz.zeroValue93
 t51:=Tryz.underlying149
 a51:=Tryz.isAgg149
 z51:=Tryz.sizeOf149
 v51:=Tryz.zeroValue149 }
theorem Tryz.bits_Len32 (x:Int) (w:World) (h0:0≤x) (h1:x≤4294967295) :
   Calls Tryz.prog 159 #[.int .u32 x] w fun e w'=>e=.returned (.int .i64 (Lib.bitLen x.toNat))∧w'=w:=Any.bits_Len32 Tryz.lays128 x w h0 h1
def Tryz.lays125_ren:Go.Shelf.Ren:=⟨fun | 125=>139 | 128=>159 | 129=>160 | n=>n,fun | 46=>93 | 3=>3 | 51=>149 | 53=>41 | 4=>4 | 5=>5 | 9=>9 | n=>n,fun | n=>n⟩
theorem Tryz.lays125:Go.Proofs.Lays.n125 Tryz.prog Tryz.lays125_ren:={
 mixed:=by kernel_rfl
 f125:=Tryz.func139.trans (congrArg some (by kernel_rfl))
 f128:=Tryz.func159.trans (congrArg some (by kernel_rfl))
 f129:=Tryz.func160.trans (congrArg some (by kernel_rfl))
 t3:=Tryz.underlying3
 a3:=Tryz.isAgg3
 z3:=Tryz.sizeOf3
 v3:=Tryz.zeroValue3
 t4:=Tryz.underlying4
 a4:=Tryz.isAgg4
 z4:=Tryz.sizeOf4
 v4:=Tryz.zeroValue4
 t5:=Tryz.underlying5
 a5:=Tryz.isAgg5
 z5:=Tryz.sizeOf5
 v5:=Tryz.zeroValue5
 t9:=Tryz.underlying9
 a9:=Tryz.isAgg9
 z9:=Tryz.sizeOf9
 v9:=Tryz.zeroValue9
 t46:=Tryz.underlying93
 a46:=Tryz.isAgg93
 z46:=Tryz.sizeOf93
 v46:=Tryz.zeroValue93
 t51:=Tryz.underlying149
 a51:=Tryz.isAgg149
 z51:=Tryz.sizeOf149
 v51:=Tryz.zeroValue149
 t53:=Tryz.underlying41
 a53:=Tryz.isAgg41
 z53:=Tryz.sizeOf41
 v53:=Tryz.zeroValue41 }
theorem Tryz.bits_Len (x:Int) (w:World) (h0:0≤x) (h1:x≤18446744073709551615) :
   Calls Tryz.prog 139 #[.int .u64 x] w fun e w'=>e=.returned (.int .i64 (Lib.bitLen x.toNat))∧w'=w:=Any.bits_Len Tryz.lays125 x w h0 h1
def Tryz.lays215_ren:Go.Shelf.Ren:=⟨fun | 215=>140 | n=>n,fun | 3=>3 | 4=>4 | n=>n,fun | n=>n⟩
theorem Tryz.lays215:Go.Proofs.Lays.n215 Tryz.prog Tryz.lays215_ren:={
 mixed:=by kernel_rfl
 f215:=Tryz.func140.trans (congrArg some (by kernel_rfl))
 t3:=Tryz.underlying3
 a3:=Tryz.isAgg3
 z3:=Tryz.sizeOf3
 v3:=Tryz.zeroValue3
 t4:=Tryz.underlying4
 a4:=Tryz.isAgg4
 z4:=Tryz.sizeOf4
 v4:=Tryz.zeroValue4 }
open Go.RowKit in
theorem Tryz.cmp_isNaN_int (x:Int) (w:World) :
   Calls Tryz.prog 140 #[.int .i64 x] w fun e w'=>e=.returned (.bool false)∧w'=w:=Any.cmp_isNaN_int Tryz.lays215 x w
def Tryz.lays122_ren:Go.Shelf.Ren:=⟨fun | 122=>118 | 215=>140 | n=>n,fun | 3=>3 | 4=>4 | n=>n,fun | n=>n⟩
theorem Tryz.lays122:Go.Proofs.Lays.n122 Tryz.prog Tryz.lays122_ren:={
 mixed:=by kernel_rfl
 f122:=Tryz.func118.trans (congrArg some (by kernel_rfl))
 f215:=Tryz.func140.trans (congrArg some (by kernel_rfl))
 t3:=Tryz.underlying3
 a3:=Tryz.isAgg3
 z3:=Tryz.sizeOf3
 v3:=Tryz.zeroValue3
 t4:=Tryz.underlying4
 a4:=Tryz.isAgg4
 z4:=Tryz.sizeOf4
 v4:=Tryz.zeroValue4 }
open Go.RowKit in
theorem Tryz.cmp_Compare_int (x y:Int) (w:World) :
   Calls Tryz.prog 118 #[.int .i64 x,.int .i64 y] w fun e w'=>e=.returned (.int .i64 (Lib.compareInt x y))∧w'=w:=Any.cmp_Compare_int Tryz.lays122 x y w
def Tryz.lays129_ren:Go.Shelf.Ren:=⟨fun | 129=>160 | n=>n,fun | 53=>41 | 3=>3 | 4=>4 | 46=>93 | 5=>5 | 9=>9 | n=>n,fun | n=>n⟩
theorem Tryz.lays129:Go.Proofs.Lays.n129 Tryz.prog Tryz.lays129_ren:={
 mixed:=by kernel_rfl
 f129:=Tryz.func160.trans (congrArg some (by kernel_rfl))
 t3:=Tryz.underlying3
 a3:=Tryz.isAgg3
 z3:=Tryz.sizeOf3
 v3:=Tryz.zeroValue3
 t4:=Tryz.underlying4
 a4:=Tryz.isAgg4
 z4:=Tryz.sizeOf4
 v4:=Tryz.zeroValue4
 t5:=Tryz.underlying5
 a5:=Tryz.isAgg5
 z5:=Tryz.sizeOf5
 v5:=Tryz.zeroValue5
 t9:=Tryz.underlying9
 a9:=Tryz.isAgg9
 z9:=Tryz.sizeOf9
 v9:=Tryz.zeroValue9
 t46:=Tryz.underlying93
 a46:=Tryz.isAgg93
 z46:=Tryz.sizeOf93
 v46:=Tryz.zeroValue93
 t53:=Tryz.underlying41
 a53:=Tryz.isAgg41
 z53:=Tryz.sizeOf41
 v53:=Tryz.zeroValue41 }
theorem Tryz.bits_Len64 (x:Int) (w:World) (h0:0≤x) (h1:x≤18446744073709551615) :
   Calls Tryz.prog 160 #[.int .u64 x] w fun e w'=>e=.returned (.int .i64 (Lib.bitLen x.toNat))∧w'=w:=Any.bits_Len64 Tryz.lays129 x w h0 h1
def Tryz.lays264_ren:Go.Shelf.Ren:=⟨fun | 264=>131 | n=>n,fun | 53=>41 | 46=>93 | n=>n,fun | n=>n⟩
theorem Tryz.lays264:Go.Proofs.Lays.n264 Tryz.prog Tryz.lays264_ren:={
 mixed:=by kernel_rfl
 f264:=Tryz.func131.trans (congrArg some (by kernel_rfl))
 t46:=Tryz.underlying93
 a46:=Tryz.isAgg93
 z46:=Tryz.sizeOf93
 v46:=Tryz.zeroValue93
 t53:=Tryz.underlying41
 a53:=Tryz.isAgg41
 z53:=Tryz.sizeOf41
 v53:=Tryz.zeroValue41 }
open Go.RowKit Go.Lib in
theorem Tryz.bits_Mul64 (x y:Nat) (hx:x < 18446744073709551616) (hy:y < 18446744073709551616) (w:World) :
   Calls Tryz.prog 131 #[.int .u64 x,.int .u64 y] w fun e w'=>e=.returned (.tuple #[.int .u64 ((x*y / 18446744073709551616:Nat):Int),.int .u64 ((x*y % 18446744073709551616:Nat):Int)])∧w'=w:=Any.bits_Mul64 Tryz.lays264 x y hx hy w
def Tryz.lays212_ren:Go.Shelf.Ren:=⟨fun | 212=>106 | 263=>130 | 264=>131 | n=>n,fun | 46=>93 | 51=>149 | 146=>150 | 53=>41 | 148=>144 | n=>n,fun | n=>n⟩
theorem Tryz.lays212:Go.Proofs.Lays.n212 Tryz.prog Tryz.lays212_ren:={
 mixed:=by kernel_rfl
 f212:=Tryz.func106.trans (congrArg some (by kernel_rfl))
 f263:=Tryz.func130.trans (congrArg some (by kernel_rfl))
 f264:=Tryz.func131.trans (congrArg some (by kernel_rfl))
 t46:=Tryz.underlying93
 a46:=Tryz.isAgg93
 z46:=Tryz.sizeOf93
 v46:=Tryz.zeroValue93
 t51:=Tryz.underlying149
 a51:=Tryz.isAgg149
 z51:=Tryz.sizeOf149
 v51:=Tryz.zeroValue149
 t53:=Tryz.underlying41
 a53:=Tryz.isAgg41
 z53:=Tryz.sizeOf41
 v53:=Tryz.zeroValue41
 t146:=Tryz.underlying150
 a146:=Tryz.isAgg150
 z146:=Tryz.sizeOf150
 v146:=Tryz.zeroValue150
 t148:=Tryz.underlying144
 a148:=Tryz.isAgg144
 z148:=Tryz.sizeOf144
 v148:=Tryz.zeroValue144 }
open Go.RowKit Go.Lib in
theorem Tryz.bits_Mul (x y:Nat) (hx:x < 18446744073709551616) (hy:y < 18446744073709551616) (w:World) :
   Calls Tryz.prog 106 #[.int .u64 x,.int .u64 y] w fun e w'=>e=.returned (.tuple #[.int .u64 ((x*y / 18446744073709551616:Nat):Int),.int .u64 ((x*y % 18446744073709551616:Nat):Int)])∧w'=w:=Any.bits_Mul Tryz.lays212 x y hx hy w
def Tryz.laysNm237_ren:Go.Shelf.Ren:=⟨fun | 37=>140 | n=>n,fun | 3=>3 | 4=>4 | n=>n,fun | n=>n⟩
theorem Tryz.laysNm237:Go.Proofs.Lays2.n37 Tryz.prog Tryz.laysNm237_ren:={
 mixed:=by kernel_rfl
 f37:=Tryz.func140.trans (congrArg some (by kernel_rfl))
 t3:=Tryz.underlying3
 a3:=Tryz.isAgg3
 z3:=Tryz.sizeOf3
 v3:=Tryz.zeroValue3
 t4:=Tryz.underlying4
 a4:=Tryz.isAgg4
 z4:=Tryz.sizeOf4
 v4:=Tryz.zeroValue4 }
open Go.RowKit Go.Lib in
theorem Tryz.cmp_isNaN_int2 (x:Int) (w:World) :
   Calls Tryz.prog 140 #[.int .i64 x] w fun e w'=>e=.returned (.bool false)∧w'=w:=Any.cmp_isNaN_int2 Tryz.laysNm237 x w
end Go.Proofs.YtjbabpnepjhllaaGreat
namespace Go.Proofs.YtjbabpnepjhllaaGreat
open Go.Shelf
def Tryz.sortS_ren:Go.Shelf.Ren:=⟨fun | 6=>115 | 15=>139 | 14=>138 | 28=>159 | 29=>160 | 20=>151 | 21=>152 | 22=>153 | 23=>154 | 24=>155 | 25=>156 | 26=>157 | 27=>158 | 46=>161 | 47=>162 | 48=>163 | 49=>164 | 50=>165 | 57=>166 | n=>n,fun | 22=>39 | 24=>45 | 25=>113 | 3=>3 | 39=>93 | 0=>0 | 53=>149 | 55=>41 | 4=>4 | 46=>161 | 45=>160 | 50=>115 | 5=>5 | 9=>9 | 66=>167 | 70=>171 | 76=>173 | 77=>174 | n=>n,fun | n=>n⟩
theorem Tryz.sortS:Go.Proofs.SlLaysF0.n6 Tryz.prog Tryz.sortS_ren:={
 mixed:=by kernel_rfl
 f6:=⟨Tryz.f115.name,by decide,Tryz.func115.trans (congrArg some (by kernel_rfl))⟩
 f14:=⟨Tryz.f138.name,by decide,Tryz.func138.trans (congrArg some (by kernel_rfl))⟩
 f15:=Tryz.func139.trans (congrArg some (by kernel_rfl))
 f20:=⟨Tryz.f151.name,by decide,Tryz.func151.trans (congrArg some (by kernel_rfl))⟩
 f21:=⟨Tryz.f152.name,by decide,Tryz.func152.trans (congrArg some (by kernel_rfl))⟩
 f22:=⟨Tryz.f153.name,by decide,Tryz.func153.trans (congrArg some (by kernel_rfl))⟩
 f23:=⟨Tryz.f154.name,by decide,Tryz.func154.trans (congrArg some (by kernel_rfl))⟩
 f24:=⟨Tryz.f155.name,by decide,Tryz.func155.trans (congrArg some (by kernel_rfl))⟩
 f25:=⟨Tryz.f156.name,by decide,Tryz.func156.trans (congrArg some (by kernel_rfl))⟩
 f26:=⟨Tryz.f157.name,by decide,Tryz.func157.trans (congrArg some (by kernel_rfl))⟩
 f27:=⟨Tryz.f158.name,by decide,Tryz.func158.trans (congrArg some (by kernel_rfl))⟩
 f28:=Tryz.func159.trans (congrArg some (by kernel_rfl))
 f29:=Tryz.func160.trans (congrArg some (by kernel_rfl))
 f46:=⟨Tryz.f161.name,by decide,Tryz.func161.trans (congrArg some (by kernel_rfl))⟩
 f47:=Tryz.func162.trans (congrArg some (by kernel_rfl))
 f48:=Tryz.func163.trans (congrArg some (by kernel_rfl))
 f49:=⟨Tryz.f164.name,by decide,Tryz.func164.trans (congrArg some (by kernel_rfl))⟩
 f50:=⟨Tryz.f165.name,by decide,Tryz.func165.trans (congrArg some (by kernel_rfl))⟩
 f57:=⟨Tryz.f166.name,by decide,Tryz.func166.trans (congrArg some (by kernel_rfl))⟩
 t0:=Tryz.underlying0
 a0:=Tryz.isAgg0
 z0:=Tryz.sizeOf0
 v0:=Tryz.zeroValue0
 t3:=Tryz.underlying3
 a3:=Tryz.isAgg3
 z3:=Tryz.sizeOf3
 v3:=Tryz.zeroValue3
 t4:=Tryz.underlying4
 a4:=Tryz.isAgg4
 z4:=Tryz.sizeOf4
 v4:=Tryz.zeroValue4
 t5:=Tryz.underlying5
 a5:=Tryz.isAgg5
 z5:=Tryz.sizeOf5
 v5:=Tryz.zeroValue5
 t9:=Tryz.underlying9
 a9:=Tryz.isAgg9
 z9:=Tryz.sizeOf9
 v9:=Tryz.zeroValue9
 t22:=Tryz.underlying39
 a22:=Tryz.isAgg39
 z22:=Tryz.sizeOf39
 v22:=Tryz.zeroValue39
 t25:=Tryz.underlying113
 a25:=Tryz.isAgg113
 z25:=Tryz.sizeOf113
 v25:=Tryz.zeroValue113
 t39:=Tryz.underlying93
 a39:=Tryz.isAgg93
 z39:=Tryz.sizeOf93
 v39:=Tryz.zeroValue93
 t45:=Tryz.underlying160
 a45:=Tryz.isAgg160
 z45:=Tryz.sizeOf160
 v45:=Tryz.zeroValue160
 t46:=Tryz.underlying161
 a46:=Tryz.isAgg161
 z46:=Tryz.sizeOf161
 v46:=Tryz.zeroValue161
 t50:=Tryz.underlying115
 a50:=Tryz.isAgg115
 z50:=Tryz.sizeOf115
 v50:=Tryz.zeroValue115
 t53:=Tryz.underlying149
 a53:=Tryz.isAgg149
 z53:=Tryz.sizeOf149
 v53:=Tryz.zeroValue149
 t55:=Tryz.underlying41
 a55:=Tryz.isAgg41
 z55:=Tryz.sizeOf41
 v55:=Tryz.zeroValue41
 t66:=Tryz.underlying167
 a66:=Tryz.isAgg167
 z66:=Tryz.sizeOf167
 v66:=Tryz.zeroValue167
 t70:=Tryz.underlying171
 a70:=Tryz.isAgg171
 z70:=Tryz.sizeOf171
 v70:=Tryz.zeroValue171
 t76:=Tryz.underlying173
 a76:=Tryz.isAgg173
 z76:=Tryz.sizeOf173
 v76:=Tryz.zeroValue173
 t77:=Tryz.underlying174
 a77:=Tryz.isAgg174
 z77:=Tryz.sizeOf174
 v77:=Tryz.zeroValue174 }
end Go.Proofs.YtjbabpnepjhllaaGreat
namespace Go.Proofs.YtjbabpnepjhllaaGreat
open Go.RowKit
set_option maxRecDepth 100000
def Grw (W w:World):Prop:=∃ q os,w=Go.Sort.grow (W.drewN q) os
theorem Grw.refl (W:World):Grw W W:=⟨0,#[],by simp [Go.Sort.grow,World.drewN]⟩
theorem grow_drew (W:World) (q:Nat) (os:Array Obj):(Go.Sort.grow (W.drewN q) os).drew=Go.Sort.grow (W.drewN (q+1)) os:=by
 show (Go.Sort.grow (W.drewN q) os).drewN 1=_
 rw [show (Go.Sort.grow (W.drewN q) os).drewN 1=Go.Sort.grow ((W.drewN q).drewN 1) os from rfl,World.drewN_drewN]
theorem Grw.drew {W w:World} (h:Grw W w):Grw W w.drew:=by
 obtain ⟨q,os,rfl⟩:=h
 exact ⟨q+1,os,grow_drew W q os⟩
theorem Grw.alloc {W w:World} (h:Grw W w) (o:Obj):Grw W (w.alloc o):=by
 obtain ⟨q,os,rfl⟩:=h
 exact ⟨q,os ++ #[o],by rw [Go.Sort.alloc_eq_grow,Go.Sort.grow_grow]⟩
theorem Grw.below {W w:World} (h:Grw W w):Below W.heap.size W w:=by
 obtain ⟨q,os,rfl⟩:=h
 refine ⟨rfl,rfl,rfl,by show W.heap.size≤(W.heap++os).size;simp,fun k hk=>?_⟩
 show (W.heap++os)[k]? = _
 rw [Array.getElem?_append_left hk]
def or3 (p q r:Int):Int:=if p≠0 then p else if q≠0 then q else r
set_option maxHeartbeats 1000000 in
theorem or3_any (g:Nat) (p q r:Int) (w:World) (h:w.heap[g]? = some (.cells (intV [p,q,r]).toArray 3 (0,0))) :
   Calls Tryz.prog 117 #[.slice (some ⟨g,0,none⟩) 3 3] w fun e w'=>e=.returned (.int .i64 (or3 p q r))∧w'=w:=by
 unfold or3
 have c0:w.cell? ⟨g,0,none⟩=some (.int .i64 p):=by simp [World.cell?,h,intV]
 have c1:w.cell? ⟨g,1,none⟩=some (.int .i64 q):=by simp [World.cell?,h,intV]
 have c2:w.cell? ⟨g,2,none⟩=some (.int .i64 r):=by simp [World.cell?,h,intV]
 clear h
 by_cases hp:p=0
 · have d0:((p:Int) != 0)=false:=by simpa using hp
   rw [if_neg (fun h=>h hp)]
   by_cases hq:q=0
   · have d1:((q:Int) != 0)=false:=by simpa using hq
     rw [if_neg (fun h=>h hq)]
     by_cases hr:r=0
     · have d2:((r:Int) != 0)=false:=by simpa using hr
       subst hr
       clear hp hq
       go_enter Tryz.func117,Tryz.ntmps117
       go_wp2
       refine wp_loop_rounds 4 ?_
       iterate 4 (rw [rounds_succ];go_wp2)
       go_ret
       exact ⟨rfl,rfl⟩
     · have d2:((r:Int) != 0)=true:=by simpa using hr
       clear hp hq
       go_enter Tryz.func117,Tryz.ntmps117
       go_wp2
       refine wp_loop_rounds 3 ?_
       iterate 3 (rw [rounds_succ];go_wp2)
       go_ret
       exact ⟨rfl,rfl⟩
   · have d1:((q:Int) != 0)=true:=by simpa using hq
     rw [if_pos hq]
     clear hp
     go_enter Tryz.func117,Tryz.ntmps117
     go_wp2
     refine wp_loop_rounds 2 ?_
     iterate 2 (rw [rounds_succ];go_wp2)
     go_ret
     exact ⟨rfl,rfl⟩
 · have d0:((p:Int) != 0)=true:=by simpa using hp
   rw [if_pos hp]
   go_enter Tryz.func117,Tryz.ntmps117
   go_wp2
   refine wp_loop_rounds 1 ?_
   iterate 1 (rw [rounds_succ];go_wp2)
   go_ret
   exact ⟨rfl,rfl⟩
theorem cmp3_lt (x y:Fct):Go.Proofs.ltOf (fun x y:Fct=>or3 (Lib.compareInt x.kind y.kind) (Lib.compareInt x.a y.a) (Lib.compareInt x.b y.b)) x y=ltF x y:=by
 unfold Go.Proofs.ltOf ltF or3 Lib.compareInt
 by_cases h1:x.kind < y.kind
 · simp [h1]
 · by_cases h2:y.kind < x.kind
   · simp [h1,h2];omega
   · have h3:x.kind=y.kind:=by omega
     by_cases h4:x.a < y.a
     · simp [h3,h4]
     · by_cases h5:y.a < x.a
       · simp [h3,h4,h5];omega
       · have h6:x.a=y.a:=by omega
         by_cases h7:x.b < y.b
         · simp [h3,h6,h7]
         · by_cases h8:y.b < x.b <;> simp [h3,h6,h7,h8]
def cmpF (x y:Fct):Int:=or3 (Lib.compareInt x.kind y.kind) (Lib.compareInt x.a y.a) (Lib.compareInt x.b y.b)
theorem swoF:Go.Sort.SWO (Go.Proofs.ltOf cmpF) where
 irrefl x:=by rw [show Go.Proofs.ltOf cmpF x x=_ from cmp3_lt x x];exact ltF_irr x
 trans x y z h1 h2:=by rw [show Go.Proofs.ltOf cmpF x y=_ from cmp3_lt x y] at h1;rw [show Go.Proofs.ltOf cmpF y z=_ from cmp3_lt y z] at h2;rw [show Go.Proofs.ltOf cmpF x z=_ from cmp3_lt x z];exact ltF_trans h1 h2
 ntrans x y z h1 h2:=by
   rw [show Go.Proofs.ltOf cmpF x y=_ from cmp3_lt x y] at h1;rw [show Go.Proofs.ltOf cmpF y z=_ from cmp3_lt y z] at h2;rw [show Go.Proofs.ltOf cmpF x z=_ from cmp3_lt x z]
   cases h:ltF x z
   · rfl
   · by_cases e:x=y
     · subst e;rw [h] at h2;cases h2
     · have h3:=ltF_total h1 e
       rw [ltF_trans h3 h] at h2;cases h2
set_option maxHeartbeats 1000000 in
theorem compare_any (x y:Fct) (w:World):Calls Tryz.prog 82 #[.agg #[.int .i64 x.kind,.int .i64 x.a,.int .i64 x.b],.agg #[.int .i64 y.kind,.int .i64 y.a,.int .i64 y.b]] w fun e w'=>e=.returned (.int .i64 (cmpF x y))∧∃ q os',w'=Go.Sort.grow (w.drewN q) os':=by
 have H1:=Lh fun W'=>Tryz.cmp_Compare_int x.kind y.kind W'
 have H2:=Lh fun W'=>Tryz.cmp_Compare_int x.a y.a W'
 have H3:=Lh fun W'=>Tryz.cmp_Compare_int x.b y.b W'
 have HO:=Lh or3_any
 unfold cmpF
 generalize Lib.compareInt x.kind y.kind=p at H1 ⊢
 generalize Lib.compareInt x.a y.a=q at H2 ⊢
 generalize Lib.compareInt x.b y.b=r at H3 ⊢
 obtain ⟨W,hW,hg,hx,hy,hz⟩:∃ W,W=(w.alloc (.cells #[.int .i64 x.kind,.int .i64 x.a,.int .i64 x.b] 45)).alloc (.cells #[.int .i64 y.kind,.int .i64 y.a,.int .i64 y.b] 45)∧Grw w W ∧
     (∀ i,W.cell? ⟨w.heap.size,i,none⟩=#[Value.int .i64 x.kind,.int .i64 x.a,.int .i64 x.b][i]?)∧(∀ i,W.cell? ⟨w.heap.size+1,i,none⟩=#[Value.int .i64 y.kind,.int .i64 y.a,.int .i64 y.b][i]?)∧W.heap.size=w.heap.size+2:=by
   refine ⟨_,rfl,((Grw.refl w).alloc _).alloc _,fun i=>?_,fun i=>?_,by simp⟩
   · rw [((Below.refl _ (w.alloc _)).alloc (Nat.le_refl _) _).cell (p:=⟨w.heap.size,i,none⟩) (by simp),World.cell?_alloc_at _ _ _ _ rfl]
   · rw [World.cell?_alloc_at _ _ _ _ (by simp)]
 have f0:=hx 0
 have f1:=hx 1
 have f2:=hx 2
 have g0:=hy 0
 have g1:=hy 1
 have g2:=hy 2
 simp only [List.getElem?_toArray,List.getElem?_cons_zero,List.getElem?_cons_succ] at f0 f1 f2 g0 g1 g2
 have HC:=Lh (show ∀ w_,Grw W w_→w_.cell? ⟨w.heap.size,0,none⟩=some (.int .i64 x.kind)∧w_.cell? ⟨w.heap.size,1,none⟩=some (.int .i64 x.a)∧w_.cell? ⟨w.heap.size,2,none⟩=some (.int .i64 x.b)∧w_.cell? ⟨w.heap.size+1,0,none⟩=some (.int .i64 y.kind)∧w_.cell? ⟨w.heap.size+1,1,none⟩=some (.int .i64 y.a)∧w_.cell? ⟨w.heap.size+1,2,none⟩=some (.int .i64 y.b) from fun w_ h=>by
   have hb:=h.below
   refine ⟨(hb.cell ?_).trans f0,(hb.cell ?_).trans f1,(hb.cell ?_).trans f2,(hb.cell ?_).trans g0,(hb.cell ?_).trans g1,(hb.cell ?_).trans g2⟩ <;> (simp only;omega))
 have HW:=Lh hW
 have HG:=Lh hg
 clear hx hy f0 f1 f2 g0 g1 g2 hz hW hg
 go_enter Tryz.func82,Tryz.ntmps82
 go_upto_region 1 with fail
 rw [←HW.out]
 go_wp2
 have HS:=Lh (Grw.refl W).drew
 obtain ⟨W1,hW1⟩:∃ W1,W1=W.drew.alloc (.cells (intV [p,q,r]).toArray 3):=⟨_,rfl⟩
 have HS1:=Lh (show Grw W W1 by rw [hW1];exact (Grw.refl W).drew.alloc _)
 have HB1:=Lh (show W1.heap[W.heap.size]? = some (.cells (intV [p,q,r]).toArray 3 (0,0)) by rw [hW1];exact heap_alloc_new W.drew _)
 have HW1:=Lh hW1
 clear hW1
 (refine wp_region_lines (Grw W) (by kernel_rfl) (by kernel_rfl) (Grw.refl W).drew ?_)
 (try simp only [])
 repeat (first | (refine runL_no (by rfl) ?_;(try simp only [Act.put,List.setIfInBounds_toArray,List.set_cons_zero,List.set_cons_succ])) | (refine runL_val (v:=?_) (by rfl) ?_ ?_;rotate_left;(focus (intro w_ hw_;obtain ⟨c0_,c1_,c2_,c3_,c4_,c5_⟩:=HC.out w_ hw_;go_simp;(try with_reducible rfl);done));(try simp only [Act.put,List.setIfInBounds_toArray,List.set_cons_zero,List.set_cons_succ])) | (refine runL_call (f:=?_) (args:=?_) (w1:=?_) (by rfl) (by rfl) ?_ ?_;rotate_left 3;(focus (go_simp;refine ⟨⟨?_,?_⟩,?_⟩ <;> with_reducible rfl));(first | (with_reducible refine (H1.out _).mono ?_;rintro e w1 ⟨rfl,rfl⟩;refine ⟨_,rfl,.inr (by exact HS.out),?_⟩) | (with_reducible refine (H2.out _).mono ?_;rintro e w1 ⟨rfl,rfl⟩;refine ⟨_,rfl,.inr (by exact HS.out),?_⟩) | (with_reducible refine (H3.out _).mono ?_;rintro e w1 ⟨rfl,rfl⟩;refine ⟨_,rfl,.inr (by exact HS.out),?_⟩) | (with_reducible refine (HO.out _ p q r _ HB1.out).mono ?_;rintro e w1 ⟨rfl,rfl⟩;refine ⟨_,rfl,.inr (by exact HS1.out),?_⟩));(try simp only [Act.put,List.setIfInBounds_toArray,List.set_cons_zero,List.set_cons_succ])) | (refine runL_op (v:=.slice (some ⟨W.heap.size,0,none⟩) 3 3) (w1:=W1) (by rfl) (by rfl) (by rw [HW1.out];exact exec_int3 _ _ _ rfl rfl rfl rfl) (.inr (by exact HS1.out)) ?_;(try simp only [Act.put,List.setIfInBounds_toArray,List.set_cons_zero,List.set_cons_succ])))
 (refine runL_nil ?_)
 go_wp2
 go_ret
 refine ⟨rfl,?_⟩
 obtain ⟨q1,o1,h1⟩:=HG.out
 obtain ⟨q2,o2,h2⟩:=HS1.out
 exact ⟨q1+q2,o1++o2,by rw [h2,h1,show (Go.Sort.grow (w.drewN q1) o1).drewN q2=Go.Sort.grow ((w.drewN q1).drewN q2) o1 from rfl,World.drewN_drewN,Go.Sort.grow_grow]⟩
end Go.Proofs.YtjbabpnepjhllaaGreat
namespace Go.Proofs.YtjbabpnepjhllaaGreat
open Go.RowKit Go.Sort
instance:Inhabited Fct:=⟨⟨0,0,0⟩⟩
theorem cellsF_len (l:List Fct):(cellsOfF l).length=l.length*3:=by
 unfold cellsOfF
 induction l with
 | nil=>rfl
 | cons a l ih=>simp only [List.map_cons,List.flatten_cons,List.length_append,ih,factRow,List.length_cons,List.length_nil];omega
theorem cellsF_get:∀ (l:List Fct) (j:Nat),(cellsOfF l)[j]? =(l[j / 3]?).bind fun x=>(factRow x)[j % 3]?
 | [],j=>by simp [cellsOfF]
 | a :: l,j=>by
   have e:cellsOfF (a :: l)=factRow a++cellsOfF l:=rfl
   rw [e]
   have h3:(factRow a).length=3:=rfl
   rcases Nat.lt_or_ge j 3 with h | h
   · rw [List.getElem?_append_left (by omega),Nat.div_eq_of_lt h,Nat.mod_eq_of_lt h];rfl
   · rw [List.getElem?_append_right (by omega),h3,cellsF_get l (j - 3)]
     obtain ⟨q,rfl⟩:∃ q,j=q+3:=⟨j - 3,by omega⟩
     rw [Nat.add_sub_cancel,Nat.add_div_right _ (by decide),Nat.add_mod_right]
     rfl
theorem flatF (d:Array Fct) {j:Nat} {u:Value} (hj:(cellsOfF d.toList)[j]? = some u):(flatK factRow 3 d)[j]! = u:=by
 have hlt:j < d.size*3:=by
   have:=(List.getElem?_eq_some_iff.1 hj).1
   rw [cellsF_len] at this
   simpa using this
 rw [get_flatK factRow 3 d j hlt]
 rw [cellsF_get] at hj
 obtain ⟨x,hx⟩:∃ x,d.toList[j / 3]? = some x:=⟨_,List.getElem?_eq_getElem (by simp;omega)⟩
 rw [hx] at hj
 have hd:d[j / 3]! = x:=by
   rw [Array.getElem!_eq_getD,Array.getD_eq_getD_getElem?,←Array.getElem?_toList,hx];rfl
 rw [hd]
 have hj':(factRow x)[j % 3]? = some u:=hj
 rw [List.getElem!_eq_getElem?_getD,hj'];rfl
theorem sortF_block (w:World) (g o m:Nat) (d:Array Fct) (os:Array Obj) {j:Nat} (hj:j < w.heap.size) (hne:j≠g):(Go.Proofs.sortWorldK factRow 3 w g o m d os).heap[j]? = w.heap[j]?:=by
 unfold Go.Proofs.sortWorldK Go.Sort.grow Go.Sort.putRowK Go.Sort.putRow Go.Sort.mapBlock Go.Sort.ahead
 show ((w.heap.modify g _)++os)[j]? = _
 rw [Array.getElem?_append_left (by simpa using hj),Array.getElem?_modify,if_neg (fun e=>hne e.symm)]
theorem sortF_at (w:World) (g o m:Nat) (d:Array Fct) (os:Array Obj) {cs:Array Value} {T:TypeId} {fr:Nat×Nat} (h:w.heap[g]? = some (.cells cs T fr)):(Go.Proofs.sortWorldK factRow 3 w g o m d os).heap[g]? = some (.cells (Go.Sort.putCells id o (Go.Sort.flatK factRow 3 d) cs) T fr):=by
 unfold Go.Proofs.sortWorldK Go.Sort.grow Go.Sort.putRowK Go.Sort.putRow Go.Sort.mapBlock Go.Sort.ahead
 show ((w.heap.modify g _)++os)[g]? = _
 rw [Array.getElem?_append_left (by simpa using lt_of_block h),Array.getElem?_modify,if_pos rfl,h]
 rfl
set_option maxHeartbeats 1000000 in
theorem sortFunc_any {base:Nat} {v:Value} {l:List Fct} (w:World) (h:w.ownsRow base 45 3 v l.length (cellsOfF l)) (hn:l.length≤100000) :
   Calls Tryz.prog 115 #[v,.func (.func 82) #[] #[]] w fun e w'=>e=.returned (.tuple #[]) ∧
     ∃ l':List Fct,l'.Perm l∧l'.Pairwise (fun x y=>ltF y x=false)∧w'.ownsRow base 45 3 v l'.length (cellsOfF l')∧Chg (fun j=>v.ownBlock=some j) w w':=by
 rcases Nat.eq_zero_or_pos l.length with h0 | hpos
 · obtain rfl:=List.eq_nil_of_length_eq_zero h0
   obtain ⟨A,c,rfl⟩:=own_form h
   have hcon:=AnyF.slices_SortFunc_none Tryz.sortS A c (.func (.func 82) #[] #[]) w
   change Calls Tryz.prog 115 _ _ _ at hcon
   refine hcon.mono ?_
   rintro e w' ⟨rfl,rfl⟩
   exact ⟨rfl,[],.refl _,.nil,h,Chg.refl _ _⟩
 · rcases h.2 with ⟨_,h1⟩ | ⟨g,cap,cur,rfl,hg,hb,hnc,hcm,hcs,htk⟩
   · omega
   have at_:∀ {j:Nat} {u:Value},(cellsOfF l)[j]? = some u→cur[j]? = some u:=fun {j u} hj=>by
     rw [←htk,List.getElem?_take] at hj
     split at hj
     · rwa [Array.getElem?_toList] at hj
     · cases hj
   have eg:∀ args w,(callFunc 82 args).run Tryz.prog w=.ok (.enter 82 args) w:=enters_of Tryz.func82 (by kernel_rfl) rfl
   have hH:Go.Sort.HoldsK factRow 3 w g 0 l.toArray:=by
     intro j hj
     obtain ⟨u,hu⟩:∃ u,(cellsOfF l)[j]? = some u:=⟨_,List.getElem?_eq_getElem (by rw [cellsF_len];simpa using hj)⟩
     have:=flatF l.toArray (j:=j) (u:=u) (by simpa using hu)
     rw [this]
     refine ⟨?_,?_⟩
     · simp only [World.cell?,hb];rw [Nat.zero_add];exact at_ hu
     · simp [World.frozen?,hb]
   have hcon:=AnyQ.slices_SortFunc Tryz.sortS 3 Tryz.isAgg45 Tryz.sizeOf45 factRow (fun _=>rfl) (fun x v hv=>by simp [factRow] at hv;rcases hv with rfl | rfl | rfl <;> rfl) cmpF swoF 82 #[] g 0 cap l.toArray w eg (fun _ _ _ _ x y=>compare_any x y _) hH (lt_of_block hb) (by simp;omega)
   change Calls Tryz.prog 115 _ _ _ at hcon
   simp only [List.size_toArray] at hcon
   refine hcon.mono ?_
   rintro e w' ⟨rfl,d',m,os,hp,hs,rfl⟩
   have hsz:d'.size=l.length:=by simpa using hp.1
   have hperm:d'.toList.Perm l:=by
     have h5:=hp.2.2
     simp only [Array.toList_extract,List.extract_eq_take_drop] at h5
     simpa [List.take_of_length_le,hsz] using h5
   have hL:d'.toList.length=l.length:=by rw [Array.length_toList,hsz]
   refine ⟨rfl,d'.toList,hperm,?_,⟨by rw [cellsF_len],.inr ⟨g,cap,_,by rw [hL],hg,sortF_at w g 0 m d' os hb,by omega,hcm,by simpa [Go.Sort.putCells] using hcs,?_⟩⟩,?_⟩
   · refine List.pairwise_iff_getElem.2 fun i j hi hj hij=>?_
     have:=hs i j (Nat.zero_le _) hij (by simpa [hsz] using hj)
     rw [show Go.Proofs.ltOf cmpF _ _=_ from cmp3_lt _ _] at this
     rw [Array.length_toList] at hi hj
     rw [getElem!_pos d' i hi,getElem!_pos d' j hj] at this
     simpa only [Array.getElem_toList] using this
   · refine List.ext_getElem? fun j=>?_
     rw [List.getElem?_take]
     split
     · rename_i hj
       obtain ⟨u,hu⟩:∃ u,(cellsOfF d'.toList)[j]? = some u:=⟨_,List.getElem?_eq_getElem (by rw [cellsF_len];exact hj)⟩
       rw [hu]
       have:=flatF d' hu
       unfold Go.Sort.putCells
       have hjs:j < cur.size:=by rw [hcs];omega
       rw [Array.getElem?_toList,Array.getElem?_mapIdx,Array.getElem?_eq_getElem hjs,Option.map_some,if_pos ⟨Nat.zero_le _,by rw [Go.Sort.size_flatK,hsz];omega⟩,Nat.sub_zero,this]
       rfl
     · rename_i hj
       rw [List.getElem?_eq_none (by rw [cellsF_len];omega)]
   · exact ⟨rfl,rfl,rfl,by unfold Go.Proofs.sortWorldK Go.Sort.grow Go.Sort.putRowK Go.Sort.putRow Go.Sort.mapBlock Go.Sort.ahead;simp,fun j hj hne=>sortF_block w g 0 m d' os hj (fun e=>hne (by rw [e];rfl))⟩
theorem allOf_len {l ss:List Fct} (hl:OrdF l) (hs:AllOf l ss):ss.length=l.length :=
 ((List.perm_ext_iff_of_nodup hs.1 (hl.imp fun {x y} h e=>by subst e;rw [ltF_irr] at h;cases h)).2 hs.2).length_eq
theorem sorted_is {l l' ss:List Fct} (hl:OrdF l) (hs:AllOf l ss) (hp:l'.Perm ss) (hw:l'.Pairwise fun x y=>ltF y x=false):l'=l:=by
 have hnd:l'.Nodup:=(hp.nodup_iff).2 hs.1
 refine ordF_ext ?_ hl fun f=>by rw [hp.mem_iff,hs.2]
 refine (hw.and hnd).imp fun {x y} h=>?_
 exact ltF_total h.1 (fun e=>h.2 e.symm)
end Go.Proofs.YtjbabpnepjhllaaGreat
namespace Go.Proofs.YtjbabpnepjhllaaGreat
open Go.RowKit Go.Sort
theorem ownsRow_base {W:World} {base base':Nat} {e:TypeId} {size:Nat} {v:Value} {k:Nat} {xs:List Value} (h:W.ownsRow base e size v k xs) (hb:base'≤base):W.ownsRow base' e size v k xs:=by
 refine ⟨h.1,?_⟩
 rcases h.2 with hn | ⟨g,cap,cur,hv,hbg,rest⟩
 · exact .inl hn
 · exact .inr ⟨g,cap,cur,hv,Nat.le_trans hb hbg,rest⟩
def SortedSays (base:Nat) (l:List Fct) (w:World) (e:Ending) (w':World):Prop:=∃ v,e=.returned v∧w'.ownsRow base 45 3 v l.length (cellsOfF l)∧Below w.heap.size w w'
set_option maxHeartbeats 1000000 in
theorem sortedFunc_any (g:Nat) (lb:Array Value) (eg:∀ args w,(callFunc g args).run Tryz.prog w=.ok (.enter g args) w) (l:List Fct) (hl:OrdF l) (N:Nat) (hN:N≤100000) (w:World)
   (hseq:∀ n,1≤n→SeqGives Fence.wide n Tryz.prog g lb factV (AllOf l) N w) (hlN:l.length≤100000) :
   Calls Tryz.prog 80 #[.func (.func g) #[] lb,.func (.func 82) #[] #[]] w (SortedSays w.heap.size l w):=by
 have HC:=Lh (callsIn_wide.1 (collect_in Fence.wide 4 trivial trivial rfl (by omega) g lb trivial eg (AllOf l) N (by unfold maxLen;omega) (by omega) w (hseq _ (by omega))))
 have HS:=Lh fun (v:Value) (ss:List Fct) (w:World) (b:Nat) h hn=>sortFunc_any (base:=b) (v:=v) (l:=ss) w h hn
 have HL:=Lh hl
 have HN:=Lh hlN
 clear hl hlN hseq hN
 go_enter Tryz.func80,Tryz.ntmps80
 go_wp2_with (first
   | ((with_reducible refine (HC.out).mono ?_);rintro e w1 ⟨v,ss,rfl,hS,hrow,hnil,hb⟩
      have hlen:ss.length=l.length:=allOf_len HL.out hS
      have HV:=Lh hrow
      have HB:=Lh hb
      have HA:=Lh hS
      have HE:=Lh hlen
      obtain ⟨A,c,rfl⟩:=own_form hrow
      clear hrow hb hS hlen hnil)
   | ((with_reducible refine (HS.out _ _ _ _ HV.out (by have:=HN.out;have:=HE.out;omega)).mono ?_);rintro e w2 ⟨rfl,l',hp,hw,hrow2,hch⟩
      obtain rfl:=sorted_is HL.out HA.out hp hw
      have HR:=Lh hrow2
      have HD:=Lh hch
      have HQ:=Lh hp
      clear hrow2 hch hp hw))
 go_ret
 exact ⟨_,rfl,HR.out,HB.out.trans (HD.out.below (fun k hk hF=>by have:=(own_lt HV.out k hF).2;omega) HB.out.size)⟩
set_option maxHeartbeats 1000000 in
theorem sorted_any {b n:Nat} {l:List Fct} (w:World) (h:SetAt w b n l) (hl:OrdF l) (hn:n≤100000):Calls Tryz.prog 52 #[.map (some b)] w (SortedSays w.heap.size l w):=by
 obtain ⟨D,hown,hD⟩:=h
 have hlen:l.length≤n:=by
   have h1:=hown.size_le
   obtain ⟨es,rfl⟩:=hD.is_
   have h2:(l.map keyL).length≤(es.map (·.1)).length:=List.Nodup.length_le_of_subset ?_ ?_
   · simp only [List.length_map] at h2
     rw [Go.Maps.size_eq] at h1
     omega
   · refine List.pairwise_map.2 ((hl.imp_of_mem fun {x y} hx hy h e=>?_))
     have:=keyL_inj (hD.ok x hx) (hD.ok y hy) e
     subst this
     rw [ltF_irr] at h;cases h
   · intro k hk
     obtain ⟨f,hf,rfl⟩:=List.mem_map.1 hk
     have:=(hD.has f (hD.ok f hf)).2 hf
     rw [Go.Maps.has_eq,List.any_eq_true] at this
     obtain ⟨p,hp,hs⟩:=this
     exact List.mem_map.2 ⟨p,hp,WideAt.sameKey_eq hs⟩
 have eg:∀ args w,(callFunc 116 args).run Tryz.prog w=.ok (.enter 116 args) w:=enters_of Tryz.func116 (by kernel_rfl) rfl
 have HK:=Lh (callsIn_wide.1 (keys_in Fence.wide 1 trivial rfl (some b) w))
 obtain ⟨W,hW⟩:∃ W,W=w.alloc (.cells #[.map (some b)] 85):=⟨_,rfl⟩
 have hb:Below w.heap.size w W:=by rw [hW];exact (Below.refl _ _).alloc (Nat.le_refl _) _
 have hz:W.heap.size=w.heap.size+1:=by rw [hW];simp
 have hc:W.cell? ⟨w.heap.size,0,none⟩=some (.map (some b)):=by rw [hW,World.cell?_alloc_at _ _ _ _ rfl];rfl
 have hown':W.ownsMap Tryz.prog 45 (unitElem (H:=Unit)) b n D:=by
   have hbl:=hown.lt
   obtain ⟨es,clock,h1,Ft,hs,hD⟩:=hown
   exact ⟨es,clock,(hb.block b hbl).trans h1,Ft,hs,hD⟩
 have HS:=Lh (sortedFunc_any 116 #[.pointer (some ⟨w.heap.size,0,none⟩)] eg l hl (Go.Maps.size D) (by have:=hown.size_le;omega) W (fun m hm=>keys_gives Fence.wide m trivial rfl hm w.heap.size b n D l hD W (by omega) hc hown') (by omega))
 have HB:=Lh hb
 rw [←hW] at HK
 clear hW hb hz hc hown' hown hD hl hlen eg hn
 go_enter Tryz.func52,Tryz.ntmps52
 go_wp2_with (first
   | ((with_reducible refine (HK.out).mono ?_);rintro e w1 ⟨rfl,rfl⟩)
   | ((with_reducible refine (HS.out).mono ?_);rintro e w2 ⟨v,rfl,hr,hb2⟩
      obtain ⟨A,c,rfl⟩:=own_form hr
      have HR:=Lh hr
      have HB2:=Lh hb2
      clear hr hb2))
 go_ret
 exact ⟨_,rfl,ownsRow_base HR.out HB.out.size,HB.out.trans (HB2.out.mono HB.out.size)⟩
end Go.Proofs.YtjbabpnepjhllaaGreat
namespace Go.Proofs.YtjbabpnepjhllaaGreat
open Go.RowKit Go.Maps
set_option maxRecDepth 100000
theorem puts_next {l fs:List Fct} {k:Nat} {x:Fct} (h:fs[k]? = some x):putsF l (fs.take (k+1))=putF (putsF l (fs.take k)) x:=by
 unfold putsF
 rw [List.take_add_one,h,Option.toList_some,List.foldl_append]
 rfl
set_option maxHeartbeats 4000000 in
theorem put_any {b N:Nat} {l fs:List Fct} {A:Option Addr} {n c:Nat} (w:World) (F:Nat→Prop) (h:SetAt w b N l) (hf:FactsAt w F (.slice A n c) fs) (hFb:∀ k,F k→k < w.heap.size∧k≠b) (hok:∀ f∈fs,FctOk f) (hN:N+n≤100000) :
   Calls Tryz.prog 53 #[.map (some b),.slice A n c] w fun e w'=>e=.returned (.tuple #[])∧SetAt w' b (N+n) (putsF l fs)∧Chg (fun k=>k=b) w w':=by
 have hn:=(rows_len hf).1
 have HF:=Lh hf
 have HB:=Lh hFb
 have HK:=Lh hok
 have HL:=Lh hn
 have HM:=Lh hN
 have HS:=Lh h
 clear hf hFb hok hn hN h
 go_enter Tryz.func53,Tryz.ntmps53
 go_wp2
 go_loopw [8] (fun j wr=>∃ k:Nat,k≤n∧j=.int .i64 k∧SetAt wr b (N+k) (putsF l (fs.take k))∧Chg (fun k=>k=b) w wr) (fun j _=>n - (intOf j).toNat)
 case atStart=>exact ⟨0,by omega,rfl,HS.out,Chg.refl _ _⟩
 case round =>
   obtain ⟨k,hk,rfl,hset,hch⟩:=hrel
   have HCH:=Lh hch
   by_cases hlt:k < n
   · have d1:decide (k < n)=true:=decide_eq_true hlt
     obtain ⟨x,hx⟩:∃ s,fs[k]? = some s:=⟨_,List.getElem?_eq_getElem (by have:=HL.out;omega)⟩
     obtain ⟨g,o,rfl,hg,c0,c1,c2⟩:=FactsAt.at_ (HF.out.keep (hch.same fun k hk=>HB.out k hk)) hx
     have HX:=Lh (HK.out x (List.mem_of_getElem? hx))
     have HKEY:=Lh (show keyOf Tryz.prog 45 (.agg #[.int .i64 x.kind,.int .i64 x.a,.int .i64 x.b])=some (keyL x) from keyOf_mk HX.out)
     obtain ⟨D,hown,hD⟩:=hset
     have HD:=Lh hD
     have HP:=Lh (puts_next (l:=l) hx)
     have i0:(0:Int)≤(k:Int):=by omega
     have i1:(k:Int) < (n:Int):=by omega
     have l0:g < wr.heap.size:=by have:=(HB.out g hg).1;have:=HCH.out.size;omega
     have n5:n≤100000:=by have:=HM.out;omega
     clear hx hg hch hD
     by_cases h2:x.kind=2
     · have d2:(x.kind != 2)=false:=by simpa using h2
       by_cases h3:x.a=x.b
       · have d3:(x.a != x.b)=false:=by simpa using h3
         have HE:=Lh (show putsF l (fs.take k)=putsF l (fs.take (k+1)) by rw [HP.out];unfold putF mayF;rw [h2,h3];simp)
         have HO:=Lh (hown.alloc (.cells #[.int .i64 x.kind,.int .i64 x.a,.int .i64 x.b] 45))
         clear h2 h3 hown
         go_wp2
         go_roundw
         case rel=>exact ⟨k+1,hlt,by go_num,SetAt.of (HO.out.mono (by omega)) HD.out HE.out,HCH.out.alloc _⟩
         case measure=>simp [intOf];omega
       · have d3:(x.a != x.b)=true:=by simpa using h3
         have HE:=Lh (show insF x (putsF l (fs.take k))=putsF l (fs.take (k+1)) by rw [HP.out];unfold putF mayF;rw [show (x.a == x.b)=false by simpa using h3];simp)
         clear h2 h3
         go_wp2_with (first
           | (at_mapUpdate;refine wpList_mapUpdate_in _ rfl _ _ _ 85 rfl 45 106 keyedF Tryz.underlying85 (unitElem (H:=Unit)) b (N+k) D rfl (hown.alloc _) (by have:=HM.out;unfold maxLen;omega) _ _ _ rfl rfl HKEY.out _ [] unitElem_mk ?_;intro w1 hown1 hturn1
              have HO:=Lh hown1
              have HT:=Lh hturn1
              clear hown1 hturn1)
           | go_in)
         go_roundw
         case rel=>exact ⟨k+1,hlt,by go_num,SetAt.of HO.out (HD.out.put HX.out) HE.out,HCH.out.trans' (.of_below ((Below.refl _ _).alloc (Nat.le_refl _) _)) (fun _ _ h=>h) |>.trans ⟨HT.out.grown.os,HT.out.grown.tape,HT.out.grown.output,HT.out.grown.size,fun j hj hne=>HT.out.grown.block j hj (fun e=>hne (by cases e;rfl))⟩⟩
         case measure=>simp [intOf];omega
     · have d2:(x.kind != 2)=true:=by simpa using h2
       have HE:=Lh (show insF x (putsF l (fs.take k))=putsF l (fs.take (k+1)) by rw [HP.out];unfold putF mayF;rw [show (x.kind == 2)=false by simpa using h2];simp)
       clear h2
       go_wp2_with (first
         | (at_mapUpdate;refine wpList_mapUpdate_in _ rfl _ _ _ 85 rfl 45 106 keyedF Tryz.underlying85 (unitElem (H:=Unit)) b (N+k) D rfl (hown.alloc _) (by have:=HM.out;unfold maxLen;omega) _ _ _ rfl rfl HKEY.out _ [] unitElem_mk ?_;intro w1 hown1 hturn1
            have HO:=Lh hown1
            have HT:=Lh hturn1
            clear hown1 hturn1)
         | go_in)
       go_roundw
       case rel=>exact ⟨k+1,hlt,by go_num,SetAt.of HO.out (HD.out.put HX.out) HE.out,HCH.out.trans' (.of_below ((Below.refl _ _).alloc (Nat.le_refl _) _)) (fun _ _ h=>h) |>.trans ⟨HT.out.grown.os,HT.out.grown.tape,HT.out.grown.output,HT.out.grown.size,fun j hj hne=>HT.out.grown.block j hj (fun e=>hne (by cases e;rfl))⟩⟩
       case measure=>simp [intOf];omega
   · have d1:decide (k < n)=false:=decide_eq_false hlt
     have HE := Lib.hid (show SetAt wr b (N + n) (putsF l fs) by have e : k = n := by omega
                                                                 subst e;rw [List.take_of_length_le (by have:=HL.out;omega)] at hset;exact hset)
     clear hset hch
     go_wp2
     go_end0
     exact ⟨rfl,HE.out,HCH.out⟩
set_option maxHeartbeats 1000000 in
theorem of_any {fs:List Fct} {A:Option Addr} {n c:Nat} (w:World) (F:Nat→Prop) (hf:FactsAt w F (.slice A n c) fs) (hFb:∀ k,F k→k < w.heap.size) (hok:∀ f∈fs,FctOk f) (hN:n≤100000) :
   Calls Tryz.prog 51 #[.slice A n c] w fun e w'=>e=.returned (.map (some w.heap.size))∧SetAt w' w.heap.size n (sortF fs)∧Below w.heap.size w w':=by
 obtain ⟨W,hW⟩:∃ W,W=w.alloc (.map #[] 0):=⟨_,rfl⟩
 have hb:Below w.heap.size w W:=by rw [hW];exact (Below.refl _ _).alloc (Nat.le_refl _) _
 have hz:W.heap.size=w.heap.size+1:=by rw [hW];simp
 have HP:=Lh (put_any (N:=0) (l:=[]) W F (by rw [hW];exact SetAt.made w) (Rows.keep hf (SameOn.of_below hb hFb)) (fun k hk=>by have:=hFb k hk;omega) hok (by omega))
 have HB:=Lh hb
 have HW:=Lh hW
 clear hf hFb hok hN hz hb hW
 go_enter Tryz.func51,Tryz.ntmps51
 have hmm:=@run_makeMap Tryz.prog
 go_upto_region 2 with fail
 rw [←HW.out]
 go_wp2_with ((with_reducible refine (HP.out).mono ?_); rintro e w1 ⟨rfl, hs, hch⟩
              have HS:=Lh hs
              have HC:=Lh hch
              clear hs hch)
 go_ret
 exact ⟨rfl,by have:=HS.out;rwa [Nat.zero_add] at this,HB.out.trans (HC.out.below (fun k hk=>by omega) HB.out.size)⟩
end Go.Proofs.YtjbabpnepjhllaaGreat
