/- keysmithlaw09.MachineApart: for all code, states, regions and bytes behind it returns true: what stands behind a return, or where nothing goes, does not matter. No condition. -/
import Derived.Test.YtocndimihokcmaaGreatAm1
import Derived.Deep.WholeRow
import Derived.Deep.MidRow
import Derived.Maps.AppendAt
import Derived.Tactics
import Derived.Test.YtocndimihokcmaaGreatAm25
import Derived.Deep.Slices
import Derived.ProofKit
import Derived.Test.YtocndimihokcmaaGreatAm13
import Derived.OpenShut
namespace Go.Proofs.YtocndimihokcmaaGreat
open Go.RowKit
structure Res where
 F:Nat→Prop
 P:World→Prop
 st:∀ {w w':World},SameOn F w w'→P w→P w'
def Ov (F:Nat→Prop) (base:Nat):Nat→Prop:=fun k=>F k∨base≤k
theorem row_keep {w w':World} {base e sz n:Nat} {v:Value} {xs:List Value} (hk:∀ g,v.ownBlock=some g→w'.heap[g]? = w.heap[g]?) (h:w.ownsRow base e sz v n xs):w'.ownsRow base e sz v n xs:=by
 rcases h.2 with ⟨h1,h2⟩ | ⟨g',cap',cur,hv,hg,hh,hr⟩
 · exact ⟨h.1,.inl ⟨h1,h2⟩⟩
 · exact ⟨h.1,.inr ⟨g',cap',cur,hv,hg,(hk g' (by rw [hv];rfl)).trans hh,hr⟩⟩
def boxR (g:Nat) (ty:TypeId) (row:List Value):Res:=⟨fun k=>k=g,fun w=>w.heap[g]? = some (.cells row.toArray ty (0,0)),fun h hp=>(h g rfl).trans hp⟩
def rowR (base:Nat) (ty:TypeId) (sz n:Nat) (v:Value) (xs:List Value):Res:=⟨fun k=>v.ownBlock=some k,fun w=>w.ownsRow base ty sz v n xs,fun h hp=>row_keep h hp⟩
structure Sep (w0:World) (F0:Nat→Prop) (w:World) (R:List Res):Prop where
 chg:Chg (Ov F0 w0.heap.size) w0 w
 lt:∀ r∈R,∀ k,r.F k→k < w.heap.size
 over:∀ r∈R,∀ k,r.F k→Ov F0 w0.heap.size k
 dis:R.Pairwise fun r q=>∀ k,r.F k→¬ q.F k
 holds:∀ r∈R,r.P w
section
variable {w0 w w':World} {F0:Nat→Prop} {R:List Res}
theorem Sep.nil (w:World) (F0:Nat→Prop):Sep w F0 w []:=⟨Chg.refl _ _,by simp,by simp,by simp,by simp⟩
theorem Sep.get (h:Sep w0 F0 w R) (i:Nat) {r:Res} (hi:R[i]? = some r):r.P w:=h.holds r (List.mem_of_getElem? hi)
theorem Sep.size (h:Sep w0 F0 w R):w0.heap.size≤w.heap.size:=h.chg.size
theorem Sep.below (h:Sep w0 (fun _=>False) w R):Below w0.heap.size w0 w:=h.chg.below (fun k hk hF=>by rcases hF with hF | hF;exact hF;omega) (Nat.le_refl _)
theorem Sep.keep (h:Sep w0 F0 w R) (hc:Chg (Ov F0 w0.heap.size) w w') (hk:∀ r∈R,SameOn r.F w w'):Sep w0 F0 w' R :=
 ⟨h.chg.trans hc,fun r hr k hF=>Nat.lt_of_lt_of_le (h.lt r hr k hF) hc.size,h.over,h.dis,fun r hr=>r.st (hk r hr) (h.holds r hr)⟩
theorem Sep.next (h:Sep w0 F0 w R) (hb:Below w.heap.size w w'):Sep w0 F0 w' R :=
 h.keep (Chg.of_below hb) fun r hr k hF=>hb.block k (h.lt r hr k hF)
theorem Sep.drew (h:Sep w0 F0 w R):Sep w0 F0 w.drew R:=h.next (Below.refl _ _).drew
theorem pair_apart {R:List Res} (hd:R.Pairwise fun r q=>∀ k,r.F k→¬ q.F k) {i j:Nat} {r q:Res} (hi:R[i]? = some r) (hj:R[j]? = some q) (hij:i≠j):∀ k,r.F k→¬ q.F k:=by
 obtain ⟨h1,rfl⟩:=List.getElem?_eq_some_iff.1 hi
 obtain ⟨h2,rfl⟩:=List.getElem?_eq_some_iff.1 hj
 have hp:=List.pairwise_iff_getElem.1 hd
 rcases Nat.lt_or_gt_of_ne hij with h | h
 · exact hp i j h1 h2 h
 · intro k hk hq
   exact hp j i h2 h1 h k hq hk
theorem Sep.put (h:Sep w0 F0 w R) (i:Nat) {r r':Res} (hi:R[i]? = some r) (hc:Chg (Ov r.F w.heap.size) w w') (hP:r'.P w') (hF:∀ k,r'.F k→(r.F k∨w.heap.size≤k)∧k < w'.heap.size):Sep w0 F0 w' (R.set i r'):=by
 have hir:=List.mem_of_getElem? hi
 have hil:i < R.length:=(List.getElem?_eq_some_iff.1 hi).1
 have hmem:∀ x,x∈R.set i r'→x=r'∨∃ j,j≠i∧R[j]? = some x:=fun x hx=>by
   obtain ⟨j,hj⟩:=List.mem_iff_getElem?.1 hx
   rw [List.getElem?_set] at hj
   split at hj
   · (try rw [if_pos hil] at hj);exact .inl (Option.some.inj hj).symm
   · rename_i hij;exact .inr ⟨j,fun e=>hij e.symm,hj⟩
 have hsame:∀ j q,j≠i→R[j]? = some q→SameOn q.F w w':=fun j q hj hq k hk =>
   hc.block k (h.lt q (List.mem_of_getElem? hq) k hk) fun hF=>by
     rcases hF with hF | hF
     · exact pair_apart h.dis hi hq (fun e=>hj e.symm) k hF hk
     · have:=h.lt q (List.mem_of_getElem? hq) k hk;omega
 have hov:∀ k,r'.F k→Ov F0 w0.heap.size k:=fun k hk=>by
   rcases (hF k hk).1 with h1 | h1
   · exact h.over r hir k h1
   · exact .inr (Nat.le_trans h.size h1)
 refine ⟨h.chg.trans' hc fun k hk hG=>?_,fun x hx k hk=>?_,fun x hx k hk=>?_,?_,fun x hx=>?_⟩
 · rcases hG with hG | hG
   · exact h.over r hir k hG
   · exact .inr (Nat.le_trans h.size hG)
 · rcases hmem x hx with rfl | ⟨j,_,hj⟩
   · exact (hF k hk).2
   · exact Nat.lt_of_lt_of_le (h.lt x (List.mem_of_getElem? hj) k hk) hc.size
 · rcases hmem x hx with rfl | ⟨j,_,hj⟩
   · exact hov k hk
   · exact h.over x (List.mem_of_getElem? hj) k hk
 · refine List.pairwise_iff_getElem.2 fun a b ha hb hab=>?_
   simp only [List.length_set] at ha hb
   have hp:=List.pairwise_iff_getElem.1 h.dis a b ha hb hab
   intro k hk hk'
   by_cases ea:i=a
   · subst ea
     rw [List.getElem_set_self] at hk
     rw [List.getElem_set_ne (by omega)] at hk'
     rcases (hF k hk).1 with h1 | h1
     · exact pair_apart h.dis hi (List.getElem?_eq_getElem hb) (by omega) k h1 hk'
     · have:=h.lt _ (List.getElem_mem hb) k hk';omega
   · by_cases eb:i=b
     · subst eb
       rw [List.getElem_set_self] at hk'
       rw [List.getElem_set_ne ea] at hk
       rcases (hF k hk').1 with h1 | h1
       · exact pair_apart h.dis hi (List.getElem?_eq_getElem ha) (by omega) k h1 hk
       · have:=h.lt _ (List.getElem_mem ha) k hk;omega
     · rw [List.getElem_set_ne ea] at hk
       rw [List.getElem_set_ne eb] at hk'
       exact hp k hk hk'
 · rcases hmem x hx with rfl | ⟨j,hne,hj⟩
   · exact hP
   · exact x.st (hsame j x hne hj) (h.get j hj)
theorem Sep.push (h:Sep w0 F0 w R) {r':Res} (hb:Below w.heap.size w w') (hP:r'.P w') (hF:∀ k,r'.F k→w.heap.size≤k∧k < w'.heap.size):Sep w0 F0 w' (r' :: R):=by
 have h1:=h.next hb
 refine ⟨h1.chg,fun x hx k hk=>?_,fun x hx k hk=>?_,List.pairwise_cons.2 ⟨fun q hq k hk hk'=>?_,h.dis⟩,fun x hx=>?_⟩
 · rcases List.mem_cons.1 hx with rfl | hx
   · exact (hF k hk).2
   · exact h1.lt x hx k hk
 · rcases List.mem_cons.1 hx with rfl | hx
   · exact .inr (Nat.le_trans h.size (hF k hk).1)
   · exact h1.over x hx k hk
 · have:=h.lt q hq k hk';have:=(hF k hk).1;omega
 · rcases List.mem_cons.1 hx with rfl | hx
   · exact hP
   · exact h1.holds x hx
theorem Sep.take (h:Sep w0 F0 w R) {r':Res} (hP:r'.P w) (hF:∀ k,r'.F k→F0 k∧k < w.heap.size) (hd:∀ q∈R,∀ k,r'.F k→¬ q.F k):Sep w0 F0 w (r' :: R) :=
 ⟨h.chg,fun x hx k hk=>by
   rcases List.mem_cons.1 hx with rfl | hx
   · exact (hF k hk).2
   · exact h.lt x hx k hk,fun x hx k hk=>by
   rcases List.mem_cons.1 hx with rfl | hx
   · exact .inl (hF k hk).1
   · exact h.over x hx k hk,List.pairwise_cons.2 ⟨hd,h.dis⟩,fun x hx=>by
   rcases List.mem_cons.1 hx with rfl | hx
   · exact hP
   · exact h.holds x hx⟩
theorem Sep.box (h:Sep w0 F0 w R) (ty:TypeId) (row:List Value):Sep w0 F0 (w.alloc (.cells row.toArray ty)) (boxR w.heap.size ty row :: R) :=
 h.push ((Below.refl _ _).alloc (Nat.le_refl _) _) (heap_alloc_new w _) fun k hk=>by cases hk;simp
theorem Sep.fresh (h:Sep w0 F0 w R) (ty:TypeId) (zs:Array Value) (row:List Value):Sep w0 F0 ((w.alloc (.cells zs ty)).setRow w.heap.size row.toArray) (boxR w.heap.size ty row :: R):=by
 rw [World.setRow_alloc_new]
 exact h.box ty row
theorem Sep.at_ (h:Sep w0 F0 w R) (i:Nat) {g:Nat} {ty:TypeId} {row:List Value} (hi:R[i]? = some (boxR g ty row)):w.heap[g]? = some (.cells row.toArray ty (0,0)):=h.get i hi
theorem Sep.cell (h:Sep w0 F0 w R) (i k:Nat) {g:Nat} {ty:TypeId} {row:List Value} (hi:R[i]? = some (boxR g ty row)) {v:Value} (hv:row[k]? = some v):w.cell? ⟨g,k,none⟩=some v:=by
 have h1:=h.at_ i hi
 simp only [World.cell?,h1]
 simpa using hv
theorem Sep.frozen (h:Sep w0 F0 w R) (i k:Nat) {g:Nat} {ty:TypeId} {row:List Value} (hi:R[i]? = some (boxR g ty row)):w.frozen? ⟨g,k,none⟩=false:=by
 have h1:=h.at_ i hi
 simp [World.frozen?,h1]
theorem Sep.setCell (h:Sep w0 F0 w R) (i:Nat) {g:Nat} {ty:TypeId} {row row':List Value} (hi:R[i]? = some (boxR g ty row)) (k:Nat) (v:Value) (hr:row.set k v=row'):Sep w0 F0 (w.setCell ⟨g,k,none⟩ v) (R.set i (boxR g ty row')):=by
 have h1:=h.at_ i hi
 refine h.put i hi ((Chg.refl _ _).setCell (.inl (.inl rfl)) v) ?_ fun k' hk=>⟨.inl hk,?_⟩
 · show (w.setCell ⟨g,k,none⟩ v).heap[g]? = _
   rw [World.setCell,←hr]
   simp only [Array.getElem?_modify,if_pos,h1,Option.map_some]
   simp
 · have:=h.lt _ (List.mem_of_getElem? hi) k' hk
   simpa [World.setCell] using this
theorem Sep.setRow (h:Sep w0 F0 w R) (i:Nat) {g:Nat} {ty:TypeId} {row:List Value} (hi:R[i]? = some (boxR g ty row)) (row':List Value):Sep w0 F0 (w.setRow g row'.toArray) (R.set i (boxR g ty row')):=by
 have h1:=h.at_ i hi
 refine h.put i hi ⟨rfl,rfl,rfl,by simp,fun k _ hk=>setRow_other _ _ _ _ fun e=>hk (.inl e)⟩ (setRow_heap _ _ _ _ _ _ h1) fun k' hk=>⟨.inl hk,?_⟩
 have:=h.lt _ (List.mem_of_getElem? hi) k' hk
 simpa using this
theorem Sep.row (h:Sep w0 F0 w R) {base e sz n:Nat} {v:Value} {xs:List Value} (hb:Below w.heap.size w w') (hv:w'.ownsRow base e sz v n xs) (hge:w.heap.size≤base):Sep w0 F0 w' (rowR base e sz n v xs :: R) :=
 h.push hb hv fun k hk=>by have:=hv.lt k hk;omega
theorem Sep.grown (h:Sep w0 F0 w R) (i:Nat) {base e sz n n':Nat} {v v':Value} {xs xs':List Value} (hi:R[i]? = some (rowR base e sz n v xs)) (hv:w'.ownsRow base e sz v' n' xs') (hg:w.grownBy w' v.ownBlock)
   (hn:∀ k,v'.ownBlock=some k→v.ownBlock=some k∨w.heap.size≤k):Sep w0 F0 w' (R.set i (rowR base e sz n' v' xs')) :=
 h.put i hi ⟨hg.os,hg.tape,hg.output,hg.size,fun k hk hF=>hg.block k hk fun e=>hF (.inl e.symm)⟩ hv fun k hk=>⟨hn k hk,(hv.lt k hk).2⟩
end
end Go.Proofs.YtocndimihokcmaaGreat
namespace Go.Proofs.YtocndimihokcmaaGreat
open Go.RowKit
theorem sep_load {P:Program} {o:Oper} {a:Act} {w:World} (ty:TypeId) (y:Operand) (ho:o.op=.load ty y) (ad:Addr) (hx:a.eval y=.pointer (some ad)) (cs:Array Value) (d:TypeDesc)
   (hu:P.underlying ty=some d) (hd:(match d with | .struct _ | .array _ _=>true | _=>false)=true) (hi:(P.info? ty).map (·.size)=some cs.size)
   (hc:∀ (j:Nat) (v:Value),cs.toList[j]? = some v→w.cell? (ad.add j)=some v):(execOp a.eval o).run P w=.ok (.value (.agg cs)) w:=by
 have hl:(loadCells ad cs.toList.length).run P w=.ok cs.toList.toArray w:=run_loadCells_list (P:=P) w ad cs.toList hc
 have hv:(loadVar ty ad).run P w=.ok (.agg cs) w:=by
   cases hq:P.info? ty with
   | none=>simp [hq] at hi
   | some i =>
     have hs:i.size=cs.size:=by simpa [hq] using hi
     have hagg:(isAgg ty).run P w=.ok true w:=by
       unfold isAgg
       rw [Sem.run_bind,run_underlying hu w]
       cases d <;> simp_all
     simp only [Array.length_toList,Array.toArray_toList] at hl
     simp [loadVar,Sem.run_bind,hagg,sizeOf,typeInfo,hq,hs,hl]
 unfold execOp
 simp only [ho,hx,Instr.loadAt,Instr.sureAddr,Sem.run_bind,Sem.run_pure,Result.andThen_ok,hv]
theorem sep_add (b o j:Nat):Addr.add ⟨b,o,none⟩ j=⟨b,o+j,none⟩:=by unfold Addr.add;split <;> simp_all
theorem sep_store {P:Program} {o:Oper} {a:Act} {w:World} (ty:TypeId) (x y:Operand) (ho:o.op=.store ty x y) (g:Nat) (cells:Array Value) (hx:a.eval x=.pointer (some ⟨g,0,none⟩)) (hy:a.eval y=.agg cells)
   (t:TypeId) (old:Array Value) (hg:w.heap[g]? = some (.cells old t (0,0))) (hi:(P.info? ty).map (·.size)=some cells.size) (hold:old.size=cells.size) (h1:cells.all (·.oneCell')=true) :
   (execOp a.eval o).run P w=.ok .skip (w.setRow g cells):=by
 unfold execOp
 simp only [ho,hx,hy,Instr.storeAt,Instr.sureAddr,Sem.run_bind,Sem.run_pure,Result.andThen_ok,run_storeVar_row w g t ty old cells hg hi hold h1]
section
variable {P:Program} {ops:Array Oper} {rest:List Oper} {o:Oper} {a:Act} {w w0:World} {Q:Exit→Act→World→Prop} {F0:Nat→Prop} {R:List Res}
theorem sep_val (hw:Region.wanted o (yielded ops a.tmps)=true) {v:Value} (h:(execOp a.eval o).run P w=.ok (.value v) w) (k:wpList P ops Q rest (a.put o.dst v) w):wpList P ops Q (o :: rest) a w :=
 wpList_step fun K hK=>by rw [if_pos hw];unfold Oper.wp;rw [h];exact hK _ _ k
theorem sep_skip (hw:Region.wanted o (yielded ops a.tmps)=true) {w':World} (h:(execOp a.eval o).run P w=.ok .skip w') (k:wpList P ops Q rest (a.put o.dst undef) w'):wpList P ops Q (o :: rest) a w :=
 wpList_step fun K hK=>by rw [if_pos hw];unfold Oper.wp;rw [h];exact hK _ _ k
theorem Sep.exec (h:Sep w0 F0 w R) (i:Nat) {g:Nat} {ty:TypeId} {row:List Value} (hi:R[i]? = some (boxR g ty row)) (y:Operand) (ho:o.op=.load ty y) (hx:a.eval y=.pointer (some ⟨g,0,none⟩))
   {d:TypeDesc} (hu:P.underlying ty=some d) (hd:(match d with | .struct _ | .array _ _=>true | _=>false)=true) (hs:(P.info? ty).map (·.size)=some row.toArray.size):(execOp a.eval o).run P w=.ok (.value (.agg row.toArray)) w :=
 sep_load ty y ho ⟨g,0,none⟩ hx _ _ hu hd hs fun j v hv=>by
   rw [sep_add,Nat.zero_add]
   exact h.cell i j hi (by simpa using hv)
theorem Sep.load (h:Sep w0 F0 w R) (i:Nat) {g:Nat} {ty:TypeId} {row:List Value} (hi:R[i]? = some (boxR g ty row)) (y:Operand) (ho:o.op=.load ty y) (hx:a.eval y=.pointer (some ⟨g,0,none⟩)) (hw:Region.wanted o (yielded ops a.tmps)=true)
   {d:TypeDesc} (hu:P.underlying ty=some d) (hd:(match d with | .struct _ | .array _ _=>true | _=>false)=true) (hs:(P.info? ty).map (·.size)=some row.toArray.size)
   (k:wpList P ops Q rest (a.put o.dst (.agg row.toArray)) w):wpList P ops Q (o :: rest) a w :=
 sep_val hw (h.exec i hi y ho hx hu hd hs) k
theorem Sep.storeFresh (h:Sep w0 F0 w R) {ty:TypeId} {row:List Value} (x y:Operand) (ho:o.op=.store ty x y) (zs:Array Value) (hz:zs.size=row.length) (hx:a.eval x=.pointer (some ⟨w.heap.size,0,none⟩)) (hy:a.eval y=.agg row.toArray)
   (hw:Region.wanted o (yielded ops a.tmps)=true) (hs:(P.info? ty).map (·.size)=some row.toArray.size) (h1:row.toArray.all (·.oneCell')=true)
   (k:∀ W,Sep w0 F0 W (boxR w.heap.size ty row :: R)→wpList P ops Q rest (a.put o.dst undef) W):wpList P ops Q (o :: rest) a (w.alloc (.cells zs ty)) :=
 sep_skip hw (sep_store ty x y ho w.heap.size _ hx hy ty zs (heap_alloc_new w _) hs (by simp [hz]) h1) (k _ (h.fresh ty zs row))
end
theorem sep_id {P:Program} {ops:Array Oper} {l:List Oper} {a:Act} {w:World} {Q:Exit→Act→World→Prop} (h:wpList P ops Q l a w):wpList P ops Q l a w:=h
end Go.Proofs.YtocndimihokcmaaGreat
namespace Go.Proofs.YtocndimihokcmaaGreat
open Go.RowKit
def memS (F:Nat→Prop) (m:Value) (rs:List Reg):Res:=⟨F,fun w=>MemAt w F m rs,fun h hp=>hp.keep h⟩
theorem regs_next {w w':World} {v:Value} {rs:List Reg} (h:RegsAt w (fun k=>k < w.heap.size) v rs) (hb:Below w.heap.size w w'):RegsAt w' (fun k=>k < w'.heap.size) v rs :=
 (h.below hb fun _ hk=>hk).mono fun _ hk=>Nat.lt_of_lt_of_le hk hb.size
theorem mem_good {w:World} {F:Nat→Prop} {p:Value} {rs:List Reg} (h:MemAt w F p rs):Good rs:=by
 obtain ⟨_,_,_,_,_,_,h⟩:=h
 exact h
theorem Regions_at {p:Value} {w:World} {F:Nat→Prop} {rs:List Reg} (hm:MemAt w F p rs) (hF:∀ k,F k→k < w.heap.size) :
   Calls Tryz.prog 19 #[p] w fun e w'=>∃ A c,e=.returned (.slice A rs.length c)∧RegsAt w' (fun k=>k < w'.heap.size) (.slice A rs.length c) rs∧Below w.heap.size w w':=by
 refine (Regions_any p w F rs hm hF).mono ?_
 rintro e w' ⟨v,rfl,ho,hb⟩
 have h:=(ho.at_ (mem_good hm).base).mono (G:=fun k=>k < w'.heap.size) fun k hk=>hk.2
 obtain ⟨A,c,rfl,_⟩:=h.form
 exact ⟨A,c,rfl,h,hb⟩
theorem Same_true {v u:Value} {w:World} {l:List Reg} (hn:l.length≤9223372036854775807) (ha:RegsAt w (fun k=>k < w.heap.size) v l) (hb:RegsAt w (fun k=>k < w.heap.size) u l) :
   Calls Tryz.prog 18 #[v,u] w fun e w'=>e=.returned (.bool true)∧Below w.heap.size w w' :=
 (Same_any v u w _ l l hn ha hb fun _ h=>h).mono fun e w' ⟨h1,h2⟩=>⟨by rw [h1,(sameR_iff l l).2 rfl],h2⟩
section
variable {w0 w w':World} {F0:Nat→Prop} {R:List Res}
theorem Sep.add (h:Sep w0 F0 w R) {r:Res} (hP:r.P w) (hlt:∀ k,r.F k→k < w.heap.size) (hov:∀ k,r.F k→Ov F0 w0.heap.size k) (hd:∀ q∈R,∀ k,r.F k→¬ q.F k):Sep w0 F0 w (r :: R) :=
 ⟨h.chg,fun x hx k hk=>by
   rcases List.mem_cons.1 hx with rfl | hx
   · exact hlt k hk
   · exact h.lt x hx k hk,fun x hx k hk=>by
   rcases List.mem_cons.1 hx with rfl | hx
   · exact hov k hk
   · exact h.over x hx k hk,List.pairwise_cons.2 ⟨hd,h.dis⟩,fun x hx=>by
   rcases List.mem_cons.1 hx with rfl | hx
   · exact hP
   · exact h.holds x hx⟩
theorem Sep.lt_at (h:Sep w0 F0 w R) (i:Nat) {r:Res} (hi:R[i]? = some r) (k:Nat) (hk:r.F k):k < w.heap.size:=h.lt r (List.mem_of_getElem? hi) k hk
theorem Sep.did (h:Sep w0 F0 w R) (i:Nat) {r r' q:Res} (hi:R[i]? = some r) (hF:r'.F=r.F) (hc:Chg (Ov r.F w.heap.size) w w') (hP:r'.P w') (hq:q.P w') (hqF:∀ k,q.F k→w.heap.size≤k∧k < w'.heap.size):Sep w0 F0 w' (q :: R.set i r'):=by
 have h1:=h.put i hi hc hP fun k hk=>by rw [hF] at hk;exact ⟨.inl hk,Nat.lt_of_lt_of_le (h.lt _ (List.mem_of_getElem? hi) k hk) hc.size⟩
 refine h1.add hq (fun k hk=>(hqF k hk).2) (fun k hk=>.inr (Nat.le_trans h.size (hqF k hk).1)) fun x hx k hk hk'=>?_
 have h2:=(hqF k hk).1
 have h3:k < w.heap.size:=by
   rcases List.mem_or_eq_of_mem_set hx with hx | rfl
   · exact h.lt x hx k hk'
   · rw [hF] at hk';exact h.lt _ (List.mem_of_getElem? hi) k hk'
 omega
def evsR (base:Nat) (v:Value) (l:List Ev):Res:=rowR base 56 2 l.length v (l.map evRow).flatten
theorem Sep.evs (h:Sep w0 F0 w R) (k:Nat) {base:Nat} {v:Value} {l:List Ev} (hk:R[k]? = some (evsR base v l)):EvsAt w (fun k=>k < w.heap.size) v l:=evs_own (h.get k hk)
theorem Sep.Run (h:Sep w0 F0 w R) (k:Nat) {F:Nat→Prop} {m:Value} {rs:List Reg} (hk:R[k]? = some (memS F m rs)) {code:List UInt8} {s:St} (fuel:Nat) (hs:StOk s) (hl:code.length≤1048576) (h1:fuel≤100000) {tot:RunR} (htot:tot=runF (natsB code) fuel s rs 0) :
   Calls Tryz.prog 8 #[strB code,.agg (stRow s).toArray,m,.int .i64 fuel] w fun e w'=>∃ A c,e=.returned (.tuple #[.agg (ranRow tot.st tot.steps tot.err).toArray,.slice A tot.evs.length c]) ∧
     Sep w0 F0 w' (evsR w.heap.size (.slice A tot.evs.length c) tot.evs :: R.set k (memS F m tot.rs))∧StOk tot.st:=by
 obtain ⟨pm,rfl⟩:=memP (h.get k hk)
 refine (Run_any9 (pm:=⟨pm,0,none⟩) fuel hs hl h1 (h.get k hk) (h.lt _ (List.mem_of_getElem? hk)) tot htot).mono ?_
 rintro e w' ⟨A,c,rfl,hrow,hm,hc,hst⟩
 exact ⟨A,c,rfl,h.did k hk rfl hc hm hrow fun j hj=>hrow.lt j hj,hst⟩
end
theorem strB_add (a b:List UInt8):(⟨a.toArray⟩:ByteArray)++⟨b.toArray⟩=⟨(a++b).toArray⟩:=by
 exact ByteArray.ext (by rw [ByteArray.data_append];simp)
end Go.Proofs.YtocndimihokcmaaGreat
namespace Go.Proofs.YtocndimihokcmaaGreat
open Go.RowKit
set_option maxRecDepth 100000
set_option maxHeartbeats 40000000 in
theorem apart_walk (cl bl:List UInt8) (s:St) (v:Value) (l:List Reg) (w:World) (hs:StOk s) (hl:RegsAt w (fun k=>k < w.heap.size) v l) (hn:l.length≤9223372036854775807) (hcl:cl.length≤9223372036854775807) (hbl:bl.length≤9223372036854775807) :
   Calls Tryz.prog 5 #[strB cl,.agg (stRow s).toArray,v,strB bl] w fun e w'=>e=.returned (.bool true)∧Below w.heap.size w w':=by
 obtain ⟨A,c,rfl,hlc⟩:=hl.form
 obtain ⟨Z,hZ⟩:∃ Z:List Value,Z=stRow s:=⟨_,rfl⟩
 obtain ⟨W,hW⟩:∃ W,W=w.alloc (.cells Z.toArray 26):=⟨_,rfl⟩
 have hSep:Sep w (fun _=>False) W [boxR w.heap.size 26 Z]:=by rw [hW];exact (Sep.nil w _).box _ _
 have H:=Lh hSep
 have HW:=Lh hW
 have HZ:=Lh hZ
 have HL:=Lh (regs_next hl (show Below w.heap.size w W by rw [hW];exact (Below.refl _ w).alloc (Nat.le_refl _) _))
 have HLV:=Lh (fun w_=>lives9_any w_)
 have HS:=Lh hs
 have HN:=Lh hn
 obtain ⟨sc,hsc⟩:∃ sc:ByteArray,sc=⟨cl.toArray⟩:=⟨_,rfl⟩
 obtain ⟨sb,hsb⟩:∃ sb:ByteArray,sb=⟨bl.toArray⟩:=⟨_,rfl⟩
 have hscl:sc.size=cl.length:=by rw [hsc];simp [ByteArray.size]
 have hsbl:sb.size=bl.length:=by rw [hsb];simp [ByteArray.size]
 have HSC:=Lh hsc
 have HSB:=Lh hsb
 unfold strB
 rw [←hsc,←hsb,←hZ]
 generalize hln:l.length=n at *
 have HLN:=Lh hln
 clear hl hlc hW hSep hs hn hZ hsc hsb hln
 go_enter Tryz.func5,Tryz.ntmps5
 go_upto_region 1 with go_in
 rw [←HW.out]
 go_upto_region 3 with (first | ((with_reducible refine (HLV.out _).mono ?_);rintro e w1 ⟨rfl,hb1⟩;have H:=Lh (H.out.next hb1);have HL:=Lh (regs_next HL.out hb1);clear hb1) | go_in)
 by_cases hc1:200 < cl.length
 · have d1:(200:Int) < (sc.size:Int):=by omega
   have d2:decide ((200:Int) < (sc.size:Int))=true:=decide_eq_true d1
   go_wp2
   go_ret
   exact ⟨rfl,H.out.below⟩
 have d1:¬ (200:Int) < (sc.size:Int):=by omega
 have d2:decide ((200:Int) < (sc.size:Int))=false:=decide_eq_false d1
 by_cases hc2:200 < bl.length
 · have d3:(200:Int) < (sb.size:Int):=by omega
   have d4:decide ((200:Int) < (sb.size:Int))=true:=decide_eq_true d3
   go_wp2
   go_ret
   exact ⟨rfl,H.out.below⟩
 have d3:¬ (200:Int) < (sb.size:Int):=by omega
 have d4:decide ((200:Int) < (sb.size:Int))=false:=decide_eq_false d3
 have HC1:=Lh (show cl.length≤200 by omega)
 have HC2:=Lh (show bl.length≤200 by omega)
 have hsum:¬ 9223372036854775807 < sc.size+sb.size:=by omega
 clear hc1 hc2 hscl hsbl hcl hbl
 have H1:=Lh (Light_any _ w1 _ l (by rw [HLN.out];exact HN.out) HL.out)
 cases hlight:lightR l
 · rw [hlight] at H1
   go_wp2_with ((with_reducible refine (H1.out).mono ?_);rintro e w2 ⟨rfl,hb2⟩)
   go_ret
   exact ⟨rfl,(H.out.next hb2).below⟩
 rw [hlight] at H1
 clear hlight
 go_wp2_with ((with_reducible refine (H1.out).mono ?_);rintro e w2 ⟨rfl,hb2⟩;have HL:=Lh (regs_next HL.out hb2);have H:=Lh (H.out.next hb2);have HN2:=Lh (New_any _ w2 _ l (by rw [HLN.out];exact HN.out) HL.out (fun _ h=>h));clear hb2 H1)
 refine HN2.out.mono ?_
 have HSUM:=Lh hsum
 clear d1 d2 d3 d4 hsum
 rintro e w3 ⟨hb3,hres⟩
 obtain ⟨m,ce,rfl,hce⟩:∃ (m:Value) (ce:Int),e=.returned (.tuple #[m,.int .i64 ce])∧ce=checkF l∧(ce=0→MemAt w3 (seg w2.heap.size w3.heap.size) m (sortBy Reg.base l)):=by
   rcases hres with ⟨h0,rfl⟩ | ⟨h0,m,rfl,hm⟩
   · exact ⟨_,_,rfl,rfl,fun h=>absurd h h0⟩
   · exact ⟨_,_,rfl,h0.symm,fun _=>hm⟩
 have HCE:=Lh hce
 have HL:=Lh (regs_next HL.out hb3)
 have HB3:=Lh hb3
 have HN3:=Lh (New_any _ w3 _ l (by rw [HLN.out];exact HN.out) HL.out (fun _ h=>h))
 clear hres hce hb3 HN2
 go_wp2_with fail
 refine HN3.out.mono ?_
 rintro e w4 ⟨hb4,hres⟩
 obtain ⟨o,rfl,hce2⟩:∃ (o:Value),e=.returned (.tuple #[o,.int .i64 ce])∧(ce=0→MemAt w4 (seg w3.heap.size w4.heap.size) o (sortBy Reg.base l)):=by
   rcases hres with ⟨h0,rfl⟩ | ⟨h0,o,rfl,hm⟩
   · exact ⟨_,by rw [HCE.out.1],fun h=>absurd (HCE.out.1▸h) h0⟩
   · exact ⟨_,by rw [HCE.out.1,h0],fun _=>hm⟩
 have HCE2:=Lh hce2
 have HB4:=Lh hb4
 clear hres hce2 hb4 HN3
 by_cases hc0:ce=0
 · subst hc0
   have hm1:=HCE.out.2 rfl
   have hm2:=HCE2.out rfl
   have hH:=(H.out.push (r':=memS _ _ _) HB3.out hm1 fun k hk=>hk).push (r':=memS _ _ _) HB4.out hm2 fun k hk=>hk
   obtain ⟨bm,rfl⟩:=memP hm1
   obtain ⟨bo,rfl⟩:=memP hm2
   generalize sortBy Reg.base l=rs at *
   clear H
   have H:=Lh hH
   clear hH hm1 hm2 HCE HCE2 HB3 HB4 HL
   obtain ⟨tot,htot⟩:∃ tot,tot=runF (natsB cl) 100 s rs 0:=⟨_,rfl⟩
   have HT:=Lh htot
   have HSZ:=Lh (show (Tryz.prog.info? 26).map (·.size)=some Z.toArray.size by rw [HZ.out,stRow_size HS.out];exact infoSt)
   have HB:=Lh (show tot.evs.length≤9223372036854775807∧tot.steps≤1000000∧0≤tot.err∧tot.err≤11 from by
     have h1:=runF_evs (natsB cl) 100 s rs 0
     have h2:=runF_steps (natsB cl) 100 s rs 0
     rw [←htot] at h1 h2
     omega)
   clear htot
   have HR1:=Lh (fun (w_:World) (h_:Sep w (fun _=>False) w_ [memS (seg w3.heap.size w4.heap.size) (.pointer (some ⟨bo,0,none⟩)) rs,memS (seg w2.heap.size w3.heap.size) (.pointer (some ⟨bm,0,none⟩)) rs,boxR w.heap.size 26 Z])=>show Calls Tryz.prog 8 #[.string sc,.agg Z.toArray,.pointer (some ⟨bm,0,none⟩),.int .i64 100] w_ _ from by rw [HSC.out,HZ.out];exact h_.Run 1 rfl 100 HS.out (by have:=HC1.out;omega) (by decide) HT.out)
   go_wp2_with (first | ((with_reducible refine sep_id ?_);refine H.out.load 2 rfl _ rfl rfl rfl Tryz.underlying26 rfl HSZ.out ?_))
   refine (HR1.out _ H.out).mono ?_
   rintro e w5 ⟨A5,n5,rfl,hH,hst⟩
   clear H HR1
   have H:=Lh hH
   have HST:=Lh hst
   clear hH hst
   go_wp2_with (first | ((with_reducible refine sep_id ?_);refine H.out.storeFresh (row:=ranRow tot.st tot.steps tot.err) _ _ rfl _ (by rw [ran_len HST.out];rfl) rfl rfl rfl (by rw [ran_size HST.out];exact infoRan) (ran_ones _ _ _) ?_;intro W5 hW5;clear H;have H:=Lh hW5;clear hW5) | ((with_reducible refine sep_id ?_);refine H.out.load 4 rfl _ rfl rfl rfl Tryz.underlying26 rfl HSZ.out ?_))
   obtain ⟨tot2,htot2⟩:∃ tot,tot=runF (natsB (cl++bl)) 100 s rs 0:=⟨_,rfl⟩
   have HT2:=Lh htot2
   have HB2:=Lh (show tot2.evs.length≤9223372036854775807∧tot2.steps≤1000000∧0≤tot2.err∧tot2.err≤11 from by
     have h1:=runF_evs (natsB (cl++bl)) 100 s rs 0
     have h2:=runF_steps (natsB (cl++bl)) 100 s rs 0
     rw [←htot2] at h1 h2
     omega)
   clear htot2
   refine (show Calls Tryz.prog 8 #[.string (sc++sb),.agg Z.toArray,.pointer (some ⟨bo,0,none⟩),.int .i64 100] W5 _ from by rw [HSC.out,HSB.out,strB_add,HZ.out];exact H.out.Run 2 rfl (code:=cl++bl) 100 HS.out (by have h1:=HC1.out;have h2:=HC2.out;rw [List.length_append];omega) (by decide) HT2.out).mono ?_
   rintro e w6 ⟨A6,n6,rfl,hH,hst⟩
   clear H
   have H:=Lh hH
   have HST2:=Lh hst
   clear hH hst
   go_upto_region 11 with (first | ((with_reducible refine sep_id ?_);refine H.out.storeFresh (row:=ranRow tot2.st tot2.steps tot2.err) _ _ rfl _ (by rw [ran_len HST2.out];rfl) rfl rfl rfl (by rw [ran_size HST2.out];exact infoRan) (ran_ones _ _ _) ?_;intro W6 hW6;clear H;have H:=Lh hW6;clear hW6) | go_in)
   have k21:=H.out.cell 2 21 rfl (ranR (r:=tot) HST.out).2.2
   by_cases he:tot.err=0
   · have e2:(tot.err != 0)=false:=by rw [he];rfl
     have hE:tot2=tot:=by
       have h1:natsB (cl++bl)=natsB cl++natsB bl:=List.map_append
       rw [HT2.out,h1,HT.out]
       exact run_more (natsB_lt cl) _ _ _ _ (by rw [←HT.out];exact he)
     clear he
     subst hE
     have hq:=fun w_=>eq_ran tot2 tot2 HST2.out HST2.out HB2.out.2.1 HB2.out.2.1 HB2.out.2.2 HB2.out.2.2 w_
     rw [show eqRan tot2 tot2=true by unfold eqRan;simp [(eqSt_iff _ _).2 rfl]] at hq
     have HRS:=Lh (show tot2.rs.length≤9223372036854775807 by have h1:=mem_good (H.out.get 4 rfl);have:=h1.len;omega)
     go_wp2_with (first | ((with_reducible refine sep_id ?_);refine H.out.load 0 rfl _ rfl rfl rfl Tryz.underlying32 rfl (by rw [ran_size HST2.out];exact infoRan) ?_) | ((with_reducible refine sep_id ?_);refine H.out.load 2 rfl _ rfl rfl rfl Tryz.underlying32 rfl (by rw [ran_size HST2.out];exact infoRan) ?_))
     clear hq k21
     refine (SameEv_any _ _ _ _ tot2.evs tot2.evs HB2.out.1 (H.out.evs 3 rfl) (H.out.evs 1 rfl) (fun _ hk=>hk)).mono ?_
     rintro e w7 ⟨rfl,hb⟩
     rw [sameE_self]
     have H:=Lh (H.out.next hb)
     clear hb
     go_wp2_with fail
     refine (Regions_at (H.out.get 5 rfl) (fun k hk=>H.out.lt_at (r:=memS _ _ tot2.rs) 5 rfl k hk)).mono ?_
     rintro e w8 ⟨AF,nF,rfl,hr,hb⟩
     have HRF:=Lh hr
     have H:=Lh (H.out.next hb)
     clear hr hb
     go_wp2_with fail
     refine (Regions_at (H.out.get 4 rfl) (fun k hk=>H.out.lt_at (r:=memS _ _ tot2.rs) 4 rfl k hk)).mono ?_
     rintro e w9 ⟨AG,nG,rfl,hr,hb⟩
     have HRG:=Lh hr
     have HRF:=Lh (regs_next HRF.out hb)
     have H:=Lh (H.out.next hb)
     clear hr hb
     go_wp2_with fail
     refine (Same_true HRS.out HRF.out HRG.out).mono ?_
     rintro e wA ⟨rfl,hb⟩
     have H:=Lh (H.out.next hb)
     clear hb
     go_wp2
     go_ret
     exact ⟨rfl,H.out.below⟩
   · have e2:(tot.err != 0)=true:=bne_iff_ne.2 he
     clear he
     go_wp2
     go_ret
     exact ⟨rfl,H.out.below⟩
 · have e1:(ce != 0)=true:=by simpa using hc0
   clear hc0
   go_wp2
   go_ret
   exact ⟨rfl,((H.out.next HB3.out).next HB4.out).below⟩
end Go.Proofs.YtocndimihokcmaaGreat
namespace Go.Proofs.YtocndimihokcmaaGreat
open Go.ChangeShapes Go.WideShapes Go.Deep Go.RowKit
set_option maxRecDepth 100000
theorem list_of_all {α:Type} (Q:Nat→α→Prop):∀ n,(∀ i,i < n→∃ x,Q i x)→∃ L:List α,L.length=n∧∀ (i:Nat) (x:α),L[i]? = some x→Q i x
 | 0,_=>⟨[],rfl,fun i x h=>by simp at h⟩
 | n+1,h=>by
   obtain ⟨L,hl,hq⟩:=list_of_all Q n (fun i hi=>h i (by omega))
   obtain ⟨x,hx⟩:=h n (by omega)
   refine ⟨L++[x],by simp [hl],fun i y hy=>?_⟩
   rcases Nat.lt_or_ge i n with hi | hi
   · rw [List.getElem?_append_left (by omega)] at hy;exact hq i y hy
   · rw [List.getElem?_append_right (by omega)] at hy
     have:i - L.length=0:=by
       rcases Nat.eq_zero_or_pos (i - L.length) with h | h
       · exact h
       · rw [List.getElem?_eq_none (by simp;omega)] at hy;cases hy
     rw [this] at hy
     simp at hy
     subst hy
     rw [show i=n from by omega];exact hx
theorem plain_addr {w:World} {a:Addr} {k:Nat} {v:Value} (h:w.cell? (a.add k)=some v) (h0:∃ u,w.cell? a=some u):a=⟨a.block,a.off,none⟩∧a.block < w.heap.size∧a.add k=⟨a.block,a.off+k,none⟩:=by
 obtain ⟨u,hu⟩:=h0
 have hb:=World.block_lt_of_cell? w a hu
 have hs:a.spot=none:=by
   cases hsp:a.spot with
   | none=>rfl
   | some s =>
     unfold World.cell? at hu
     split at hu
     · simp [hsp] at hu
     · cases hu
 have ha:a=⟨a.block,a.off,none⟩:=by cases a;simp_all
 refine ⟨ha,hb,?_⟩
 unfold Addr.add
 split
 · rename_i hk;subst hk;simpa using ha
 · rfl
section
variable {H:Type} {enc:TypeId×Value→H} {w:World}
theorem open_bytes {fuel:Nat} {v:Value} {x:DataW H×List MemPlace} (h:DataW.trod enc Tryz.prog w 0 (fun _=>true) true fuel 70 [v]=some x) :
   ∃ A n c l,v=.slice A n c∧l.length=n∧n≤9223372036854775807∧BytesAt w (fun k=>k < w.heap.size) (.slice A n c) l:=by
 rcases open_ints Tryz.underlying70 Tryz.underlying5 (by kernel_rfl) h with ⟨hcs,_⟩ | ⟨a,len,cap,zs,hcs,_,hl,hm,hz,_,hcell,hwf⟩
 · cases hcs
   exact ⟨none,0,0,[],rfl,rfl,by omega,⟨none,0,by simp,by simp,by simp,fun h=>absurd rfl h⟩⟩
 · cases hcs
   simp only [if_true] at hz
   refine ⟨some a,len,cap,(zs.take len).map fun z=>UInt8.ofNat z.toNat,rfl,by simp;omega,by unfold maxLen at hm;omega,⟨some a,cap,by simp;omega,by simp;omega,fun r hr=>?_,fun hne=>?_⟩⟩
   · obtain ⟨x,_,rfl⟩:=List.mem_map.1 hr;rfl
   · have hlen:0 < len:=by
       rcases Nat.eq_zero_or_pos len with h0 | h0
       · subst h0;simp at hne
       · exact h0
     have h0:=hcell 0 (by omega)
     have h00:∃ u,w.cell? a=some u:=⟨_,by simpa [Addr.add] using h0⟩
     obtain ⟨ha,hb,_⟩:=plain_addr h0 h00
     refine ⟨a.block,a.off,by rw [←ha],hb,fun i j r u hr hu=>?_⟩
     rw [List.getElem?_map,List.getElem?_map] at hr
     cases hzi:(zs.take len)[i]? with
     | none=>rw [hzi] at hr;cases hr
     | some z =>
       rw [hzi] at hr
       cases hr
       cases j with
       | succ j=>simp at hu
       | zero =>
         simp at hu
         subst hu
         rw [List.getElem?_take] at hzi
         split at hzi
         · rename_i hlt
           have hzl:i < zs.length:=(List.getElem?_eq_some_iff.1 hzi).1
           have hc:=hcell i hzl
           obtain ⟨_,_,hadd⟩:=plain_addr hc h00
           rw [hadd] at hc
           have hzd:zs.getD i 0=z:=by simp [List.getD,hzi]
           rw [hzd] at hc
           have hw:=hwf z (List.mem_of_getElem? hzi)
           have hbd:0≤z∧z≤255:=by simpa [Lit.wf,IntKind.min,IntKind.max,IntKind.bits,IntKind.signed] using hw
           have:byteV (UInt8.ofNat z.toNat)=.int .u8 z:=by
             unfold byteV
             congr 1
             simp only [UInt8.toNat_ofNat']
             omega
           rw [this]
           simpa using hc
         · cases hzi
theorem open_regs {A:Option Addr} {n c:Nat} {d:DataW H} {ps:List MemPlace} (h:DataW.Trod enc Tryz.prog w 0 (fun _=>true) true 43 (.slice A n c) d ps) :
   ∃ l:List Reg,RegsAt w (fun k=>k < w.heap.size) (.slice A n c) l∧l.length≤9223372036854775807:=by
 obtain ⟨fuel,hf⟩:=h
 rcases open_slice Tryz.underlying43 hf with ⟨hcs,_⟩ | ⟨a,len,cap,m,q,D,Pl,hcs,_,hl,hm,hmm,_,hi⟩
 · simp [Value.cells] at hcs
   obtain ⟨rfl,rfl,rfl⟩:=hcs
   exact ⟨[],⟨[],rfl,⟨none,0,rfl,by simp,by simp,fun h=>absurd rfl h⟩,by simp⟩,by simp⟩
 · simp [Value.cells] at hcs
   obtain ⟨rfl,rfl,rfl⟩:=hcs
   simp only [if_true] at hmm
   have hC:Tryz.prog.cellsOf 72=3:=by kernel_rfl
   have each:∀ i,i < n→∃ x:Reg×Ent,EntSrc w (fun k=>k < w.heap.size) x.1 x.2∧∀ (j:Nat) (u:Value),(entRow x.2)[j]? = some u→w.cell? (a.add (i*3+j))=some u:=fun i hin=>by
     obtain ⟨cs',hc,ht⟩:=hi i (by omega)
     rw [hC] at hc
     obtain ⟨xs,f,_,_,hlen,hxl,hfs⟩:=DataW.trod_struct Tryz.underlying72 ht
     rw [hC] at hlen
     obtain ⟨_,_,hat⟩:=World.cells?_some hc
     match cs',hlen with
     | [c0,c1,c2],_ =>
       match xs,hxl with
       | [y0,y1,y2],_ =>
         have t0:DataW.trod enc Tryz.prog w 0 (fun _=>true) true f 23 (([c0,c1,c2].drop 0).take (Tryz.prog.cellsOf 23))=some y0:=hfs 0 _ rfl
         have t1:DataW.trod enc Tryz.prog w 0 (fun _=>true) true f 70 (([c0,c1,c2].drop 1).take (Tryz.prog.cellsOf 70))=some y1:=hfs 1 _ rfl
         have t2:DataW.trod enc Tryz.prog w 0 (fun _=>true) true f 4 (([c0,c1,c2].drop 2).take (Tryz.prog.cellsOf 4))=some y2:=hfs 2 _ rfl
         have k0:Tryz.prog.cellsOf 23=1:=by kernel_rfl
         have k1:Tryz.prog.cellsOf 70=1:=by kernel_rfl
         have k2:Tryz.prog.cellsOf 4=1:=by kernel_rfl
         rw [k0] at t0
         rw [k1] at t1
         rw [k2] at t2
         simp only [List.drop_zero,List.drop_succ_cons,List.take_succ_cons,List.take_zero] at t0 t1 t2
         obtain ⟨z,hz,_,hwf⟩:=DataW.trod_int Tryz.underlying23 t0
         obtain ⟨b,hb,_⟩:=DataW.trod_bool Tryz.underlying4 t2
         obtain ⟨A',n',c',l,hv,hln,hmx,hby⟩:=open_bytes t1
         cases hz
         cases hb
         subst hv
         have hzb:0≤z∧z≤18446744073709551615:=by simpa [Lit.wf,IntKind.min,IntKind.max,IntKind.bits,IntKind.signed] using hwf
         refine ⟨(⟨z.toNat,l,b⟩,⟨z.toNat,A',n',c',b⟩),⟨rfl,hln.symm,rfl,hby,by show z.toNat < _;omega,by show l.length≤_;omega⟩,fun j u hu=>?_⟩
         have hz2:((z.toNat:Nat):Int)=z:=by omega
         simp only [entRow,hz2] at hu
         have hj:j < 3:=by
           rcases Nat.lt_or_ge j 3 with h | h
           · exact h
           · rw [List.getElem?_eq_none (by simpa using h)] at hu;cases hu
         have:=hat j (by simpa using hj)
         rw [←add_add,this,hu]
   obtain ⟨P,hPl,hP⟩:=list_of_all _ n each
   refine ⟨P.map (·.1),⟨P,rfl,⟨some a,c,by simp [hPl],by simp [hPl];omega,fun r hr=>by obtain ⟨x,_,rfl⟩:=List.mem_map.1 hr;rfl,fun hne=>?_⟩,fun x hx=>?_⟩,by simp [hPl];unfold maxLen at hm;omega⟩
   · have hpos:0 < P.length:=by
       cases P with
       | nil=>simp at hne
       | cons=>simp
     have hp0:=(hP 0 P[0] (List.getElem?_eq_getElem hpos)).2 0 _ rfl
     have h00:∃ u,w.cell? a=some u:=⟨_,by simpa [Addr.add] using hp0⟩
     obtain ⟨ha,hb,_⟩:=plain_addr hp0 h00
     refine ⟨a.block,a.off,by rw [←ha],hb,fun i j r u hr hu=>?_⟩
     rw [List.getElem?_map] at hr
     cases hpi:P[i]? with
     | none=>rw [hpi] at hr;cases hr
     | some x =>
       rw [hpi] at hr
       cases hr
       have hc:=(hP i x hpi).2 j u hu
       obtain ⟨_,_,hadd⟩:=plain_addr hc h00
       rw [hadd] at hc
       rw [show a.off+i*3+j=a.off+(i*3+j) from by omega]
       exact hc
   · obtain ⟨i,hi⟩:=List.mem_iff_getElem?.1 hx
     exact (hP i x hi).1
end
end Go.Proofs.YtocndimihokcmaaGreat
namespace Go.Proofs.YtocndimihokcmaaGreat
open Go.ChangeShapes Go.WideShapes Go.Deep Go.RowKit
set_option maxRecDepth 100000
section
variable {H:Type} {enc:TypeId×Value→H} {w:World} {P:Program} {base:Nat} {spare:Nat→Bool} {held:Bool}
theorem trod_array {t e:TypeId} {n fuel:Nat} {cs:List Value} {x:DataW H×List MemPlace} (ht:P.underlying t=some (.array n e)) (h:DataW.trod enc P w base spare held fuel t cs=some x) :
   ∃ m,cs.length=P.cellsOf t∧∀ i,i < n→∃ y,DataW.trod enc P w base spare held m e ((cs.drop (i*P.cellsOf e)).take (P.cellsOf e))=some y:=by
 cases fuel with
 | zero=>simp [DataW.trod] at h
 | succ m =>
   unfold DataW.trod at h
   rw [ht] at h
   split at h <;> simp_all
   obtain ⟨hl,xs,hp,hd⟩:=h
   refine ⟨m,fun i hi=>?_⟩
   have hx:=mapM_some_get hp i i (by simp [hi])
   have hlen:=mapM_some_length hp
   simp only [List.length_range] at hlen
   rw [List.getElem?_eq_getElem (by omega)] at hx
   exact ⟨_,_,hx⟩
theorem one_at {L:List Value} {k:Nat} {v:Value} (h:(L.drop k).take 1=[v]):L[k]? = some v:=by
 have h1:((L.drop k).take 1)[0]? = some v:=by rw [h];rfl
 rw [List.getElem?_take_of_lt (by decide),List.getElem?_drop] at h1
 exact h1
end
section
variable {H:Type} {enc:TypeId×Value→H} {w:World}
theorem open_u64 {f k:Nat} {L:List Value} {y:DataW H×List MemPlace} (h:DataW.trod enc Tryz.prog w 0 (fun _=>true) true f 23 ((L.drop k).take 1)=some y):∃ n:Nat,L[k]? = some (.int .u64 n)∧n < 18446744073709551616:=by
 obtain ⟨z,hz,_,hw⟩:=DataW.trod_int Tryz.underlying23 h
 have hb:0≤z∧z≤18446744073709551615:=by simpa [Lit.wf,IntKind.min,IntKind.max,IntKind.bits,IntKind.signed] using hw
 obtain ⟨n,rfl⟩:∃ n:Nat,z=n:=⟨z.toNat,by omega⟩
 exact ⟨n,one_at hz,by omega⟩
theorem open_b {f k:Nat} {L:List Value} {y:DataW H×List MemPlace} (h:DataW.trod enc Tryz.prog w 0 (fun _=>true) true f 4 ((L.drop k).take 1)=some y):∃ b,L[k]? = some (.bool b):=by
 obtain ⟨b,hz,_⟩:=DataW.trod_bool Tryz.underlying4 h
 exact ⟨b,one_at hz⟩
theorem st_get {R:List Nat} {pc:Nat} {a b c:Bool} (hR:R.length=16) {L:List Value} (hL:L.length=20) (h:∀ (i:Nat) (n:Nat),R[i]? = some n→L[i]? = some (.int .u64 n)) (h16:L[16]? = some (.int .u64 pc)) (h17:L[17]? = some (.bool a)) (h18:L[18]? = some (.bool b)) (h19:L[19]? = some (.bool c)) :
   L=stRow ⟨R,pc,a,b,c⟩:=by
 apply List.ext_getElem?
 intro i
 rw [stRow]
 by_cases hi:i < 16
 · have hg:R[i]? = some R[i]:=List.getElem?_eq_getElem (by omega)
   rw [h i _ hg,List.getElem?_append_left (by simpa [hR] using hi),List.getElem?_map,hg]
   rfl
 · rw [List.getElem?_append_right (by simp [hR];omega)]
   simp only [List.length_map,hR]
   by_cases h20:i < 20
   · obtain rfl | rfl | rfl | rfl:i=16∨i=17∨i=18∨i=19:=by omega
     · rw [h16];rfl
     · rw [h17];rfl
     · rw [h18];rfl
     · rw [h19];rfl
   · rw [List.getElem?_eq_none (by omega),List.getElem?_eq_none (by simp;omega)]
theorem open_st {cs:Array Value} {d:DataW H} {ps:List MemPlace} (h:DataW.Trod enc Tryz.prog w 0 (fun _=>true) true 26 (.agg cs) d ps):∃ s:St,cs=(stRow s).toArray∧StOk s:=by
 obtain ⟨fuel,hf⟩:=h
 obtain ⟨xs,f,_,_,hlen,hxl,hfs⟩:=DataW.trod_struct Tryz.underlying26 hf
 rw [show Tryz.prog.cellsOf 26=20 by kernel_rfl] at hlen
 have hcs:(Value.agg cs).cells.toList=cs.toList:=rfl
 rw [hcs] at hlen hfs
 generalize hL:cs.toList=L at *
 match xs,hxl with
 | [y0,y1,y2,y3,y4],_ =>
   have k1:Tryz.prog.cellsOf 23=1:=by kernel_rfl
   have kb:Tryz.prog.cellsOf 4=1:=by kernel_rfl
   have kr:Tryz.prog.cellsOf 24=16:=by kernel_rfl
   have t0:DataW.trod enc Tryz.prog w 0 (fun _=>true) true f 24 ((L.drop 0).take (Tryz.prog.cellsOf 24))=some y0:=hfs 0 _ rfl
   have t1:DataW.trod enc Tryz.prog w 0 (fun _=>true) true f 23 ((L.drop 16).take (Tryz.prog.cellsOf 23))=some y1:=hfs 1 _ rfl
   have t2:DataW.trod enc Tryz.prog w 0 (fun _=>true) true f 4 ((L.drop 17).take (Tryz.prog.cellsOf 4))=some y2:=hfs 2 _ rfl
   have t3:DataW.trod enc Tryz.prog w 0 (fun _=>true) true f 4 ((L.drop 18).take (Tryz.prog.cellsOf 4))=some y3:=hfs 3 _ rfl
   have t4:DataW.trod enc Tryz.prog w 0 (fun _=>true) true f 4 ((L.drop 19).take (Tryz.prog.cellsOf 4))=some y4:=hfs 4 _ rfl
   rw [k1] at t1
   rw [kb] at t2 t3 t4
   rw [kr,List.drop_zero] at t0
   obtain ⟨m,_,ha⟩:=trod_array Tryz.underlying24 t0
   rw [k1] at ha
   obtain ⟨R,hR,hRq⟩:=list_of_all (fun i n=>L[i]? = some (.int .u64 (n:Nat))∧n < 18446744073709551616) 16 fun i hi=>by
     obtain ⟨y,hy⟩:=ha i hi
     obtain ⟨n,h1,h2⟩:=open_u64 hy
     rw [Nat.mul_one,List.getElem?_take_of_lt hi] at h1
     exact ⟨n,h1,h2⟩
   obtain ⟨pc,h1,h1'⟩:=open_u64 t1
   obtain ⟨a,h2⟩:=open_b t2
   obtain ⟨b,h3⟩:=open_b t3
   obtain ⟨c,h4⟩:=open_b t4
   refine ⟨⟨R,pc,a,b,c⟩,?_,hR,fun r hr=>?_,h1'⟩
   · rw [←st_get hR hlen (fun i n hi=>(hRq i n hi).1) h1 h2 h3 h4,←hL]
   · obtain ⟨i,hi⟩:=List.mem_iff_getElem?.1 hr
     exact (hRq i r hi).2
end
def witSt:Value:=.agg #[.int .u64 0,.int .u64 0,.int .u64 0,.int .u64 0,.int .u64 0,.int .u64 0,.int .u64 0,.int .u64 0,.int .u64 0,.int .u64 0,.int .u64 0,.int .u64 0,.int .u64 0,.int .u64 0,.int .u64 0,.int .u64 0,.int .u64 0,.bool false,.bool false,.bool false]
end Go.Proofs.YtocndimihokcmaaGreat
namespace Go.Proofs.YtocndimihokcmaaGreat.machineApart
open Go.ChangeShapes Go.WideShapes Go.ChangeAt Go.RowKit
set_option maxRecDepth 100000
theorem own:ownKnob Tryz.prog.godebug=none:=by kernel_rfl
theorem laidOut:laidOutB Tryz.prog=true:=by kernel_rfl
theorem lifted (os:Os) (started:os.Started) (H:Type) (enc:TypeId×Value→H) :
   ReturnsInHanded {} Tryz.checked os 5 .any (Rows.machineApartSpec.pre6 enc Tryz.prog Tryz.f5 Rows.machineApartRow.domain false) (Rows.machineApartSpec.post enc Tryz.prog Tryz.f5 false true false false):=by
 refine returnsInHanded_of_change (C:=Tryz.checked) own started (by kernel_rfl) Tryz.func5
   (ChangeSpec.witness6 (enc:=enc) (C:=Tryz.checked) false ⟨#[],#[.string ⟨#[]⟩,witSt,.slice none 0 0,.string ⟨#[]⟩],[]⟩ 8 (by kernel_rfl) (by kernel_rfl) (by kernel_rfl) (by kernel_rfl)) ?_
 intro W base args ds gs before hval0 hW hcnd _
 have hval:∀ (j:Nat) t v,Tryz.f5.params[j]? = some t→args[j]? = some v→Value.okWide Tryz.prog W .any base t v:=hval0
 have hW':=hW
 obtain ⟨p,q,hA0,hV,rfl,hfz,hnd⟩:=hW
 have hA:DataW.TrodAll enc Tryz.prog W 0 (fun _=>true) true Tryz.f5.params.toList args.toList ds p:=hA0
 rw [Tryz.params5] at hA hval
 obtain ⟨eE,vs0,d0,ds0,p0,q0,hargs,rfl,rfl,h0,r0⟩:=trodAll_cons hA
 obtain ⟨aB,vs1,d1,ds1,p1,q1,rfl,rfl,rfl,h1,r1⟩:=trodAll_cons r0
 obtain ⟨aC,vs2,d2,ds2,p2,q2,rfl,rfl,rfl,h2,r2⟩:=trodAll_cons r1
 obtain ⟨eB,vs3,d3,ds3,p3,q3,rfl,rfl,rfl,h3,r3⟩:=trodAll_cons r2
 obtain ⟨rfl,rfl,rfl⟩:=trodAll_nil r3
 obtain rfl:args=#[eE,aB,aC,eB]:=by cases args;simp_all
 obtain ⟨rfl,rfl⟩:=trodVars_none hV
 obtain ⟨s0,rfl,rfl,rfl,ss0⟩:=Go.ChangeMaps.open_string Tryz.underlying9 (hval 0 9 eE rfl rfl) h0
 have sl0:s0.data.toList.length≤9223372036854775807:=by rw [Array.length_toList];exact ss0
 have k1:=h1
 have lt1:∀ x∈p1,x.block < W.heap.size:=by obtain ⟨m,hm⟩:=k1;exact DataW.trod_lt m _ _ _ hm
 obtain ⟨cs1,rfl,hcs1⟩:=okWide_struct Tryz.underlying26 (hval 1 26 aB rfl rfl)
 obtain ⟨x1,rfl,hx1⟩:=open_st h1
 obtain ⟨A2,len2,cap2,rfl⟩:=okWide_slice Tryz.underlying43 (hval 2 43 aC rfl rfl)
 have k2:=h2
 have lt2:∀ x∈p2,x.block < W.heap.size:=by obtain ⟨m,hm⟩:=k2;exact DataW.trod_lt m _ _ _ hm
 obtain ⟨l2,hl2,hn2⟩:=open_regs h2
 obtain ⟨s3,rfl,rfl,rfl,ss3⟩:=Go.ChangeMaps.open_string Tryz.underlying9 (hval 3 9 eB rfl rfl) h3
 have sl3:s3.data.toList.length≤9223372036854775807:=by rw [Array.length_toList];exact ss3
 clear hA0 hval0
 refine (apart_walk s0.data.toList s3.data.toList x1 _ l2 W hx1 hl2 hn2 sl0 sl3).mono fun e W' ⟨he,bel⟩=>?_
 subst he
 exact ⟨_,rfl,_,_,_,[],_,[],hW',trodAll_mk1 (shut_bool Tryz.underlying4 _),(trodAll_cons_mk (Go.ChangeMaps.shut_string Tryz.underlying9 ss0) (trodAll_cons_mk (Below.trod laidOut (by kernel_rfl) (of_decide_eq_true (by kernel_rfl)) k1 bel lt1) (trodAll_cons_mk (Below.trod laidOut (by kernel_rfl) (of_decide_eq_true (by kernel_rfl)) k2 bel lt2) (trodAll_cons_mk (Go.ChangeMaps.shut_string Tryz.underlying9 ss3) trodAll_mk0)))),rfl,bel.frame _,fun h=>by cases h⟩
theorem over:Rows.machineApartRow.holds Tryz.pinned (OpenSpec.ofChange Rows.machineApartSpec) :=
 OpenClaim.holds_of_wide 5 Tryz.f5 rfl rfl rfl rfl rfl rfl rfl ⟨rfl,rfl,rfl,rfl,rfl⟩ rfl rfl rfl rfl rfl (by kernel_rfl) Tryz.func5 (by kernel_rfl)
   (of_decide_eq_true (by kernel_rfl)) (by unfold Func.isWrapper;first | (rw [if_pos (by decide +kernel)];kernel_rfl) | (rw [if_neg (by decide +kernel)];exact ⟨rfl,rfl⟩))
   (fun os started H enc _=>lifted os started H enc)
theorem proved:Rows.MachineApartSaid:=over
#print axioms proved
end Go.Proofs.YtocndimihokcmaaGreat.machineApart
