/- Sets of facts: a map whose keys are facts. -/
import Derived.Test.YtjbabpnepjhllaaGreatWords21
import Derived.Maps.OwnSet
import Derived.Maps.OwnOps
import Derived.Maps.Views
import Derived.Lib.SlMapFilter
import Derived.DeepKeys4
namespace Go.Proofs.YtjbabpnepjhllaaGreat
open Go.RowKit Go.Maps

def factV (f : Fct) : Value := .agg #[.int .i64 f.kind, .int .i64 f.a, .int .i64 f.b]
def factLits (f : Fct) : List Lit := [.int .i64 f.kind, .int .i64 f.a, .int .i64 f.b]
def keyL (f : Fct) : Lit := .string (keyBytes (factLits f))
theorem laidOut : laidOutB Tryz.prog = true := by kernel_rfl
theorem rowFact : 45 < Tryz.prog.types.size := of_decide_eq_true (by kernel_rfl)
theorem lawFact : Go.WideMaps.KeyLaw Tryz.prog 45 := deep_law_laid laidOut (m := 2) (by omega) rowFact (by kernel_rfl) (by rw [Tryz.underlying45])
theorem keyedF : Keyed Tryz.prog 45 := Keyed.of_law lawFact
theorem keyTypeF : Tryz.prog.keyType 45 = true := by kernel_rfl
theorem cellsF : Tryz.prog.cellsOf 45 = 3 := by kernel_rfl
theorem cellsI : Tryz.prog.cellsOf 3 = 1 := by kernel_rfl
theorem wf64 {x : Int} (h : In64 x) : (Lit.int .i64 x).wf = true := by
  unfold In64 at h
  simp [Lit.wf, IntKind.min, IntKind.max, IntKind.bits, IntKind.signed]
  omega
theorem in64_of {x : Int} (h : (Lit.int .i64 x).wf = true) : In64 x := by
  simp [Lit.wf, IntKind.min, IntKind.max, IntKind.bits, IntKind.signed] at h
  exact h
theorem keyLits_int (d : Nat) (v : Value) : Tryz.prog.keyLits (d + 1) 3 [v] = match v with | .int q' n => if q' = .i64 ∧ (Lit.int .i64 n).wf = true then some [.int .i64 n] else none | _ => none := by
  unfold Program.keyLits
  rw [Tryz.underlying3]
  cases v <;> rfl
theorem typesTwo : ∃ d, Tryz.prog.types.size + 1 = d + 2 := ⟨Tryz.prog.types.size - 1, by have := rowFact; omega⟩
theorem keyOf_any (v : Value) : keyOf Tryz.prog 45 v = if v.formed Tryz.prog 45 = true then
    (match v.cells.toList with
      | [x, y, z] => (match x, y, z with
        | .int q a, .int q' b, .int q'' c => if (q = .i64 ∧ (Lit.int .i64 a).wf = true) ∧ (q' = .i64 ∧ (Lit.int .i64 b).wf = true) ∧ (q'' = .i64 ∧ (Lit.int .i64 c).wf = true) then some (.string (keyBytes [.int .i64 a, .int .i64 b, .int .i64 c])) else none
        | _, _, _ => none)
      | _ => none) else none := by
  obtain ⟨d, hd⟩ := typesTwo
  unfold keyOf
  rw [Tryz.underlying45, keyTypeF, hd]
  simp only [Bool.true_and]
  by_cases hf : v.formed Tryz.prog 45 = true
  · rw [if_pos hf, if_pos hf]
    have hlen : v.cells.toList.length = 3 := by
      cases v <;> simp [Value.formed, Tryz.underlying45] at hf
      rename_i xs
      rw [cellsF] at hf
      simpa [Value.cells] using hf
    match hc : v.cells.toList, hlen with
    | [x, y, z], h3 =>
      clear h3
      unfold Program.keyLits
      rw [Tryz.underlying45]
      simp only [cellsF, List.length_cons, List.length_nil, Nat.reduceAdd, true_and]
      rw [if_pos (by kernel_rfl)]
      simp only [List.mapM_cons, List.mapM_nil, List.drop_zero, List.drop_succ_cons, cellsI, List.take_succ_cons, List.take_zero, keyLits_int]
      cases x <;> try (simp; done)
      rename_i q a
      cases y <;> try (simp; done)
      rename_i q' b
      cases z <;> try (simp; done)
      rename_i q'' c
      by_cases h1 : q = .i64 ∧ (Lit.int .i64 a).wf = true
      · by_cases h2 : q' = .i64 ∧ (Lit.int .i64 b).wf = true
        · by_cases h3 : q'' = .i64 ∧ (Lit.int .i64 c).wf = true
          · simp [h1, h2, h3]
          · simp [h1, h2, h3]
        · simp [h1, h2]
      · simp [h1]
  · rw [if_neg hf, if_neg hf]
theorem formedF (f : Fct) : (factV f).formed Tryz.prog 45 = true := by simp [factV, Value.formed, Tryz.underlying45, cellsF]
theorem keyOf_mk {f : Fct} (h : FctOk f) : keyOf Tryz.prog 45 (factV f) = some (keyL f) := by
  rw [keyOf_any, if_pos (formedF f)]
  simp only [factV, Value.cells]
  rw [if_pos ⟨⟨by trivial, wf64 h.kind⟩, ⟨by trivial, wf64 h.a⟩, ⟨by trivial, wf64 h.b⟩⟩]
  rfl
theorem keyOf_inv {v : Value} {kl : Lit} (h : keyOf Tryz.prog 45 v = some kl) : ∃ f, FctOk f ∧ v = factV f ∧ kl = keyL f := by
  rw [keyOf_any] at h
  split at h
  · rename_i hf
    split at h
    · rename_i x y z hc
      split at h
      · rename_i q a q' b q'' c
        split at h
        · rename_i hh
          obtain ⟨⟨rfl, h1⟩, ⟨rfl, h2⟩, ⟨rfl, h3⟩⟩ := hh
          cases h
          refine ⟨⟨a, b, c⟩, ⟨in64_of h1, in64_of h2, in64_of h3⟩, ?_, rfl⟩
          cases v <;> simp [Value.formed, Tryz.underlying45] at hf
          rename_i xs
          have : xs.toList = [.int .i64 a, .int .i64 b, .int .i64 c] := hc
          unfold factV
          congr 1
          exact Array.toList_inj.1 this
        · cases h
      · cases h
    · cases h
  · cases h
theorem factV_inj {f g : Fct} (h : factV f = factV g) : f = g := by
  unfold factV at h
  simp at h
  exact Fct.ext_ h.1 h.2.1 h.2.2
theorem keyL_inj {f g : Fct} (hf : FctOk f) (hg : FctOk g) (h : keyL f = keyL g) : f = g := factV_inj (keyedF.inj (keyOf_mk hf) (by rw [h]; exact keyOf_mk hg))
theorem isKeyF (f : Fct) : WideAt.IsKeyLit (keyL f) := by trivial

/-- What a set of facts tells. -/
structure SetD (D : DataW Unit) (l : List Fct) : Prop where
  is_ : IsMap D
  ok : ∀ f ∈ l, FctOk f
  has : ∀ f, FctOk f → (Maps.has D (keyL f) = true ↔ f ∈ l)
theorem SetD.start : SetD (.map []) [] := ⟨isMap_empty, fun f h => by simp at h, fun f _ => by simp [Maps.has_eq]⟩
theorem SetD.put {D : DataW Unit} {l : List Fct} (h : SetD D l) {f : Fct} (hf : FctOk f) : SetD (D.put (keyL f) (.agg [])) (insF f l) := by
  refine ⟨h.is_.put _ _, fun g hg => ?_, fun g hg => ?_⟩
  · rcases mem_insF.1 hg with rfl | hg
    · exact hf
    · exact h.ok g hg
  · rw [mem_insF]
    by_cases e : g = f
    · subst e
      rw [has_put_same h.is_ (isKeyF g)]
      simp
    · rw [has_put_other (fun e' => e (keyL_inj hg hf e')), h.has g hg]
      simp [e]
theorem SetD.filter {D : DataW Unit} {l : List Fct} (h : SetD D l) (p : Fct → Bool) {pd : Lit → DataW Unit → Bool} (hp : ∀ f d, FctOk f → pd (keyL f) d = p f) : SetD (Lib.deleteFuncD pd D) (l.filter fun f => !p f) := by
  obtain ⟨es, rfl⟩ := h.is_
  refine ⟨⟨_, rfl⟩, fun f hf => h.ok f (List.mem_filter.1 hf).1, fun f hf => ?_⟩
  rw [List.mem_filter, ← h.has f hf, Lib.deleteFuncD, Maps.has_eq, Maps.has_eq, List.any_filter, List.any_eq_true, List.any_eq_true]
  constructor
  · rintro ⟨x, hx, hs⟩
    rw [Bool.and_eq_true] at hs
    obtain ⟨hs1, hs2⟩ := hs
    have e := WideAt.sameKey_eq hs2
    rw [e, hp f _ hf] at hs1
    exact ⟨⟨x, hx, hs2⟩, hs1⟩
  · rintro ⟨⟨x, hx, hs⟩, hn⟩
    have e := WideAt.sameKey_eq hs
    exact ⟨x, hx, by rw [e, hp f _ hf, hn, WideAt.sameKey_self (isKeyF f)]; rfl⟩
/-- A set of facts in memory. -/
def SetAt (w : World) (b n : Nat) (l : List Fct) : Prop := ∃ D, w.ownsMap Tryz.prog 45 (unitElem (H := Unit)) b n D ∧ SetD D l
theorem SetAt.made (w : World) : SetAt (w.alloc (.map #[] 0)) w.heap.size 0 [] := ⟨_, World.ownsMap_made _ _ _ _, SetD.start⟩
theorem SetAt.keep {w w' : World} {b n : Nat} {l : List Fct} (h : SetAt w b n l) (hb : w'.heap[b]? = w.heap[b]?) : SetAt w' b n l := by
  obtain ⟨D, ⟨es, clock, h1, h2⟩, h3⟩ := h
  exact ⟨D, ⟨es, clock, hb.trans h1, h2⟩, h3⟩
theorem SetAt.lt {w : World} {b n : Nat} {l : List Fct} (h : SetAt w b n l) : b < w.heap.size := by
  obtain ⟨D, hw, _⟩ := h
  exact hw.lt
theorem SetAt.of {w : World} {b n : Nat} {D : DataW Unit} {l l' : List Fct} (h : w.ownsMap Tryz.prog 45 (unitElem (H := Unit)) b n D) (hd : SetD D l) (e : l = l') : SetAt w b n l' := ⟨D, h, e ▸ hd⟩
end Go.Proofs.YtjbabpnepjhllaaGreat
