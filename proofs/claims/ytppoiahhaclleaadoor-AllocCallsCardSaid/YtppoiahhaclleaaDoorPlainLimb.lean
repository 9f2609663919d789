/- Limb programs: what may be, in plain words; spans of registers, and what is so of them. -/
import Derived.WalkKit
namespace Go.Proofs.YtppoiahhaclleaaDoor

structure LOp where
  kind : Int
  d : Int
  e : Int
  a : Int
  b : Int
  c : Int
  buf : Int
  imm : Nat
structure Bf where
  size : Int
  kind : Int
  secret : Bool
structure LP where
  regs : Int
  bufs : List Bf
  ops : List LOp

/-! Each loop's end, and each end's loop. -/
/-- One operation more: what stands in the rows, and which loops are open (places of loops, the last one first). -/
def endsStep (o : LOp) (i : Nat) (s : List Int × List Nat) : List Int × List Nat :=
  if o.kind = 16 then (s.1, i :: s.2)
  else if o.kind = 17 then match s.2 with
    | [] => s
    | k :: l => ((s.1.set i (k : Nat)).set k (i : Nat), l)
  else s
def endsTo (ops : List LOp) (k : Nat) : List Int × List Nat :=
  match k with
  | 0 => (List.replicate ops.length (-1), [])
  | k + 1 => match ops[k]? with
    | some o => endsStep o k (endsTo ops k)
    | none => endsTo ops k
def endsF (ops : List LOp) : List Int := (endsTo ops ops.length).1

/-! Spans. -/
def noteF (s : Int × Int) (i : Int) : Int × Int := (if s.1 < 0 then i else s.1, max s.2 i)
def noteR (sp : List (Int × Int)) (r i : Int) : List (Int × Int) := if 0 ≤ r then sp.modify r.toNat (fun s => noteF s i) else sp
/-- The registers that an operation has; an end its loop's. -/
def regsOf (ops : List LOp) (ends : List Int) (o : LOp) (i : Nat) : List Int :=
  [o.a, o.b, o.c, o.d, o.e] ++ if o.kind = 17 then [((ops[(ends.getD i 0).toNat]?).map (·.d)).getD (-1)] else []
def noteOp (ops : List LOp) (ends : List Int) (sp : List (Int × Int)) (o : LOp) (i : Nat) : List (Int × Int) := (regsOf ops ends o i).foldl (fun sp r => noteR sp r i) sp
def notesTo (p : LP) (ends : List Int) : Nat → List (Int × Int)
  | 0 => List.replicate p.regs.toNat (-1, -1)
  | k + 1 => match p.ops[k]? with
    | some o => noteOp p.ops ends (notesTo p ends k) o k
    | none => notesTo p ends k
/-- A register that is live at a loop's beginning lasts to its end. -/
def lasts (i e : Int) (s : Int × Int) : Bool := decide (0 ≤ s.1) && (decide (s.1 < i) && (decide (i ≤ s.2) && decide (s.2 < e)))
def lastF (i e : Int) (s : Int × Int) : Int × Int := if lasts i e s then (s.1, e) else s
def passTo (ops : List LOp) (ends : List Int) (sp : List (Int × Int)) : Nat → List (Int × Int) × Bool
  | 0 => (sp, false)
  | k + 1 => let q := passTo ops ends sp k
    match ops[k]? with
    | some o => if o.kind = 16 then (q.1.map (lastF k (ends.getD k 0)), q.2 || q.1.any (lasts k (ends.getD k 0))) else q
    | none => q
def passF (ops : List LOp) (ends : List Int) (sp : List (Int × Int)) : List (Int × Int) × Bool := passTo ops ends sp ops.length
def moreF (ops : List LOp) (ends : List Int) : Nat → List (Int × Int) → List (Int × Int)
  | 0, sp => sp
  | n + 1, sp => let q := passF ops ends sp
    if q.2 then moreF ops ends n q.1 else q.1
/-- How much is left to be raised. -/
def leftF (n : Nat) (sp : List (Int × Int)) : Nat := (sp.map fun s => ((n : Int) - s.2).toNat).sum
def spansF (p : LP) : List (Int × Int) :=
  let sp := notesTo p (endsF p.ops) p.ops.length
  moreF p.ops (endsF p.ops) (leftF p.ops.length sp + 1) sp

/-! What is so of a pass. -/
theorem pass_len (ops : List LOp) (ends : List Int) (sp : List (Int × Int)) (k : Nat) : (passTo ops ends sp k).1.length = sp.length := by
  induction k with
  | zero => rfl
  | succ k ih =>
    simp only [passTo]
    split
    · split
      · simp [ih]
      · exact ih
    · exact ih
theorem last_same {i e : Int} {s : Int × Int} (h : lasts i e s = false) : lastF i e s = s := by unfold lastF; rw [h]; rfl
theorem map_last_same {i e : Int} {sp : List (Int × Int)} (h : sp.any (lasts i e) = false) : sp.map (lastF i e) = sp := by
  refine List.ext_getElem? fun j => ?_
  rw [List.getElem?_map]
  cases hj : sp[j]? with
  | none => rfl
  | some s =>
    rw [List.any_eq_false] at h
    have := h s (List.mem_of_getElem? hj)
    simp only [Option.map_some, last_same (by simpa using this)]
/-- A pass that raises nothing leaves all as it was, and nothing is left to be raised. -/
theorem pass_still {ops : List LOp} {ends : List Int} {sp : List (Int × Int)} {k : Nat} (h : (passTo ops ends sp k).2 = false) :
    (passTo ops ends sp k).1 = sp ∧ ∀ (i : Nat) (o : LOp), i < k → ops[i]? = some o → o.kind = 16 → sp.any (lasts i (ends.getD i 0)) = false := by
  induction k with
  | zero => exact ⟨rfl, fun i o hi => absurd hi (by omega)⟩
  | succ k ih =>
    simp only [passTo] at h ⊢
    cases ho : ops[k]? with
    | none =>
      rw [ho] at h
      obtain ⟨h1, h2⟩ := ih h
      refine ⟨h1, fun i o hi hio hk => ?_⟩
      by_cases e : i = k
      · subst e; rw [ho] at hio; cases hio
      · exact h2 i o (by omega) hio hk
    | some q =>
      rw [ho] at h
      simp only at h ⊢
      by_cases hk : q.kind = 16
      · rw [if_pos hk] at h ⊢
        simp only [Bool.or_eq_false_iff] at h
        obtain ⟨h1, h2⟩ := ih h.1
        rw [h1] at h
        refine ⟨by simp only [h1]; exact map_last_same h.2, fun i o hi hio hk' => ?_⟩
        by_cases e : i = k
        · subst e; exact h.2
        · exact h2 i o (by omega) hio hk'
      · rw [if_neg hk] at h ⊢
        obtain ⟨h1, h2⟩ := ih h
        refine ⟨h1, fun i o hi hio hk' => ?_⟩
        by_cases e : i = k
        · subst e; rw [ho] at hio; cases hio; exact absurd hk' hk
        · exact h2 i o (by omega) hio hk'

/-- What a pass keeps: whatever raising an end, up to a loop's end, keeps. -/
theorem pass_keeps {ops : List LOp} {ends : List Int} (I : Nat → Int × Int → Prop) (hI : ∀ (r k : Nat) (o : LOp) (s : Int × Int), ops[k]? = some o → o.kind = 16 → lasts k (ends.getD k 0) s = true → I r s → I r (s.1, ends.getD k 0))
    {sp : List (Int × Int)} (h : ∀ r s, sp[r]? = some s → I r s) (k : Nat) : ∀ r s, (passTo ops ends sp k).1[r]? = some s → I r s := by
  induction k with
  | zero => exact h
  | succ k ih =>
    intro r s hs
    simp only [passTo] at hs
    cases ho : ops[k]? with
    | none => rw [ho] at hs; exact ih r s hs
    | some q =>
      rw [ho] at hs
      simp only at hs
      by_cases hk : q.kind = 16
      · rw [if_pos hk] at hs
        simp only [List.getElem?_map] at hs
        cases hj : (passTo ops ends sp k).1[r]? with
        | none => rw [hj] at hs; cases hs
        | some t =>
          rw [hj] at hs
          simp only [Option.map_some, Option.some.injEq] at hs
          subst hs
          unfold lastF
          split
          · exact hI r k q t ho hk ‹_› (ih r t hj)
          · exact ih r t hj
      · rw [if_neg hk] at hs; exact ih r s hs
theorem more_keeps {ops : List LOp} {ends : List Int} (I : Nat → Int × Int → Prop) (hI : ∀ (r k : Nat) (o : LOp) (s : Int × Int), ops[k]? = some o → o.kind = 16 → lasts k (ends.getD k 0) s = true → I r s → I r (s.1, ends.getD k 0))
    (n : Nat) : ∀ {sp : List (Int × Int)}, (∀ r s, sp[r]? = some s → I r s) → ∀ r s, (moreF ops ends n sp)[r]? = some s → I r s := by
  induction n with
  | zero => exact fun h => h
  | succ n ih =>
    intro sp h
    have h1 := pass_keeps I hI h ops.length
    simp only [moreF]
    split
    · exact ih h1
    · exact h1
theorem more_len (ops : List LOp) (ends : List Int) (n : Nat) : ∀ sp : List (Int × Int), (moreF ops ends n sp).length = sp.length := by
  induction n with
  | zero => exact fun _ => rfl
  | succ n ih =>
    intro sp
    simp only [moreF]
    split
    · rw [ih]; exact pass_len _ _ _ _
    · exact pass_len _ _ _ _

/-! Raising ends. -/
theorem left_le {n : Nat} {f : Int × Int → Int × Int} (hf : ∀ s, (f s).2 ≥ s.2) : ∀ sp : List (Int × Int), leftF n (sp.map f) ≤ leftF n sp := by
  intro sp
  induction sp with
  | nil => exact Nat.le_refl _
  | cons s sp ih =>
    have := hf s
    unfold leftF at ih ⊢
    simp only [List.map_cons, List.sum_cons]
    omega
theorem last_ge (i e : Int) (s : Int × Int) : (lastF i e s).2 ≥ s.2 := by
  unfold lastF lasts
  split
  · rename_i h
    simp only [Bool.and_eq_true, decide_eq_true_eq] at h
    omega
  · omega
theorem left_lt {n : Nat} {i e : Int} (he : e ≤ n) : ∀ sp : List (Int × Int), sp.any (lasts i e) = true → leftF n (sp.map (lastF i e)) < leftF n sp := by
  intro sp
  induction sp with
  | nil => intro h; simp at h
  | cons s sp ih =>
    intro h
    rw [List.any_cons] at h
    have h1 : leftF n ((s :: sp).map (lastF i e)) = (n - (lastF i e s).2).toNat + leftF n (sp.map (lastF i e)) := by unfold leftF; simp
    have h2 : leftF n (s :: sp) = (n - s.2).toNat + leftF n sp := by unfold leftF; simp
    have h3 := left_le (n := n) (last_ge i e) sp
    rw [h1, h2]
    cases hs : lasts i e s
    · rw [hs, Bool.false_or] at h
      have := ih h
      rw [last_same hs]
      omega
    · have hs' := hs
      unfold lasts at hs'
      simp only [Bool.and_eq_true, decide_eq_true_eq] at hs'
      have : (lastF i e s).2 = e := by unfold lastF; rw [hs]; rfl
      omega
theorem pass_left {ops : List LOp} {ends : List Int} {sp : List (Int × Int)} {n : Nat} (he : ∀ (k : Nat) (o : LOp), ops[k]? = some o → o.kind = 16 → ends.getD k 0 ≤ n) (k : Nat) :
    leftF n (passTo ops ends sp k).1 ≤ leftF n sp ∧ ((passTo ops ends sp k).2 = true → leftF n (passTo ops ends sp k).1 < leftF n sp) := by
  induction k with
  | zero => exact ⟨Nat.le_refl _, fun h => by cases h⟩
  | succ k ih =>
    simp only [passTo]
    cases ho : ops[k]? with
    | none => exact ih
    | some q =>
      simp only
      by_cases hk : q.kind = 16
      · rw [if_pos hk]
        have h1 := left_le (n := n) (last_ge k (ends.getD k 0)) (passTo ops ends sp k).1
        refine ⟨by simp only; omega, fun h => ?_⟩
        simp only [Bool.or_eq_true] at h ⊢
        rcases h with h | h
        · have := ih.2 h; omega
        · have := left_lt (he k q ho hk) _ h; omega
      · rw [if_neg hk]; exact ih
/-- So many passes are enough: nothing is left to be raised. -/
theorem more_still {ops : List LOp} {ends : List Int} (he : ∀ (k : Nat) (o : LOp), ops[k]? = some o → o.kind = 16 → ends.getD k 0 ≤ ops.length) (n : Nat) : ∀ sp : List (Int × Int), leftF ops.length sp < n →
    ∀ (i : Nat) (o : LOp), ops[i]? = some o → o.kind = 16 → (moreF ops ends n sp).any (lasts i (ends.getD i 0)) = false := by
  induction n with
  | zero => intro sp h; omega
  | succ n ih =>
    intro sp h
    simp only [moreF]
    split
    · rename_i hq
      have := (pass_left he ops.length (sp := sp)).2 hq
      exact ih _ (by unfold passF at *; omega)
    · rename_i hq
      have hq' : (passTo ops ends sp ops.length).2 = false := by simpa [passF] using hq
      obtain ⟨h1, h2⟩ := pass_still hq'
      intro i o hi hk
      show (passTo ops ends sp ops.length).1.any _ = false
      rw [h1]
      exact h2 i o (List.getElem?_eq_some_iff.1 hi).1 hi hk
end Go.Proofs.YtppoiahhaclleaaDoor
