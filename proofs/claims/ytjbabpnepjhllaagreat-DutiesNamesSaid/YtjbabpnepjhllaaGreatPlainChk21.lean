/- Kernels: which may be, in plain words. -/
import Derived.Test.YtjbabpnepjhllaaGreatPlainKern
namespace Go.Proofs.YtjbabpnepjhllaaGreat

def thereK (n : Nat) (x : Int) : Bool := decide (0 ≤ x) && decide (x < n)
def needK (n : Nat) (o : KOp) : Bool :=
  o.d == -1 && (o.e == -1 && (o.c == -1 && (thereK n o.a && (if o.imm = 2 then thereK n o.b else if o.imm = 1 ∨ o.imm = 3 then o.b == -1 else false))))
def kHasD (k : Int) : Bool := decide (k ≤ 14)
def kHasE (k : Int) : Bool := k == 14
def kHasA (k : Int) : Bool := decide (2 ≤ k) && decide (k ≤ 13)
def kHasB (k : Int) : Bool := (decide (3 ≤ k) && decide (k ≤ 8)) || (decide (10 ≤ k) && decide (k ≤ 13))
def kHasC (k : Int) : Bool := decide (8 ≤ k) && decide (k ≤ 14)
def partK (n : Nat) (has : Bool) (x : Int) : Bool := if has then thereK n x else x == -1
def partsK (n : Nat) (o : KOp) : Bool := partK n (kHasD o.kind) o.d && (partK n (kHasE o.kind) o.e && (partK n (kHasA o.kind) o.a && (partK n (kHasB o.kind) o.b && partK n (kHasC o.kind) o.c)))
def numK (o : KOp) : Bool :=
  if o.kind = 1 then true else if o.kind = 13 then decide (1 ≤ o.imm) && decide (o.imm ≤ 6) else if o.kind = 15 then decide (1 ≤ o.imm) && decide (o.imm ≤ 4096) else decide (o.imm = 0)
def takesK (o : KOp) : List Int := [o.a, o.b, o.c].filter (fun v => decide (0 ≤ v)) ++ (if o.kind = 14 then [o.d, o.e] else [])
def varK (vs : List KVar) (v : Int) : KVar := vs.getD v.toNat ⟨0, false, 0⟩
def givenK (v : KVar) : Bool := v.mode == 1 || v.mode == 2
def secretK (vs : List KVar) (o : KOp) : Bool := (takesK o).any fun v => (varK vs v).secret
def intoK (vs : List KVar) (sec : Bool) (v : Int) : Bool := !(decide (0 ≤ v) && (givenK (varK vs v) || (sec && !(varK vs v).secret)))
def alikeK (o : KOp) : List Int :=
  if o.kind = 6 then [o.a, o.b] else if o.kind = 14 then [o.d, o.e] else if o.kind = 8 then [o.d, o.a, o.b] else if o.kind = 9 then [o.d, o.c]
  else if o.kind = 10 ∨ o.kind = 11 ∨ o.kind = 12 then [o.d, o.a, o.b, o.c] else if o.kind = 13 then [o.d, o.a, o.c] else []
def agreeK (vs : List KVar) (o : KOp) : Bool := (alikeK o).all fun v => (varK vs v).limbs == (varK vs ((alikeK o).headD 0)).limbs
def oneK (vs : List KVar) (o : KOp) : Bool :=
  if o.kind = 17 then needK vs.length o
  else decide (1 ≤ o.kind) && (decide (o.kind ≤ 16) && (numK o && (partsK vs.length o && (intoK vs (secretK vs o) o.d && (intoK vs (secretK vs o) o.e && ((decide (o.e < 0) || !(o.d == o.e)) && agreeK vs o))))))
def varOk (v : KVar) : Bool := decide (1 ≤ v.limbs) && (decide (v.limbs ≤ 512) && (decide (0 ≤ v.mode) && decide (v.mode ≤ 3)))
/-- Variables up to k: may they be; how many are parameters. -/
def varTo (vs : List KVar) : Nat → Option Nat
  | 0 => some 0
  | k + 1 => match varTo vs k, vs[k]? with
    | some n, some v => if varOk v = false then none else if v.mode = 0 then some n else if n < k ∨ v.secret ≠ !(v.mode == 1) then none else some (n + 1)
    | _, _ => none
def varsK (vs : List KVar) : Bool := match varTo vs vs.length with
  | some n => decide (1 ≤ vs.length) && (decide (vs.length ≤ 256) && decide (n ≤ 12))
  | none => false
def outK (vs : List KVar) (v : Int) : Bool := decide (0 ≤ v) && (varK vs v).mode == 3
def reqK (vs : List KVar) (o : KOp) : Bool := o.kind == 17 && (needK vs.length o && (!outK vs o.a && !outK vs o.b))
/-- What was made, and how many loops are open, ahead of operation k. -/
def opStep (vs : List KVar) (o : KOp) (s : List Bool × Int) : Option (List Bool × Int) :=
  if oneK vs o = false then none
  else if (takesK o).any (fun v => !(s.1.getD v.toNat false)) = true then none
  else
    let d := if o.kind = 15 then s.2 + 1 else if o.kind = 16 then s.2 - 1 else s.2
    if d < 0 ∨ 4 < d then none else some (if 0 ≤ o.d then s.1.set o.d.toNat true else s.1, d)
def opTo (vs : List KVar) (ops : List KOp) : Nat → Option (List Bool × Int)
  | 0 => some (vs.map givenK, 0)
  | k + 1 => match opTo vs ops k, ops[k]? with
    | some s, some o => opStep vs o s
    | _, _ => none
def opsK (vs : List KVar) (ops : List KOp) : Bool := match opTo vs ops ops.length with
  | some s => (List.range vs.length).all (fun i : Nat => !outK vs (i : Nat) || s.1.getD i false) && s.2 == 0
  | none => false
def checkK (k : Krn) : Bool := varsK k.vars && (decide (k.ops.length ≤ 4096) && (decide (k.reqs.length ≤ 4096) && (k.reqs.all (reqK k.vars) && opsK k.vars k.ops)))
def errK (k : Krn) : Int := if checkK k then 0 else 2

theorem opTo_some {vs : List KVar} {ops : List KOp} : ∀ {n k : Nat}, k ≤ n → ∀ {s}, opTo vs ops n = some s → ∃ t, opTo vs ops k = some t := by
  intro n
  induction n with
  | zero => intro k hk s h; have : k = 0 := by omega
            subst this; exact ⟨_, h⟩
  | succ n ih =>
    intro k hk s h
    rcases Nat.lt_or_ge k (n + 1) with h1 | h1
    · have h2 := h
      simp only [opTo] at h2
      split at h2
      · rename_i t o ht ho
        exact ih (by omega) ht
      · cases h2
    · have : k = n + 1 := by omega
      subst this; exact ⟨_, h⟩
theorem opTo_next {vs : List KVar} {ops : List KOp} {k : Nat} {o : KOp} {s t : List Bool × Int} (ho : ops[k]? = some o) (hs : opTo vs ops k = some s) (ht : opTo vs ops (k + 1) = some t) : opStep vs o s = some t := by
  simp only [opTo, hs, ho] at ht
  exact ht
theorem opStep_one {vs : List KVar} {o : KOp} {s t : List Bool × Int} (h : opStep vs o s = some t) : oneK vs o = true ∧ t.2 = (if o.kind = 15 then s.2 + 1 else if o.kind = 16 then s.2 - 1 else s.2) ∧ 0 ≤ t.2 ∧ t.2 ≤ 4 := by
  unfold opStep at h
  split at h
  · cases h
  · rename_i h1
    split at h
    · cases h
    · dsimp only at h
      generalize (if o.kind = 15 then s.2 + 1 else if o.kind = 16 then s.2 - 1 else s.2) = d at h ⊢
      by_cases h3 : d < 0 ∨ 4 < d
      · rw [if_pos h3] at h; cases h
      · rw [if_neg h3] at h
        cases h
        exact ⟨by simpa using h1, rfl, by simp only; omega, by simp only; omega⟩
/-- The brackets are balanced: as many loops are open as the count says. -/
theorem opTo_deep {vs : List KVar} {ops : List KOp} : ∀ (k : Nat), k ≤ ops.length → ∀ s, opTo vs ops k = some s → s.2 = ((kS ops k).length : Nat) := by
  intro k
  induction k with
  | zero => intro _ s h; cases h; rfl
  | succ k ih =>
    intro hk s h
    obtain ⟨t, ht⟩ := opTo_some (Nat.le_succ k) h
    obtain ⟨o, ho⟩ : ∃ o, ops[k]? = some o := ⟨_, List.getElem?_eq_getElem (by omega)⟩
    obtain ⟨_, h1, h2, _⟩ := opStep_one (opTo_next ho ht h)
    have h3 := ih (by omega) t ht
    rw [kS_next ho]
    by_cases h15 : o.kind = 15
    · rw [if_pos h15] at h1 ⊢
      rw [List.length_cons]; omega
    · rw [if_neg h15] at h1 ⊢
      by_cases h16 : o.kind = 16
      · rw [if_pos h16] at h1 ⊢
        rw [List.length_tail]; omega
      · rw [if_neg h16] at h1 ⊢
        rw [h1, h3]
theorem opsK_some {vs : List KVar} {ops : List KOp} (h : opsK vs ops = true) : ∃ s, opTo vs ops ops.length = some s ∧ s.2 = 0 := by
  unfold opsK at h
  split at h
  · rename_i s hs
    simp only [Bool.and_eq_true, beq_iff_eq] at h
    exact ⟨s, hs, h.2⟩
  · cases h
theorem opsK_bal {vs : List KVar} {ops : List KOp} (h : opsK vs ops = true) : KBal ops := by
  obtain ⟨s, hs, h0⟩ := opsK_some h
  refine ⟨fun k o ho hk hn => ?_, ?_⟩
  · have hlt : k < ops.length := (List.getElem?_eq_some_iff.1 ho).1
    obtain ⟨t, ht⟩ := opTo_some (Nat.le_of_lt hlt) hs
    obtain ⟨u, hu⟩ := opTo_some (show k + 1 ≤ ops.length from hlt) hs
    obtain ⟨_, h1, h2, _⟩ := opStep_one (opTo_next ho ht hu)
    have h3 := opTo_deep k (by omega) t ht
    rw [hn] at h3
    rw [if_neg (by omega), if_pos hk] at h1
    simp at h3
    omega
  · have h1 := opTo_deep ops.length (Nat.le_refl _) s hs
    rw [h0] at h1
    exact List.length_eq_zero_iff.1 (by omega)
theorem opsK_one {vs : List KVar} {ops : List KOp} (h : opsK vs ops = true) {k : Nat} {o : KOp} (ho : ops[k]? = some o) : oneK vs o = true := by
  obtain ⟨s, hs, _⟩ := opsK_some h
  have hlt : k < ops.length := (List.getElem?_eq_some_iff.1 ho).1
  obtain ⟨t, ht⟩ := opTo_some (Nat.le_of_lt hlt) hs
  obtain ⟨u, hu⟩ := opTo_some (show k + 1 ≤ ops.length from hlt) hs
  exact (opStep_one (opTo_next ho ht hu)).1
theorem checkK_parts {k : Krn} (h : checkK k = true) : varsK k.vars = true ∧ k.ops.length ≤ 4096 ∧ k.reqs.length ≤ 4096 ∧ (∀ o ∈ k.reqs, reqK k.vars o = true) ∧ opsK k.vars k.ops = true := by
  unfold checkK at h
  simp only [Bool.and_eq_true, decide_eq_true_eq, List.all_eq_true] at h
  exact h
theorem varsK_len {vs : List KVar} (h : varsK vs = true) : 1 ≤ vs.length ∧ vs.length ≤ 256 := by
  unfold varsK at h
  split at h
  · simp only [Bool.and_eq_true, decide_eq_true_eq] at h
    exact ⟨h.1, h.2.1⟩
  · cases h
/-- Parts of an operation that may be. -/
structure PartsK (n : Nat) (o : KOp) : Prop where
  kind : 1 ≤ o.kind ∧ o.kind ≤ 17
  d : if o.kind ≤ 14 then 0 ≤ o.d ∧ o.d < n else o.d = -1
  e : if o.kind = 14 then (0 ≤ o.e ∧ o.e < n) ∧ o.d ≠ o.e else o.e = -1
  a : (2 ≤ o.kind ∧ o.kind ≤ 13) ∨ o.kind = 17 → 0 ≤ o.a ∧ o.a < n
  b : (3 ≤ o.kind ∧ o.kind ≤ 8) ∨ (10 ≤ o.kind ∧ o.kind ≤ 13) → 0 ≤ o.b ∧ o.b < n
  c : 8 ≤ o.kind ∧ o.kind ≤ 14 → 0 ≤ o.c ∧ o.c < n
theorem part_yes {n : Nat} {has : Bool} {x : Int} (h : partK n has x = true) : if has then 0 ≤ x ∧ x < n else x = -1 := by
  unfold partK thereK at h
  cases has
  · simpa using h
  · simpa using h
theorem oneK_parts {vs : List KVar} {o : KOp} (h : oneK vs o = true) : PartsK vs.length o := by
  unfold oneK at h
  split at h
  · rename_i h17
    unfold needK thereK at h
    simp only [Bool.and_eq_true, decide_eq_true_eq, beq_iff_eq] at h
    obtain ⟨hd, he, hc, ha, _⟩ := h
    refine ⟨by omega, by rw [if_neg (by omega)]; exact hd, by rw [if_neg (by omega)]; exact he, fun _ => ha, fun h => by omega, fun h => by omega⟩
  · simp only [Bool.and_eq_true, decide_eq_true_eq] at h
    obtain ⟨h1, h16, _, hp, _, _, hde, _⟩ := h
    unfold partsK at hp
    simp only [Bool.and_eq_true] at hp
    obtain ⟨hd, he, ha, hb, hc⟩ := hp
    have hd := part_yes hd
    have he := part_yes he
    have ha := part_yes ha
    have hb := part_yes hb
    have hc := part_yes hc
    unfold kHasD at hd
    unfold kHasE at he
    unfold kHasA at ha
    unfold kHasB at hb
    unfold kHasC at hc
    simp only [decide_eq_true_eq, beq_iff_eq, Bool.and_eq_true, Bool.or_eq_true, Bool.not_eq_true'] at hd he ha hb hc hde
    refine ⟨by omega, hd, ?_, fun h => ?_, fun h => ?_, fun h => ?_⟩
    · split at he
      · rename_i h14
        rw [if_pos h14]
        refine ⟨he, fun e => ?_⟩
        rcases hde with h | h
        · omega
        · rw [e] at h; simp at h
      · rename_i h14
        rw [if_neg h14]; exact he
    · rw [if_pos (by omega)] at ha; exact ha
    · rw [if_pos (by omega)] at hb; exact hb
    · rw [if_pos (by omega)] at hc; exact hc
theorem check_bal {k : Krn} (h : checkK k = true) : KBal k.ops := opsK_bal (checkK_parts h).2.2.2.2
theorem check_op {k : Krn} (h : checkK k = true) {i : Nat} {o : KOp} (ho : k.ops[i]? = some o) : PartsK k.vars.length o := oneK_parts (opsK_one (checkK_parts h).2.2.2.2 ho)
end Go.Proofs.YtjbabpnepjhllaaGreat
