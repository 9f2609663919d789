/- Limb programs: which may be, in plain words. -/
import Derived.Test.YtppoiahhaclleaaDoorPlainSpan
namespace Go.Proofs.YtppoiahhaclleaaDoor

def kD (k : Int) : Bool := !(k == 15) && !(k == 17)
def kE (k : Int) : Bool := k == 10 || k == 11 || k == 12
def kA (k : Int) : Bool := !(k == 1) && !(k == 16) && !(k == 17)
def kB (k : Int) : Bool := (decide (3 ≤ k) && decide (k ≤ 7)) || (decide (10 ≤ k) && decide (k ≤ 13)) || k == 15
def kC (k : Int) : Bool := decide (11 ≤ k) && decide (k ≤ 13)
def kM (k : Int) : Bool := k == 14 || k == 15
def regIs (p : LP) (r : Int) (has : Bool) : Bool := if has then decide (0 ≤ r) && decide (r < p.regs) else r == -1
def regsOk (p : LP) (o : LOp) : Bool :=
  regIs p o.d (kD o.kind) && (regIs p o.e (kE o.kind) && ((regIs p o.a (kA o.kind) || (kM o.kind && o.a == -1)) && (regIs p o.b (kB o.kind) && regIs p o.c (kC o.kind))))
def numOk (o : LOp) : Bool :=
  if o.kind = 1 then true
  else if o.kind = 8 ∨ o.kind = 9 then decide (1 ≤ o.imm) && decide (o.imm ≤ 63)
  else if o.kind = 16 then decide (1 ≤ o.imm) && decide (o.imm ≤ 1048576)
  else decide (o.imm = 0)
def bufOk (p : LP) (o : LOp) : Bool :=
  if kM o.kind then decide (0 ≤ o.buf) && (decide (o.buf < p.bufs.length) && match p.bufs[o.buf.toNat]? with
    | some b => !(o.kind == 15 && b.kind == 1) && (!(o.a == -1) || decide ((o.imm : Int) < b.size))
    | none => false)
  else o.buf == 0 && numOk o
def fieldsF (p : LP) (o : LOp) : Bool := decide (1 ≤ o.kind) && (decide (o.kind ≤ 17) && (regsOk p o && (!(kE o.kind && o.d == o.e) && bufOk p o)))

/-- What was made, and the loops' registers (the last one last). -/
structure CSt where
  made : List Bool
  loops : List Int
def inF (l : List Int) (r : Int) : Bool := decide (0 ≤ r) && l.contains r
def madeF (m : List Bool) (r : Int) : Bool := m.getD r.toNat false
def lackF (m : List Bool) (r : Int) : Bool := decide (0 ≤ r) && !madeF m r
def putF (m : List Bool) (r : Int) (is : Bool) : List Bool := if 0 ≤ r then m.set r.toNat is else m
def opF (p : LP) (o : LOp) (s : CSt) : Int × CSt :=
  if fieldsF p o = false then (2, s)
  else if o.kind = 17 then if s.loops = [] then (9, s) else (0, ⟨putF s.made (s.loops.getLastD 0) false, s.loops.dropLast⟩)
  else if (inF s.loops o.d || inF s.loops o.e || (o.kind == 16 && madeF s.made o.d)) = true then (9, s)
  else if o.kind = 16 ∧ s.loops.length = 8 then (10, s)
  else if (lackF s.made o.a || lackF s.made o.b || lackF s.made o.c) = true then (5, s)
  else (0, ⟨putF (putF s.made o.d true) o.e true, if o.kind = 16 then s.loops ++ [o.d] else s.loops⟩)
/-- So many operations: the error (0: none), its place, what is known. -/
def runTo (p : LP) (n : Nat) : Nat → Int × Nat × CSt
  | 0 => (0, 0, ⟨List.replicate n false, []⟩)
  | k + 1 => let q := runTo p n k
    if q.1 ≠ 0 then q else match p.ops[k]? with
    | some o => let r := opF p o q.2.2
      if r.1 ≠ 0 then (r.1, k, r.2) else (0, k + 1, r.2)
    | none => q
def headF (p : LP) : Int :=
  if 64 < p.regs ∨ 32 < p.bufs.length ∨ 65536 < p.ops.length then 3
  else if p.bufs.any (fun b => decide (65536 < b.size)) = true then 3
  else if p.regs < 0 ∨ p.bufs.any (fun b => decide (b.size < 1) || (decide (b.kind < 1) || decide (3 < b.kind))) = true then 2
  else 0
/-- The place, and the error. -/
def checkF (p : LP) (n : Nat) : Int × Int :=
  if headF p ≠ 0 then (0, headF p) else
  let q := runTo p n p.ops.length
  if q.1 ≠ 0 then (q.2.1, q.1) else if q.2.2.loops ≠ [] then (p.ops.length, 9) else (p.ops.length, 0)

/-! However many registers are noted, if there are enough of them. -/
structure Alike (p : LP) (s t : CSt) : Prop where
  loops : s.loops = t.loops
  made : ∀ r : Int, 0 ≤ r → r < p.regs → madeF s.made r = madeF t.made r
  ls : p.regs ≤ s.made.length
  lt : p.regs ≤ t.made.length
  inr : ∀ r ∈ s.loops, 0 ≤ r ∧ r < p.regs
theorem made_put {m : List Bool} {r q : Int} {b : Bool} (hl : r < m.length) (hq : 0 ≤ q) : madeF (putF m r b) q = if r = q then b else madeF m q := by
  unfold putF madeF
  split
  · rename_i h
    rw [List.getD_eq_getElem?_getD, List.getD_eq_getElem?_getD, List.getElem?_set]
    by_cases e : r = q
    · subst e
      rw [if_pos rfl, if_pos rfl, if_pos (by omega)]
      rfl
    · rw [if_neg (by omega), if_neg e]
  · rename_i h
    rw [if_neg (by omega)]
theorem put_len (m : List Bool) (r : Int) (b : Bool) : (putF m r b).length = m.length := by unfold putF; split <;> simp
theorem reg_range {p : LP} {r : Int} {has : Bool} (h : regIs p r has = true) (hr : 0 ≤ r) : r < p.regs := by
  unfold regIs at h
  split at h
  · simp only [Bool.and_eq_true, decide_eq_true_eq] at h; exact h.2
  · simp only [beq_iff_eq] at h; omega
structure OpRegs (p : LP) (o : LOp) : Prop where
  d : 0 ≤ o.d → o.d < p.regs
  e : 0 ≤ o.e → o.e < p.regs
  a : 0 ≤ o.a → o.a < p.regs
  b : 0 ≤ o.b → o.b < p.regs
  c : 0 ≤ o.c → o.c < p.regs
theorem op_regs {p : LP} {o : LOp} (h : fieldsF p o = true) : OpRegs p o := by
  unfold fieldsF regsOk at h
  simp only [Bool.and_eq_true] at h
  obtain ⟨_, _, ⟨hd, he, ha, hb, hc⟩, _⟩ := h
  refine ⟨reg_range hd, reg_range he, fun h0 => ?_, reg_range hb, reg_range hc⟩
  rw [Bool.or_eq_true] at ha
  rcases ha with ha | ha
  · exact reg_range ha h0
  · simp only [Bool.and_eq_true, beq_iff_eq] at ha; omega
theorem loop_d {p : LP} {o : LOp} (h : fieldsF p o = true) (hk : o.kind = 16) : 0 ≤ o.d ∧ o.d < p.regs := by
  unfold fieldsF regsOk at h
  simp only [Bool.and_eq_true] at h
  obtain ⟨_, _, ⟨hd, _⟩, _⟩ := h
  rw [hk] at hd
  unfold regIs kD at hd
  simpa using hd
theorem lack_alike {p : LP} {s t : CSt} (h : Alike p s t) {r : Int} (hr : 0 ≤ r → r < p.regs) : lackF s.made r = lackF t.made r := by
  unfold lackF
  by_cases h0 : 0 ≤ r
  · rw [h.made r h0 (hr h0)]
  · simp [h0]
theorem op_alike {p : LP} {o : LOp} {s t : CSt} (h : Alike p s t) : (opF p o s).1 = (opF p o t).1 ∧ ((opF p o s).1 = 0 → Alike p (opF p o s).2 (opF p o t).2) := by
  unfold opF
  by_cases hf : fieldsF p o = false
  · rw [if_pos hf, if_pos hf]; exact ⟨rfl, fun h => by cases h⟩
  · rw [if_neg hf, if_neg hf]
    have hf' : fieldsF p o = true := by simpa using hf
    have hr := op_regs hf'
    by_cases h17 : o.kind = 17
    · rw [if_pos h17, if_pos h17, ← h.loops]
      by_cases hl : s.loops = []
      · rw [if_pos hl, if_pos hl]; exact ⟨rfl, fun h => by cases h⟩
      · rw [if_neg hl, if_neg hl]
        refine ⟨rfl, fun _ => ?_⟩
        have hm : s.loops.getLastD 0 ∈ s.loops := by
          rw [List.getLastD_eq_getLast?, List.getLast?_eq_some_getLast hl]
          exact List.getLast_mem hl
        obtain ⟨h1, h2⟩ := h.inr _ hm
        refine ⟨rfl, fun r h0 hlt => ?_, by rw [put_len]; exact h.ls, by rw [put_len]; exact h.lt, fun r hr => h.inr r ((List.dropLast_sublist _).subset hr)⟩
        have := h.ls
        have := h.lt
        simp only
        rw [made_put (by omega) h0, made_put (by omega) h0, h.made r h0 hlt]
    · rw [if_neg h17, if_neg h17, ← h.loops]
      have hmd : (o.kind == 16 && madeF s.made o.d) = (o.kind == 16 && madeF t.made o.d) := by
        by_cases h16 : o.kind = 16
        · obtain ⟨h1, h2⟩ := loop_d hf' h16
          rw [h.made o.d h1 h2]
        · rw [show (o.kind == 16) = false by simpa using h16]; rfl
      rw [hmd, lack_alike h hr.a, lack_alike h hr.b, lack_alike h hr.c]
      split
      · exact ⟨rfl, fun h => by cases h⟩
      · split
        · exact ⟨rfl, fun h => by cases h⟩
        · split
          · exact ⟨rfl, fun h => by cases h⟩
          · refine ⟨rfl, fun _ => ⟨rfl, fun r h0 hlt => ?_, by simp only [put_len]; exact h.ls, by simp only [put_len]; exact h.lt, fun r hr' => ?_⟩⟩
            · have h1 := h.ls
              have h2 := h.lt
              have h3 := hr.d
              have h4 := hr.e
              simp only
              have hd1 : o.d < s.made.length := by by_cases e : 0 ≤ o.d <;> omega
              have hd2 : o.d < t.made.length := by by_cases e : 0 ≤ o.d <;> omega
              have he1 : o.e < (putF s.made o.d true).length := by rw [put_len]; by_cases e : 0 ≤ o.e <;> omega
              have he2 : o.e < (putF t.made o.d true).length := by rw [put_len]; by_cases e : 0 ≤ o.e <;> omega
              rw [made_put he1 h0, made_put he2 h0, made_put hd1 h0, made_put hd2 h0, h.made r h0 hlt]
            · simp only at hr'
              split at hr'
              · rename_i h16
                rcases List.mem_append.1 hr' with hr' | hr'
                · exact h.inr r hr'
                · simp only [List.mem_singleton] at hr'
                  subst hr'
                  exact loop_d hf' h16
              · exact h.inr r hr'
theorem run_alike {p : LP} {n m : Nat} (hn : p.regs ≤ n) (hm : p.regs ≤ m) (k : Nat) : (runTo p n k).1 = (runTo p m k).1 ∧ (runTo p n k).2.1 = (runTo p m k).2.1 ∧ ((runTo p n k).1 = 0 → Alike p (runTo p n k).2.2 (runTo p m k).2.2) := by
  induction k with
  | zero =>
    refine ⟨rfl, rfl, fun _ => ⟨rfl, fun r _ _ => ?_, by simpa [runTo] using hn, by simpa [runTo] using hm, by simp [runTo]⟩⟩
    simp [runTo, madeF, List.getElem?_replicate]
    split <;> split <;> rfl
  | succ k ih =>
    obtain ⟨h1, h2, h3⟩ := ih
    simp only [runTo]
    rw [← h1]
    by_cases h0 : (runTo p n k).1 = 0
    · have h4 := h3 h0
      rw [if_neg (by simp [h0]), if_neg (by simp [h0])]
      cases ho : p.ops[k]? with
      | none => exact ⟨h1, h2, h3⟩
      | some o =>
        obtain ⟨h5, h6⟩ := op_alike (o := o) h4
        simp only
        rw [← h5]
        by_cases h7 : (opF p o (runTo p n k).2.2).1 = 0
        · rw [if_neg (by simp [h7]), if_neg (by simp [h7])]
          exact ⟨rfl, rfl, fun _ => h6 h7⟩
        · rw [if_pos h7, if_pos h7]
          exact ⟨rfl, rfl, fun h => absurd h h7⟩
    · rw [if_pos h0, if_pos h0]
      exact ⟨h1, h2, h3⟩
theorem check_alike {p : LP} {n m : Nat} (hn : p.regs ≤ n) (hm : p.regs ≤ m) : checkF p n = checkF p m := by
  obtain ⟨h1, h2, h3⟩ := run_alike hn hm p.ops.length
  unfold checkF
  simp only
  rw [← h1, ← h2]
  split
  · rfl
  · by_cases h0 : (runTo p n p.ops.length).1 = 0
    · rw [(h3 h0).loops]
    · rw [if_pos h0, if_pos h0]

/-! What may be is balanced. -/
theorem run_err {p : LP} {n : Nat} {k j : Nat} (hk : k ≤ j) (h : (runTo p n j).1 = 0) : (runTo p n k).1 = 0 := by
  induction j with
  | zero => obtain rfl : k = 0 := by omega
            exact h
  | succ j ih =>
    by_cases e : k = j + 1
    · subst e; exact h
    · refine ih (by omega) ?_
      by_cases h0 : (runTo p n j).1 = 0
      · exact h0
      · simp only [runTo] at h
        rw [if_pos h0] at h
        exact absurd h h0
theorem run_depth {p : LP} {n : Nat} {k : Nat} (hk : k ≤ p.ops.length) (h : (runTo p n k).1 = 0) : (endsTo p.ops k).2.length = (runTo p n k).2.2.loops.length := by
  induction k with
  | zero => rfl
  | succ k ih =>
    obtain ⟨o, ho⟩ : ∃ o, p.ops[k]? = some o := ⟨_, List.getElem?_eq_getElem (by omega)⟩
    have h0 := run_err (Nat.le_succ k) h
    have ih := ih (by omega) h0
    simp only [runTo] at h ⊢
    rw [if_neg (by simp [h0]), ho] at h ⊢
    simp only at h ⊢
    simp only [endsTo, ho]
    by_cases h7 : (opF p o (runTo p n k).2.2).1 = 0
    · rw [if_neg (by simp [h7])]
      simp only
      generalize (runTo p n k).2.2 = s at *
      generalize endsTo p.ops k = q at *
      unfold opF at h7 ⊢
      unfold endsStep
      by_cases hf : fieldsF p o = false
      · rw [if_pos hf] at h7; cases h7
      · rw [if_neg hf] at h7 ⊢
        by_cases h17 : o.kind = 17
        · rw [if_pos h17] at h7 ⊢
          rw [if_neg (by omega : ¬ o.kind = 16), if_pos h17]
          by_cases hl : s.loops = []
          · rw [if_pos hl] at h7; cases h7
          · rw [if_neg hl]
            have : 0 < s.loops.length := List.length_pos_iff.2 hl
            match hq : q.2, ih with
            | [], ih => simp at ih; omega
            | a :: l, ih => simp at ih ⊢; omega
        · rw [if_neg h17] at h7 ⊢
          split at h7
          · cases h7
          · split at h7
            · cases h7
            · split at h7
              · cases h7
              · rename_i g1 g2 g3
                rw [if_neg g1, if_neg g2, if_neg g3]
                by_cases h16 : o.kind = 16
                · rw [if_pos h16]; simp only [h16, if_pos]; simp [ih]
                · rw [if_neg h16, if_neg h17]; simp only [if_neg h16]; exact ih
    · rw [if_pos h7] at h; exact absurd h h7
theorem check_run {p : LP} {n : Nat} (h : (checkF p n).2 = 0) : headF p = 0 ∧ (runTo p n p.ops.length).1 = 0 ∧ (runTo p n p.ops.length).2.2.loops = [] := by
  unfold checkF at h
  by_cases h1 : headF p = 0
  · rw [if_neg (by simp [h1])] at h
    simp only at h
    by_cases h2 : (runTo p n p.ops.length).1 = 0
    · rw [if_neg (by simp [h2])] at h
      by_cases h3 : (runTo p n p.ops.length).2.2.loops = []
      · exact ⟨h1, h2, h3⟩
      · rw [if_pos h3] at h; cases h
    · rw [if_pos h2] at h; exact absurd h h2
  · rw [if_pos h1] at h; exact absurd h h1
theorem check_bal {p : LP} {n : Nat} (h : (checkF p n).2 = 0) : Bal p.ops := by
  obtain ⟨_, h2, h3⟩ := check_run h
  refine ⟨fun k o ho hk => ?_, ?_⟩
  · have hlt := (List.getElem?_eq_some_iff.1 ho).1
    have h4 := run_err (Nat.le_of_lt hlt) h2
    have h5 := run_depth (Nat.le_of_lt hlt) h4
    have h6 := run_err (Nat.succ_le_of_lt hlt) h2
    simp only [runTo] at h6
    rw [if_neg (by simp [h4]), ho] at h6
    simp only at h6
    intro e
    rw [e] at h5
    have hl : (runTo p n k).2.2.loops = [] := List.eq_nil_of_length_eq_zero h5.symm
    unfold opF at h6
    by_cases hf : fieldsF p o = false
    · simp [hf] at h6
    · rw [if_neg hf, if_pos hk, if_pos hl] at h6
      simp at h6
  · have := run_depth (Nat.le_refl _) h2
    rw [h3] at this
    exact List.eq_nil_of_length_eq_zero this
end Go.Proofs.YtppoiahhaclleaaDoor
