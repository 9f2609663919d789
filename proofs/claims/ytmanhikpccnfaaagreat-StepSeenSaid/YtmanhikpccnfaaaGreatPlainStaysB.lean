/- What a step leaves, and what does not matter to it: plain, the other operations; the whole. -/
import Derived.Test.YtmanhikpccnfaaaGreatPlainStays
namespace Go.Proofs.YtmanhikpccnfaaaGreat
open Go.RowKit

theorem regF_set {s : St} {r v : Nat} {k : Int} (h : ugly k = false → k.toNat ≠ r) : regF (sv s (s.regs.set r v)) k = regF s k := by
  unfold regF
  cases hu : ugly k with
  | true => simp
  | false =>
    simp only [if_neg (by decide : ¬ (false = true)), sv, List.getD_eq_getElem?_getD]
    rw [List.getElem?_set_ne (fun e => h hu e.symm)]
theorem addr_set {s : St} {i : Ins} {r v : Nat} (h1 : ugly i.base = false → i.base.toNat ≠ r) (h2 : ugly i.index = false → i.index.toNat ≠ r) : addrF (sv s (s.regs.set r v)) i = addrF s i := by
  unfold addrF
  rw [regF_set h1, regF_set h2]

theorem rd_BX {b r : Nat} {x : Int} {L : List Bool} (hl : L.length = 16) (hb : b < 16) (hx : x = -1 ∨ ∃ X : Nat, x = X ∧ X < 16)
    (h : (let L' := L.set b true; if x != -1 then L'.set x.toNat true else L').getD r false = false) : b ≠ r ∧ (ugly x = false → x.toNat ≠ r) ∧ L.getD r false = false := by
  rcases hx with rfl | ⟨X, rfl, hX⟩
  · have h' : (L.set b true).getD r false = false := h
    rw [getD_set _ _ _ (by omega)] at h'
    simp at h'
    exact ⟨fun e => h'.1 e.symm, (fun hu => by simp [ugly] at hu), by rw [List.getD_eq_getElem?_getD]; exact h'.2⟩
  · have hne : ((X : Int) != -1) = true := by simp
    simp only [hne, if_true] at h
    have h' : ((L.set b true).set X true).getD r false = false := h
    rw [getD_set _ _ _ (by rw [List.length_set]; omega), getD_set _ _ _ (by omega)] at h'
    simp at h'
    exact ⟨fun e => h'.2.1 e.symm, fun _ e => h'.1 e.symm, by rw [List.getD_eq_getElem?_getD]; exact h'.2.2⟩
theorem place_of {i : Ins} (hc : chkP i = true) (h : hasB (formF i.op).is 8 = true) : placeB i = true := by
  have := chk_place hc
  rw [h] at this
  exact this
theorem place_two {i : Ins} (h : placeB i = true) : ∃ B : Nat, i.base = B ∧ B < 16 ∧ (i.index = -1 ∨ ∃ X : Nat, i.index = X ∧ X < 16) := by
  obtain ⟨B, h1, h2⟩ := place_base h
  by_cases hx : i.index = -1
  · exact ⟨B, h1, h2, .inl hx⟩
  · exact ⟨B, h1, h2, .inr (place_index h hx)⟩

/-- What a step that does not go over a value leaves, and what does not matter to it. -/
def DoStays (s : St) (i : Ins) (rs : List Reg) : Prop :=
  (∀ k, (writesL (formR i.op) i).getD k false = false → (doF s i rs 0).1.regs.getD k 0 = s.regs.getD k 0) ∧
  (∀ r v, (readsL (formR i.op) i).getD r false = false → doF (sv s (s.regs.set r v)) i rs 0 = (if (writesL (formR i.op) i).getD r false then (doF s i rs 0).1 else sv (doF s i rs 0).1 ((doF s i rs 0).1.regs.set r v), (doF s i rs 0).2.1, (doF s i rs 0).2.2.1, (doF s i rs 0).2.2.2)) ∧
  ((doF s i rs 0).1.cf = s.cf ∧ (doF s i rs 0).1.of_ = s.of_ ∧ (doF s i rs 0).1.zf = s.zf)

theorem set_ne_getD {R : List Nat} {a k x : Nat} (h : k ≠ a) : (R.set a x).getD k 0 = R.getD k 0 := by
  rw [List.getD_eq_getElem?_getD, List.getD_eq_getElem?_getD, List.getElem?_set_ne (fun e => h e.symm)]

variable {s : St} {i : Ins} {rs : List Reg}
theorem do3_stays (hop : i.op = 3) (hc : chkP i = true) : DoStays s i rs := by
  obtain ⟨op, d, s_, t, ba, ix, sc, di, im⟩ := i
  simp only at hop
  subst hop
  obtain ⟨_, _, hd1, _⟩ := chk_parts hc
  obtain ⟨D, rfl, hDl⟩ := hasOk_yes hd1 (by kernel_rfl)
  obtain ⟨B, hB, hBl, hX⟩ := place_two (place_of hc (by kernel_rfl))
  simp only at hB hX
  subst hB
  have hw : ∀ r, (writesL (formR 3) ⟨3, D, s_, t, B, ix, sc, di, im⟩).getD r false = decide (r = D) := fun r => wr_D hDl r
  refine ⟨fun k hk => ?_, fun r v hr => ?_, rfl, rfl, rfl⟩
  · have h : decide (k = D) = false := (hw k).symm.trans hk
    exact set_ne_getD (by simpa using h)
  · obtain ⟨h1, h2, _⟩ := rd_BX (L := L16) rfl hBl hX hr
    have ha : addrF (sv s (s.regs.set r v)) ⟨3, D, s_, t, B, ix, sc, di, im⟩ = addrF s ⟨3, D, s_, t, B, ix, sc, di, im⟩ := addr_set (fun _ => h1) h2
    have e1 : doF (sv s (s.regs.set r v)) ⟨3, D, s_, t, B, ix, sc, di, im⟩ rs 0 = (sv s ((s.regs.set r v).set D (loadVE (loadF rs (addrF s ⟨3, D, s_, t, B, ix, sc, di, im⟩))).1), [⟨2, addrF s ⟨3, D, s_, t, B, ix, sc, di, im⟩⟩], (loadVE (loadF rs (addrF s ⟨3, D, s_, t, B, ix, sc, di, im⟩))).2, rs) := by
      rw [← ha]; rfl
    rw [e1]
    simp only [hw]
    by_cases hrd : r = D
    · subst hrd
      simp only [decide_true, if_true, List.set_set]
      rfl
    · simp only [hrd, decide_false, if_neg (by decide : ¬ (false = true))]
      rw [List.set_comm _ _ hrd]
      rfl

theorem do5_stays (hop : i.op = 5) (hc : chkP i = true) : DoStays s i rs := by
  obtain ⟨op, d, s_, t, ba, ix, sc, di, im⟩ := i
  simp only at hop
  subst hop
  obtain ⟨_, _, hd1, _⟩ := chk_parts hc
  obtain ⟨D, rfl, hDl⟩ := hasOk_yes hd1 (by kernel_rfl)
  obtain ⟨B, hB, hBl, hX⟩ := place_two (place_of hc (by kernel_rfl))
  simp only at hB hX
  subst hB
  have hw : ∀ r, (writesL (formR 5) ⟨5, D, s_, t, B, ix, sc, di, im⟩).getD r false = decide (r = D) := fun r => wr_D hDl r
  refine ⟨fun k hk => ?_, fun r v hr => ?_, rfl, rfl, rfl⟩
  · have h : decide (k = D) = false := (hw k).symm.trans hk
    exact set_ne_getD (by simpa using h)
  · obtain ⟨h1, h2, _⟩ := rd_BX (L := L16) rfl hBl hX hr
    have ha : addrF (sv s (s.regs.set r v)) ⟨5, D, s_, t, B, ix, sc, di, im⟩ = addrF s ⟨5, D, s_, t, B, ix, sc, di, im⟩ := addr_set (fun _ => h1) h2
    have e1 : doF (sv s (s.regs.set r v)) ⟨5, D, s_, t, B, ix, sc, di, im⟩ rs 0 = (sv s ((s.regs.set r v).set D (addrF s ⟨5, D, s_, t, B, ix, sc, di, im⟩)), [], 0, rs) := by
      rw [← ha]; rfl
    rw [e1]
    simp only [hw]
    by_cases hrd : r = D
    · subst hrd
      simp only [decide_true, if_true, List.set_set]
      rfl
    · simp only [hrd, decide_false, if_neg (by decide : ¬ (false = true))]
      rw [List.set_comm _ _ hrd]
      rfl
theorem do4_stays (hop : i.op = 4) (hc : chkP i = true) : DoStays s i rs := by
  obtain ⟨op, d, s_, t, ba, ix, sc, di, im⟩ := i
  simp only at hop
  subst hop
  obtain ⟨_, _, _, hs1, _⟩ := chk_parts hc
  obtain ⟨S, rfl, hSl⟩ := hasOk_yes hs1 (by kernel_rfl)
  obtain ⟨B, hB, hBl, hX⟩ := place_two (place_of hc (by kernel_rfl))
  simp only at hB hX
  subst hB
  have hw : ∀ r, (writesL (formR 4) ⟨4, d, S, t, B, ix, sc, di, im⟩).getD r false = false := fun r => L16_get r
  refine ⟨fun k hk => rfl, fun r v hr => ?_, rfl, rfl, rfl⟩
  obtain ⟨h1, h2, h3⟩ := rd_BX (L := L16.set S true) (by rw [List.length_set]; rfl) hBl hX hr
  have h4 := rd_S hSl h3
  have ha : addrF (sv s (s.regs.set r v)) ⟨4, d, S, t, B, ix, sc, di, im⟩ = addrF s ⟨4, d, S, t, B, ix, sc, di, im⟩ := addr_set (fun _ => h1) h2
  have hs : regAt (sv s (s.regs.set r v)) (S : Int) = regAt s (S : Int) := regAt_set (by simpa using h4)
  have e1 : doF (sv s (s.regs.set r v)) ⟨4, d, S, t, B, ix, sc, di, im⟩ rs 0 = (sv s (s.regs.set r v), [⟨3, addrF s ⟨4, d, S, t, B, ix, sc, di, im⟩⟩], (storeVE rs (addrF s ⟨4, d, S, t, B, ix, sc, di, im⟩) (regAt s (S : Int))).1, (storeVE rs (addrF s ⟨4, d, S, t, B, ix, sc, di, im⟩) (regAt s (S : Int))).2) := by
    rw [← ha, ← hs]; rfl
  rw [e1]
  simp only [hw, if_neg (by decide : ¬ (false = true))]
  rfl
theorem rd_T {t r : Nat} (ht : t < 16) (h : ((L16.set t true).set 2 true).getD r false = false) : t ≠ r ∧ 2 ≠ r := by
  rw [getD_set _ _ _ (by simp [L16]), getD_set _ _ _ (by simpa [L16] using ht), L16_get] at h
  simp at h
  exact ⟨fun e => h.2 e.symm, fun e => h.1 e.symm⟩
theorem do19_stays (hop : i.op = 19) (hc : chkP i = true) : DoStays s i rs := by
  obtain ⟨op, d, s_, t, ba, ix, sc, di, im⟩ := i
  simp only at hop
  subst hop
  obtain ⟨_, _, hd1, hs1, ht1, hds⟩ := chk_parts hc
  obtain ⟨D, rfl, hDl⟩ := hasOk_yes hd1 (by kernel_rfl)
  obtain ⟨S, rfl, hSl⟩ := hasOk_yes hs1 (by kernel_rfl)
  obtain ⟨T, rfl, hTl⟩ := hasOk_yes ht1 (by kernel_rfl)
  have hDS : D ≠ S := fun e => by
    subst e
    have : (hasB (formF 19).is 4 && (D : Int) == (D : Int)) = false := hds
    rw [show hasB (formF 19).is 4 = true by kernel_rfl] at this
    simp at this
  have hw : ∀ r, (writesL (formR 19) ⟨19, D, S, T, ba, ix, sc, di, im⟩).getD r false = (decide (r = S) || decide (r = D)) := fun r => by
    show ((L16.set D true).set S true).getD r false = _
    rw [getD_set _ _ _ (by simpa [L16] using hSl), wr_D hDl]
  refine ⟨fun k hk => ?_, fun r v hr => ?_, rfl, rfl, rfl⟩
  · have h : (decide (k = S) || decide (k = D)) = false := (hw k).symm.trans hk
    simp at h
    exact (set_ne_getD h.1).trans (set_ne_getD h.2)
  · obtain ⟨h1, h2⟩ := rd_T hTl hr
    have ht : regAt (sv s (s.regs.set r v)) (T : Int) = regAt s (T : Int) := regAt_set (by simpa using h1)
    have h2' : regAt (sv s (s.regs.set r v)) 2 = regAt s 2 := regAt_set (by simpa using h2)
    have e1 : doF (sv s (s.regs.set r v)) ⟨19, D, S, T, ba, ix, sc, di, im⟩ rs 0 = (sv s (((s.regs.set r v).set D (mulF (regAt s (T : Int)) (regAt s 2)).1).set S (mulF (regAt s (T : Int)) (regAt s 2)).2), [], 0, rs) := by
      rw [← ht, ← h2']; rfl
    rw [e1]
    simp only [hw]
    by_cases hrs : r = S
    · subst hrs
      simp only [decide_true, Bool.true_or, if_true]
      rw [List.set_comm _ _ (fun e => hDS e.symm), List.set_set, List.set_comm _ _ hDS]
      refine congrArg (fun q => (sv s q, _)) ?_
      show _ = ((s.regs.set D _).set r _)
      rw [List.set_comm _ _ hDS]
    · by_cases hrd : r = D
      · subst hrd
        simp only [decide_true, Bool.or_true, if_true, List.set_set]
        rfl
      · simp only [hrs, hrd, decide_false, Bool.or_false, if_neg (by decide : ¬ (false = true))]
        rw [List.set_comm _ _ hrd, List.set_comm _ _ hrs]
        rfl
theorem rd_S4 {s r : Nat} (hs : s < 16) (h : ((L16.set s true).set 4 true).getD r false = false) : s ≠ r ∧ 4 ≠ r := by
  rw [getD_set _ _ _ (by simp [L16]), getD_set _ _ _ (by simpa [L16] using hs), L16_get] at h
  simp at h
  exact ⟨fun e => h.2 e.symm, fun e => h.1 e.symm⟩
theorem do28_stays (hop : i.op = 28) (hc : chkP i = true) : DoStays s i rs := by
  obtain ⟨op, d, s_, t, ba, ix, sc, di, im⟩ := i
  simp only at hop
  subst hop
  obtain ⟨_, _, _, hs1, _⟩ := chk_parts hc
  obtain ⟨S, rfl, hSl⟩ := hasOk_yes hs1 (by kernel_rfl)
  have hw : ∀ r, (writesL (formR 28) ⟨28, d, S, t, ba, ix, sc, di, im⟩).getD r false = decide (r = 4) := fun r => wr_D (by decide) r
  refine ⟨fun k hk => ?_, fun r v hr => ?_, rfl, rfl, rfl⟩
  · have h : decide (k = 4) = false := (hw k).symm.trans hk
    exact set_ne_getD (by simpa using h)
  · obtain ⟨h1, h2⟩ := rd_S4 hSl hr
    have hs : regAt (sv s (s.regs.set r v)) (S : Int) = regAt s (S : Int) := regAt_set (by simpa using h1)
    have h4 : regAt (sv s (s.regs.set r v)) 4 = regAt s 4 := regAt_set (by simpa using h2)
    have e1 : doF (sv s (s.regs.set r v)) ⟨28, d, S, t, ba, ix, sc, di, im⟩ rs 0 = (sv s ((s.regs.set r v).set 4 ((18446744073709551616 + regAt s 4 - 8) % 18446744073709551616)), [⟨3, (18446744073709551616 + regAt s 4 - 8) % 18446744073709551616⟩], (storeVE rs ((18446744073709551616 + regAt s 4 - 8) % 18446744073709551616) (regAt s (S : Int))).1, (storeVE rs ((18446744073709551616 + regAt s 4 - 8) % 18446744073709551616) (regAt s (S : Int))).2) := by
      rw [← hs, ← h4]; rfl
    rw [e1]
    have hr4 : ¬ r = 4 := fun e => h2 e.symm
    simp only [hw, hr4, decide_false, if_neg (by decide : ¬ (false = true))]
    rw [List.set_comm _ _ hr4]
    rfl
theorem do29_stays (hop : i.op = 29) (hc : chkP i = true) : DoStays s i rs := by
  obtain ⟨op, d, s_, t, ba, ix, sc, di, im⟩ := i
  simp only at hop
  subst hop
  obtain ⟨_, _, hd1, _⟩ := chk_parts hc
  obtain ⟨D, rfl, hDl⟩ := hasOk_yes hd1 (by kernel_rfl)
  have hw : ∀ r, (writesL (formR 29) ⟨29, D, s_, t, ba, ix, sc, di, im⟩).getD r false = (decide (r = 4) || decide (r = D)) := fun r => by
    show ((L16.set D true).set 4 true).getD r false = _
    rw [getD_set _ _ _ (by simp [L16]), wr_D hDl]
  refine ⟨fun k hk => ?_, fun r v hr => ?_, rfl, rfl, rfl⟩
  · have h : (decide (k = 4) || decide (k = D)) = false := (hw k).symm.trans hk
    simp at h
    exact (set_ne_getD h.2).trans (set_ne_getD h.1)
  · have h2 : 4 ≠ r := rd_S (s := 4) (by decide) hr
    have h4 : regAt (sv s (s.regs.set r v)) 4 = regAt s 4 := regAt_set (by simpa using h2)
    have e1 : doF (sv s (s.regs.set r v)) ⟨29, D, s_, t, ba, ix, sc, di, im⟩ rs 0 = (sv s (((s.regs.set r v).set 4 ((regAt s 4 + 8) % 18446744073709551616)).set D (loadVE (loadF rs (regAt s 4))).1), [⟨2, regAt s 4⟩], (loadVE (loadF rs (regAt s 4))).2, rs) := by
      rw [← h4]; rfl
    rw [e1]
    have hr4 : ¬ r = 4 := fun e => h2 e.symm
    simp only [hw, hr4, decide_false, Bool.false_or]
    by_cases hrd : r = D
    · subst hrd
      simp only [decide_true, if_true]
      rw [List.set_comm _ _ hr4, List.set_set]
      rfl
    · simp only [hrd, decide_false, if_neg (by decide : ¬ (false = true))]
      rw [List.set_comm _ _ hr4, List.set_comm _ _ hrd]
      rfl
theorem do33_stays (hop : i.op = 33) : DoStays s i rs := by
  obtain ⟨op, d, s_, t, ba, ix, sc, di, im⟩ := i
  simp only at hop
  subst hop
  have hw : ∀ r, (writesL (formR 33) ⟨33, d, s_, t, ba, ix, sc, di, im⟩).getD r false = decide (r = 4) := fun r => wr_D (by decide) r
  refine ⟨fun k hk => ?_, fun r v hr => ?_, rfl, rfl, rfl⟩
  · have h : decide (k = 4) = false := (hw k).symm.trans hk
    exact set_ne_getD (by simpa using h)
  · have h2 : 4 ≠ r := rd_S (s := 4) (by decide) hr
    have h4 : regAt (sv s (s.regs.set r v)) 4 = regAt s 4 := regAt_set (by simpa using h2)
    have hr4 : ¬ r = 4 := fun e => h2 e.symm
    have e1 : doF (sv s (s.regs.set r v)) ⟨33, d, s_, t, ba, ix, sc, di, im⟩ rs 0 = ({ sv s ((s.regs.set r v).set 4 ((regAt s 4 + 8) % 18446744073709551616)) with pc := (loadVE (loadF rs (regAt s 4))).1 }, [⟨2, regAt s 4⟩, ⟨4, (loadVE (loadF rs (regAt s 4))).1⟩], (loadVE (loadF rs (regAt s 4))).2, rs) := by
      rw [← h4]; rfl
    rw [e1]
    simp only [hw, hr4, decide_false, if_neg (by decide : ¬ (false = true))]
    rw [List.set_comm _ _ hr4]
    rfl
theorem jump_stays (hop : i.op = 30 ∨ i.op = 31 ∨ i.op = 32) : DoStays s i rs := by
  obtain ⟨op, d, s_, t, ba, ix, sc, di, im⟩ := i
  simp only at hop
  have hw : ∀ r, (writesL (formR op) ⟨op, d, s_, t, ba, ix, sc, di, im⟩).getD r false = false := fun r => by
    rcases hop with rfl | rfl | rfl <;> exact L16_get r
  have hj : ∀ (s : St) (b : Bool), (jumpS s b im).regs = s.regs ∧ (jumpS s b im).cf = s.cf ∧ (jumpS s b im).of_ = s.of_ ∧ (jumpS s b im).zf = s.zf := fun s b => by cases b <;> exact ⟨rfl, rfl, rfl, rfl⟩
  have hk : ∀ (s : St) (b : Bool) (R : List Nat), jumpS (sv s R) b im = sv (jumpS s b im) R := fun s b R => by cases b <;> rfl
  have hd : ∀ s : St, doF s ⟨op, d, s_, t, ba, ix, sc, di, im⟩ rs 0 = (jumpS s (if op = 30 then true else if op = 31 then !s.zf else s.cf) im, [⟨4, (jumpS s (if op = 30 then true else if op = 31 then !s.zf else s.cf) im).pc⟩], 0, rs) := fun s => by
    rcases hop with rfl | rfl | rfl <;> rfl
  refine ⟨fun k _ => ?_, fun r v hr => ?_, ?_⟩
  · rw [hd, (hj _ _).1]
  · rw [hd, hd, hk]
    simp only [hw, if_neg (by decide : ¬ (false = true))]
    rw [(hj _ _).1]
    rfl
  · rw [hd]
    exact (hj _ _).2

theorem do_stays {s : St} {i : Ins} {rs : List Reg} (hc : chkP i = true) (ho : overF s i = none) : DoStays s i rs := by
  rcases (over_none (chk_range hc) ho) with h | h | h | h | h | h | h | h | h | h
  · exact do3_stays h hc
  · exact do4_stays h hc
  · exact do5_stays h hc
  · exact do19_stays h hc
  · exact do28_stays h hc
  · exact do29_stays h hc
  · exact jump_stays (.inl h)
  · exact jump_stays (.inr (.inl h))
  · exact jump_stays (.inr (.inr h))
  · exact do33_stays h
end Go.Proofs.YtmanhikpccnfaaaGreat
