/- What a store turns, by address: plain. -/
import Derived.Test.YtmanhikpccnfaaaStore
namespace Go.Proofs.Ytmanhikpccnfaaa

/-- How far behind an address a region's byte is. -/
def off (base q at_ : Nat) : Nat := (base + q + (18446744073709551616 - at_)) % 18446744073709551616

theorem putTo_get {l : List UInt8} {k v : Nat} (n q : Nat) (hk : k + n ≤ l.length) : (putTo l k v n)[q]? = if k ≤ q ∧ q < k + n then some (byteAt v (q - k)) else l[q]? := by
  induction n with
  | zero => rw [if_neg (by omega)]; rfl
  | succ n ih =>
    have h0 := ih (by omega)
    rw [putTo, List.getElem?_set]
    split
    · rename_i e
      subst e
      rw [if_pos (by rw [putTo_length]; omega), if_pos (by omega), Nat.add_sub_cancel_left]
    · rename_i e
      rw [h0]
      by_cases h : k ≤ q ∧ q < k + n
      · rw [if_pos h, if_pos (by omega)]
      · rw [if_neg h, if_neg (by omega)]

/-- A store that was done. -/
theorem store_parts {rs rs2 : List Reg} {at_ v : Nat} (hg : Good rs) (h : storeF rs at_ v = some rs2) :
    ∃ (i : Nat) (r : Reg), rs[i]? = some r ∧ findI rs at_ = i ∧ r.base ≤ at_ ∧ at_ - r.base + 8 ≤ r.bytes.length ∧ r.write = true ∧ rs2 = rs.set i { r with bytes := putTo r.bytes (at_ - r.base) v 8 } := by
  unfold storeF at h
  split at h
  · cases h
  · rename_i i k hp
    unfold placeF at hp
    split at hp
    · cases hp
    · rename_i r hr
      split at hp
      · cases hp
      · split at hp
        · cases hp
        · rename_i h1 h2
          cases hp
          rw [hr] at h
          simp only at h
          split at h
          · rename_i hw
            cases h
            have := findI_le hr
            have := hg.last r (List.mem_of_getElem? hr)
            exact ⟨_, r, hr, rfl, by omega, by omega, hw, rfl⟩
          · cases h

theorem off_in {rs : List Reg} {at_ : Nat} {i j q : Nat} {r a : Reg} (hg : Good rs) (hr : rs[i]? = some r) (ha : rs[j]? = some a) (h1 : r.base ≤ at_) (h2 : at_ - r.base + 8 ≤ r.bytes.length) (hq : q < a.bytes.length) :
    off a.base q at_ < 8 ↔ (j = i ∧ at_ - r.base ≤ q ∧ q < at_ - r.base + 8) := by
  have e1 := hg.end_ r (List.mem_of_getElem? hr)
  have e2 := hg.end_ a (List.mem_of_getElem? ha)
  unfold off
  have hb := hg.gap
  rw [List.pairwise_iff_getElem] at hb
  obtain ⟨hi, hri⟩ := List.getElem?_eq_some_iff.1 hr
  obtain ⟨hj, haj⟩ := List.getElem?_eq_some_iff.1 ha
  rcases Nat.lt_trichotomy j i with hlt | rfl | hgt
  · have := hb j i hj hi hlt
    rw [hri, haj] at this
    have : ¬ j = i := by omega
    constructor
    · intro h; omega
    · intro h; omega
  · rw [hri] at haj; subst haj
    constructor
    · intro h; refine ⟨rfl, ?_, ?_⟩ <;> omega
    · intro h; omega
  · have := hb i j hi hj hgt
    rw [hri, haj] at this
    have : ¬ j = i := by omega
    constructor
    · intro h; omega
    · intro h; omega

theorem off_self {r : Reg} {at_ q : Nat} (h1 : r.base ≤ at_) (hq : at_ - r.base ≤ q) (hq8 : q < at_ - r.base + 8) (h2 : at_ < 18446744073709551616) (h3 : r.base + q < 18446744073709551616) : off r.base q at_ = q - (at_ - r.base) := by
  unfold off; omega

/-- Same lengths and bases, and what each byte is. -/
theorem store_at {rs rs2 : List Reg} {at_ v : Nat} (hat : at_ < 18446744073709551616) (hg : Good rs) (h : storeF rs at_ v = some rs2) {j : Nat} {a : Reg} (ha : rs[j]? = some a) :
    ∃ b, rs2[j]? = some b ∧ b.base = a.base ∧ b.bytes.length = a.bytes.length ∧ ∀ q x, a.bytes[q]? = some x →
      (off a.base q at_ < 8 → a.write = true ∧ b.bytes[q]? = some (byteAt v (off a.base q at_))) ∧ (¬ off a.base q at_ < 8 → b.bytes[q]? = some x) := by
  obtain ⟨i, r, hr, _, h1, h2, hw, rfl⟩ := store_parts hg h
  by_cases hji : j = i
  · subst hji
    obtain rfl : a = r := by rw [hr] at ha; exact (Option.some.inj ha).symm
    refine ⟨{ a with bytes := putTo a.bytes (at_ - a.base) v 8 }, ?_, rfl, by simp only [putTo_length], fun q x hx => ?_⟩
    · rw [List.getElem?_set, if_pos rfl, if_pos (List.getElem?_eq_some_iff.1 hr).1]
    · have hq : q < a.bytes.length := (List.getElem?_eq_some_iff.1 hx).1
      have hi := off_in hg hr hr h1 h2 hq
      have he := hg.end_ a (List.mem_of_getElem? hr)
      simp only [putTo_get 8 q h2]
      constructor
      · intro ho
        have hin := hi.1 ho
        rw [if_pos hin.2, off_self h1 hin.2.1 hin.2.2 hat (by omega)]
        exact ⟨hw, rfl⟩
      · intro ho
        rw [if_neg (fun hc => ho (hi.2 ⟨rfl, hc⟩))]
        exact hx
  · refine ⟨a, by rw [List.getElem?_set, if_neg (fun e => hji e.symm)]; exact ha, rfl, rfl, fun q x hx => ⟨fun ho => ?_, fun _ => hx⟩⟩
    have hq : q < a.bytes.length := (List.getElem?_eq_some_iff.1 hx).1
    exact absurd ((off_in hg hr ha h1 h2 hq).1 ho).1 hji

theorem store_length {rs rs2 : List Reg} {at_ v : Nat} (hg : Good rs) (h : storeF rs at_ v = some rs2) : rs2.length = rs.length := by
  obtain ⟨i, r, _, _, _, _, _, rfl⟩ := store_parts hg h
  simp

/-- The bytes that are hit, of a region's first q .. -/
def hitsTo (g : Int) (at_ base q : Nat) : Nat := (List.range q).countP fun p => decide (g = 0 ∧ off base p at_ < 8)
/-- .. and of the first regions. -/
def hitsAll (g : Int) (at_ : Nat) (rs : List Reg) (i : Nat) : Nat := ((rs.take i).map fun r => hitsTo g at_ r.base r.bytes.length).sum

theorem hitsTo_succ (g : Int) (at_ base q : Nat) : hitsTo g at_ base (q + 1) = hitsTo g at_ base q + if g = 0 ∧ off base q at_ < 8 then 1 else 0 := by
  unfold hitsTo
  rw [List.range_succ, List.countP_append, List.countP_singleton]
  simp only [decide_eq_true_eq]
theorem hitsTo_le (g : Int) (at_ base q : Nat) : hitsTo g at_ base q ≤ q := by
  have := List.countP_le_length (p := fun p => decide (g = 0 ∧ off base p at_ < 8)) (l := List.range q)
  rwa [List.length_range] at this
theorem hitsAll_zero (g : Int) (at_ : Nat) (rs : List Reg) : hitsAll g at_ rs 0 = 0 := rfl
theorem hitsAll_succ (g : Int) (at_ : Nat) {rs : List Reg} {i : Nat} {r : Reg} (hr : rs[i]? = some r) : hitsAll g at_ rs (i + 1) = hitsAll g at_ rs i + hitsTo g at_ r.base r.bytes.length := by
  obtain ⟨hi, rfl⟩ := List.getElem?_eq_some_iff.1 hr
  unfold hitsAll
  rw [List.take_succ_eq_append_getElem hi, List.map_append, List.sum_append]
  simp
theorem hitsAll_le (g : Int) (at_ : Nat) {rs : List Reg} (h : Good rs) : ∀ i, i ≤ rs.length → hitsAll g at_ rs i ≤ i * 1048576
  | 0, _ => Nat.le_refl _
  | i + 1, hi => by
    have hr : rs[i]? = some rs[i] := List.getElem?_eq_getElem (by omega)
    rw [hitsAll_succ g at_ hr]
    have := hitsAll_le g at_ h i (by omega)
    have := hitsTo_le g at_ rs[i].base rs[i].bytes.length
    have := (h.bytes rs[i] (List.getElem_mem (by omega))).2
    omega

theorem count_seg (k : Nat) : ∀ n, (List.range n).countP (fun p => decide (k ≤ p ∧ p < k + 8)) = min (n - k) 8
  | 0 => by simp
  | n + 1 => by
    rw [List.range_succ, List.countP_append, List.countP_singleton, count_seg k n]
    simp only [decide_eq_true_eq]
    split <;> omega

/-- Eight bytes are hit. -/
theorem hits_eight {rs rs2 : List Reg} {at_ v : Nat} (hg : Good rs) (h : storeF rs at_ v = some rs2) : hitsAll 0 at_ rs rs.length = 8 := by
  obtain ⟨i, r, hr, _, h1, h2, hw, rfl⟩ := store_parts hg h
  have one : ∀ (j : Nat) (a : Reg), rs[j]? = some a → hitsTo 0 at_ a.base a.bytes.length = if j = i then 8 else 0 := fun j a ha => by
    have e : hitsTo 0 at_ a.base a.bytes.length = (List.range a.bytes.length).countP (fun p => decide (j = i ∧ (at_ - r.base ≤ p ∧ p < at_ - r.base + 8))) := by
      unfold hitsTo
      refine List.countP_congr fun p hp => ?_
      have hp' : p < a.bytes.length := by simpa using hp
      have := off_in hg hr ha h1 h2 hp'
      simp only [true_and, decide_eq_true_eq]
      exact this
    rw [e]
    split
    · rename_i e2; subst e2
      rw [hr] at ha; cases ha
      simp only [true_and]
      rw [count_seg]; omega
    · rename_i e2
      simp [e2]
  have all : ∀ n, n ≤ rs.length → hitsAll 0 at_ rs n = if i < n then 8 else 0 := by
    intro n
    induction n with
    | zero => intro _; rw [if_neg (by omega)]; rfl
    | succ n ih =>
      intro hn
      have hr2 : rs[n]? = some rs[n] := List.getElem?_eq_getElem (by omega)
      rw [hitsAll_succ 0 at_ hr2, ih (by omega), one n _ hr2]
      by_cases h1 : i < n
      · rw [if_pos h1, if_neg (by omega), if_pos (by omega)]
      · by_cases h2 : n = i
        · rw [if_neg h1, if_pos h2, if_pos (by omega)]
        · rw [if_neg h1, if_neg h2, if_neg (by omega)]
  rw [all _ (Nat.le_refl _), if_pos (List.getElem?_eq_some_iff.1 hr).1]

theorem hits_none {g : Int} (h : g ≠ 0) (at_ : Nat) (rs : List Reg) (i : Nat) : hitsAll g at_ rs i = 0 := by
  unfold hitsAll
  have : ∀ base q, hitsTo g at_ base q = 0 := fun base q => by
    unfold hitsTo; simp [h]
  simp only [this]
  induction rs.take i with
  | nil => rfl
  | cons a l ih => simpa using ih

theorem word_bytes (v : Nat) : ∀ n, wordOf ((List.range n).map fun j => byteAt v j) = v % 2 ^ (8 * n)
  | 0 => by simp [wordOf, Nat.mod_one]
  | n + 1 => by
    rw [List.range_succ, List.map_append, List.map_singleton, wordOf_snoc, word_bytes v n, List.length_map, List.length_range]
    have e : (byteAt v n).toNat = v / 2 ^ (8 * n) % 256 := by
      rw [byteAt, UInt8.toNat_ofNat']; omega
    rw [e, show 8 * (n + 1) = 8 * n + 8 from by omega, Nat.pow_add, Nat.mod_mul]
    rw [Nat.mul_comm (_ % _) _]

/-- What was stored is loaded. -/
theorem load_store {rs rs2 : List Reg} {at_ v : Nat} (hv : v < 18446744073709551616) (hg : Good rs) (h : storeF rs at_ v = some rs2) : loadF rs2 at_ = some v := by
  obtain ⟨i, r, hr, hf, h1, h2, hw, rfl⟩ := store_parts hg h
  have hi : i < rs.length := (List.getElem?_eq_some_iff.1 hr).1
  have hl : findI (rs.set i { r with bytes := putTo r.bytes (at_ - r.base) v 8 }) at_ = i := by
    have hset : (rs.set i { r with bytes := putTo r.bytes (at_ - r.base) v 8 }).map lastOf = rs.map lastOf := by
      rw [List.map_set]
      refine List.ext_getElem? fun q => ?_
      rw [List.getElem?_set]
      split
      · rename_i e; subst e
        rw [if_pos (by simpa using hi), List.getElem?_map, hr]
        simp [lastOf, putTo_length]
      · rfl
    have hfi : ∀ (l : List Reg), findI l at_ = (l.map lastOf).findIdx fun x => decide (at_ ≤ x) := fun l => by
      unfold findI; rw [List.findIdx_map]; rfl
    rw [hfi, hset, ← hfi]
    exact hf
  unfold loadF placeF
  rw [hl, List.getElem?_set, if_pos rfl, if_pos hi]
  simp only [putTo_length]
  rw [if_neg (by omega), if_neg (by omega)]
  have e : ((putTo r.bytes (at_ - r.base) v 8).drop (at_ - r.base)).take 8 = (List.range 8).map fun j => byteAt v j := by
    refine List.ext_getElem? fun q => ?_
    rw [List.getElem?_take, List.getElem?_map]
    by_cases hq : q < 8
    · rw [if_pos hq, List.getElem?_drop, putTo_get 8 _ h2, if_pos (by omega), Nat.add_sub_cancel_left, List.getElem?_range hq]
      rfl
    · rw [if_neg hq, List.getElem?_eq_none (by simp; omega)]
      rfl
  dsimp only
  rw [List.getElem?_set, if_pos rfl, if_pos hi]
  dsimp only
  rw [e, word_bytes, Nat.mod_eq_of_lt hv]
end Go.Proofs.Ytmanhikpccnfaaa
