/- Bytes side by side: plain. -/
import Derived.Test.YtcciaihghhleoaaMem
namespace Go.Proofs.Ytcciaihghhleoaa

theorem place_parts {rs : List Reg} {at_ n i o : Nat} (hg : Good rs) (h : placeF rs at_ n = some (i, o)) : ∃ r, rs[i]? = some r ∧ i = findI rs at_ ∧ r.base ≤ at_ ∧ o = at_ - r.base ∧ o + n ≤ r.bytes.length ∧ o < r.bytes.length := by
  unfold placeF at h
  split at h
  · cases h
  · rename_i r hr
    have := findI_le hr
    have := hg.last r (List.mem_of_getElem? hr)
    have := hg.pos r (List.mem_of_getElem? hr)
    split at h
    · cases h
    · split at h
      · cases h
      · cases h
        exact ⟨r, hr, rfl, by omega, rfl, by omega, by omega⟩
theorem place_of {rs : List Reg} {at_ n : Nat} {r : Reg} (hr : rs[findI rs at_]? = some r) (h1 : r.base ≤ at_) (h2 : at_ - r.base + n ≤ r.bytes.length) : placeF rs at_ n = some (findI rs at_, at_ - r.base) := by
  unfold placeF
  rw [hr]
  simp only
  rw [if_neg (by omega), if_neg (by omega)]
theorem findI_lt {rs : List Reg} {at_ k : Nat} {r : Reg} (hk : k < findI rs at_) (hr : rs[k]? = some r) : lastOf r < at_ := by
  obtain ⟨hl, rfl⟩ := List.getElem?_eq_some_iff.1 hr
  have := List.not_of_lt_findIdx (p := fun r => decide (at_ ≤ lastOf r)) (xs := rs) hk
  simp at this
  exact this

theorem bytes_split {rs : List Reg} {at_ n k : Nat} {L : List UInt8} (hg : Good rs) (h : bytesF rs at_ (n + k) = some L) :
    L.length = n + k ∧ bytesF rs at_ n = some (L.take n) ∧ (0 < k → at_ + n < 18446744073709551616 ∧ bytesF rs (at_ + n) k = some (L.drop n)) ∧ (8 ≤ n + k → loadF rs at_ = some (wordOf (L.take 8))) := by
  unfold bytesF at h
  split at h
  · cases h
  · rename_i i o hp
    obtain ⟨r, hr, hi, h1, ho, h2, h3⟩ := place_parts hg hp
    rw [hr] at h
    simp only at h
    cases h
    subst hi
    subst ho
    have hm := List.mem_of_getElem? hr
    have hend := hg.end_ r hm
    have hlast := hg.last r hm
    refine ⟨by simp; omega, ?_, fun hk => ⟨by omega, ?_⟩, fun h8 => ?_⟩
    · unfold bytesF
      rw [place_of hr h1 (by omega)]
      simp only [hr, List.take_take]
      rw [Nat.min_eq_left (by omega)]
    · have hf : findI rs (at_ + n) = findI rs at_ := by
        refine findI_eq (Nat.le_of_lt (List.getElem?_eq_some_iff.1 hr).1) (fun j a hj ha => ?_) (fun a ha => ?_)
        · have := findI_lt hj ha; omega
        · rw [hr] at ha; cases ha; omega
      unfold bytesF
      have hr' : rs[findI rs (at_ + n)]? = some r := by rw [hf]; exact hr
      rw [place_of hr' (by omega) (by omega)]
      simp only [hr']
      rw [List.drop_take, List.drop_drop, show n + k - n = k from by omega, show at_ - r.base + n = at_ + n - r.base from by omega]
    · unfold loadF
      rw [place_of hr h1 (by omega)]
      simp only [hr, List.take_take]
      rw [Nat.min_eq_left h8]

theorem byte_of_word (L : List UInt8) : ∀ (x : Nat) (b : UInt8), L[x]? = some b → byteAt (wordOf L) x = b := by
  induction L with
  | nil => intro x b h; simp at h
  | cons a L ih =>
    intro x b h
    have hw : wordOf (a :: L) = a.toNat + 256 * wordOf L := rfl
    have ha := a.toNat_lt
    cases x with
    | zero =>
      simp at h
      subst h
      rw [byteAt, hw]
      simp only [Nat.mul_zero, Nat.pow_zero, Nat.div_one]
      rw [Nat.add_mul_mod_self_left, Nat.mod_eq_of_lt (by omega)]
      simp
    | succ x =>
      have h' := ih x b (by simpa using h)
      rw [← h', byteAt, byteAt, hw, show 8 * (x + 1) = 8 + 8 * x from by omega, Nat.pow_add, ← Nat.div_div_eq_div_mul, show (2 : Nat) ^ 8 = 256 from rfl]
      rw [show (a.toNat + 256 * wordOf L) / 256 = wordOf L from by omega]
theorem word_lt64 (L : List UInt8) (h : L.length ≤ 8) : wordOf L < 18446744073709551616 := by
  have := wordOf_lt L
  have : 2 ^ (8 * L.length) ≤ 2 ^ 64 := Nat.pow_le_pow_right (by decide) (by omega)
  omega
theorem sub_lo (L : List UInt8) (n : Nat) : (ByteArray.extract ⟨L.toArray⟩ 0 n).toList = L.take n := by
  rw [ByteArray.toList_eq, ByteArray.data_extract]
  simp
theorem sub_hi (L : List UInt8) (n m : Nat) (h : L.length ≤ m) : (ByteArray.extract ⟨L.toArray⟩ n m).toList = L.drop n := by
  rw [ByteArray.toList_eq, ByteArray.data_extract]
  simp only [List.extract_toArray, List.extract_eq_drop_take']
  rw [List.take_of_length_le h]
theorem byte_test {L : List UInt8} {V z : Nat} (hz : z < 8) (hl : z < (ByteArray.mk L.toArray).size) (hV : ∀ (x : Nat) (b : UInt8), x < 8 → L[x]? = some b → byteAt V x = b) :
    ((V : Int) / 2 ^ (8 * z) % 256 != (((ByteArray.mk L.toArray)[z]'hl).toNat : Int)) = false := by
  have hl' : z < L.length := by simpa [ByteArray.size] using hl
  have e : (ByteArray.mk L.toArray)[z]'hl = L[z] := rfl
  have hb := hV z L[z] hz (List.getElem?_eq_getElem hl')
  rw [bne_eq_false_iff_eq, e, ← hb, byteAt_int V z _ rfl]
  simp
end Go.Proofs.Ytcciaihghhleoaa
