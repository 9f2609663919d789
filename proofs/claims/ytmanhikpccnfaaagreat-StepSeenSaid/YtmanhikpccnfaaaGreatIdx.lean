/- slices.IndexFunc, slices.ContainsFunc over regions, at whatever function value. -/
import Derived.Test.YtmanhikpccnfaaaGreatWordsA
namespace Go.Proofs.YtmanhikpccnfaaaGreat
open Go.RowKit

/-- The first place with p, from k on, of so many: or -1. -/
def firstAt (p : Nat → Bool) (n k : Nat) : Int := match (List.range' k (n - k)).find? p with | some i => i | none => -1

theorem firstAt_yes {p : Nat → Bool} {n k : Nat} (h : k < n) (hp : p k = true) : firstAt p n k = k := by
  have : n - k = (n - k - 1) + 1 := by omega
  rw [firstAt, this, List.range'_succ, List.find?_cons, hp]
theorem firstAt_no {p : Nat → Bool} {n k : Nat} (h : k < n) (hp : p k = false) : firstAt p n k = firstAt p n (k + 1) := by
  have : n - k = (n - (k + 1)) + 1 := by omega
  rw [firstAt, this, List.range'_succ, List.find?_cons, hp]; rfl
theorem firstAt_end {p : Nat → Bool} {n : Nat} : firstAt p n n = -1 := by simp [firstAt]
theorem firstAt_any (p : Reg → Bool) (l : List Reg) (d : Reg) : decide (0 ≤ firstAt (fun k => p (l.getD k d)) l.length 0) = l.any p := by
  have key : ∀ m k, m + k = l.length → decide (0 ≤ firstAt (fun k => p (l.getD k d)) l.length k) = (l.drop k).any p := by
    intro m
    induction m with
    | zero => intro k h; obtain rfl : k = l.length := by omega
              simp [firstAt_end]
    | succ m ih =>
      intro k h
      have hk : k < l.length := by omega
      rw [List.drop_eq_getElem_cons hk, List.any_cons]
      have hg : l.getD k d = l[k] := by simp [List.getD, hk]
      cases hp : p l[k]
      · rw [firstAt_no hk (by simp only [hg, hp]), ih (k + 1) (by omega)]; simp
      · rw [firstAt_yes hk (by simp only [hg, hp])]; simp
  simpa using key l.length 0 (by omega)

/-- A region as it is handed over. -/
def regV (r : Reg) (A : Option Addr) (c : Nat) : Value := .agg #[.int .u64 r.base, .slice A r.bytes.length c, .bool r.write]

set_option maxHeartbeats 400000 in
theorem IndexFunc_any (A : Option Addr) (n c : Nat) (g : Nat) (cap : Array Value) (w : World) (F : Nat → Prop) (l : List Reg) (d : Reg) (p : Reg → Bool) (hn : n ≤ 9223372036854775807)
    (hg : ∀ args w, (callFunc g args).run Tryz.prog w = .ok (.enter g args) w) (hl : RegsAt w F (.slice A n c) l) (hF : ∀ k, F k → k < w.heap.size)
    (hf : ∀ r ∈ l, ∀ wr, Below w.heap.size w wr → ∀ A c, BytesAt w F (.slice A r.bytes.length c) r.bytes → Calls Tryz.prog g (#[regV r A c] ++ cap) wr fun e w' => e = .returned (.bool (p r)) ∧ Below wr.heap.size wr w') :
    Calls Tryz.prog 77 #[.slice A n c, .func (.func g) #[] cap] w fun e w' => e = .returned (.int .i64 (firstAt (fun k => p (l.getD k d)) n 0)) ∧ Below w.heap.size w w' := by
  obtain ⟨hnl, hnc⟩ := hl.len
  have HNL := Lib.hid hnl; clear hnl
  generalize hpp : (fun k => p (l.getD k d)) = q
  have HPP := Lib.hid hpp; clear hpp
  have H := Lib.hid hf; clear hf
  have HL := Lib.hid hl; clear hl
  have HF := Lib.hid hF; clear hF
  go_enter Tryz.func77, Tryz.ntmps77
  go_wp2
  go_loopw [5, 8] (fun _ i wr => ∃ k : Nat, k ≤ n ∧ i = .int .i64 k ∧ Below w.heap.size w wr ∧ firstAt q n 0 = firstAt q n k) (fun _ i _ => n - (intOf i).toNat)
  case atStart => exact ⟨0, by omega, rfl, Below.refl _ _, rfl⟩
  case round =>
    obtain ⟨k, hk, rfl, hbl, hfi⟩ := hrel
    have HFI := Lib.hid hfi; clear hfi
    by_cases hlt : k < n
    · obtain ⟨r, hr⟩ : ∃ r, l[k]? = some r := ⟨_, List.getElem?_eq_getElem (by have := HNL.out; omega)⟩
      obtain ⟨b, off, A', c', rfl, hFb, h0, h1, h2, hby, _⟩ := HL.out.at_ hr
      have hb := HF.out b hFb
      have g0 := (hbl.cell (p := ⟨b, off + k * 3, none⟩) hb).trans h0
      have g1 := (hbl.cell (p := ⟨b, off + k * 3 + 1, none⟩) hb).trans h1
      have g2 := (hbl.cell (p := ⟨b, off + k * 3 + 2, none⟩) hb).trans h2
      have Hk := Lib.hid (H.out r (List.mem_of_getElem? hr) wr hbl A' c' hby)
      have hq : q k = p r := by rw [← HPP.out]; simp [List.getD, hr]
      clear h0 h1 h2 hby hr H
      simp only [regV] at Hk
      cases hp : p r
      · rw [hp] at Hk hq
        have HFN := Lib.hid ((HFI.out).trans (firstAt_no hlt hq)); clear hp HFI hq
        go_wp2_with ((with_reducible refine (Hk.out).mono ?_); rintro e w1 ⟨rfl, hb1⟩)
        go_roundw
        case rel => exact ⟨k + 1, by omega, by go_num, hbl.trans (hb1.mono hbl.size), HFN.out⟩
        case measure => simp [intOf]; omega
      · rw [hp] at Hk hq
        have HFN := Lib.hid ((HFI.out).trans (firstAt_yes hlt hq)); clear hp HFI hq
        go_wp2_with ((with_reducible refine (Hk.out).mono ?_); rintro e w1 ⟨rfl, hb1⟩)
        go_ret
        exact ⟨ret_int HFN.out.symm, hbl.trans (hb1.mono hbl.size)⟩
    · go_wp2
      go_ret
      exact ⟨ret_int (by rw [HFI.out, show k = n from by omega, firstAt_end]), hbl⟩

set_option maxHeartbeats 400000 in
theorem ContainsFunc_any (A : Option Addr) (n c : Nat) (g : Nat) (cap : Array Value) (w : World) (F : Nat → Prop) (l : List Reg) (p : Reg → Bool) (hn : n ≤ 9223372036854775807)
    (hg : ∀ args w, (callFunc g args).run Tryz.prog w = .ok (.enter g args) w) (hl : RegsAt w F (.slice A n c) l) (hF : ∀ k, F k → k < w.heap.size)
    (hf : ∀ r ∈ l, ∀ wr, Below w.heap.size w wr → ∀ A c, BytesAt w F (.slice A r.bytes.length c) r.bytes → Calls Tryz.prog g (#[regV r A c] ++ cap) wr fun e w' => e = .returned (.bool (p r)) ∧ Below wr.heap.size wr w') :
    Calls Tryz.prog 51 #[.slice A n c, .func (.func g) #[] cap] w fun e w' => e = .returned (.bool (l.any p)) ∧ Below w.heap.size w w' := by
  have HI := Lib.hid (IndexFunc_any A n c g cap w F l ⟨0, [], false⟩ p hn hg hl hF hf)
  have HA := Lib.hid (firstAt_any p l ⟨0, [], false⟩)
  obtain rfl := hl.len.1
  clear hf hl hF hg
  go_enter Tryz.func51, Tryz.ntmps51
  go_wp2_with ((with_reducible refine (HI.out).mono ?_); rintro e w1 ⟨rfl, hb1⟩)
  go_ret
  exact ⟨ret_bool HA.out, hb1⟩
end Go.Proofs.YtmanhikpccnfaaaGreat
