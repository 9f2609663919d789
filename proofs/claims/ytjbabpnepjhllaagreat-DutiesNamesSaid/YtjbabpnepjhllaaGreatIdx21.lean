/- slices.IndexFunc, ContainsFunc over ints and facts, at whatever function value;  -/
import Derived.Test.YtjbabpnepjhllaaGreatInts21
namespace Go.Proofs.YtjbabpnepjhllaaGreat
open Go.RowKit

/-- The first place with p, from k on, of so many: or -1. -/
def firstIn (p : Nat → Bool) (n k : Nat) : Int := match (List.range' k (n - k)).find? p with | some i => i | none => -1
theorem firstIn_yes {p : Nat → Bool} {n k : Nat} (h : k < n) (hp : p k = true) : firstIn p n k = k := by
  have : n - k = (n - k - 1) + 1 := by omega
  rw [firstIn, this, List.range'_succ, List.find?_cons, hp]
theorem firstIn_no {p : Nat → Bool} {n k : Nat} (h : k < n) (hp : p k = false) : firstIn p n k = firstIn p n (k + 1) := by
  have : n - k = (n - (k + 1)) + 1 := by omega
  rw [firstIn, this, List.range'_succ, List.find?_cons, hp]; rfl
theorem firstIn_end {p : Nat → Bool} {n : Nat} : firstIn p n n = -1 := by simp [firstIn]
theorem firstIn_any {T : Type} (p : T → Bool) (l : List T) (d : T) : decide (0 ≤ firstIn (fun k => p (l.getD k d)) l.length 0) = l.any p := by
  have key : ∀ m k, m + k = l.length → decide (0 ≤ firstIn (fun k => p (l.getD k d)) l.length k) = (l.drop k).any p := by
    intro m
    induction m with
    | zero => intro k h; obtain rfl : k = l.length := by omega
              simp [firstIn_end]
    | succ m ih =>
      intro k h
      have hk : k < l.length := by omega
      rw [List.drop_eq_getElem_cons hk, List.any_cons]
      have hg : l.getD k d = l[k] := by simp [List.getD, hk]
      cases hp : p l[k]
      · rw [firstIn_no hk (by simp only [hg, hp]), ih (k + 1) (by omega)]; simp
      · rw [firstIn_yes hk (by simp only [hg, hp])]; simp
  simpa using key l.length 0 (by omega)

set_option maxHeartbeats 800000 in
theorem IndexFunc_Int (v : Value) (g : Nat) (cap : Array Value) (w : World) (F : Nat → Prop) (l : List Int) (p : Int → Bool) (hn : l.length ≤ 9223372036854775807)
    (hg : ∀ args w, (callFunc g args).run Tryz.prog w = .ok (.enter g args) w) (hl : NumsAt w F v l) (hF : ∀ k, F k → k < w.heap.size)
    (hf : ∀ r ∈ l, ∀ wr, Below w.heap.size w wr → Calls Tryz.prog g (#[.int .i64 r] ++ cap) wr fun e w' => e = .returned (.bool (p r)) ∧ Below wr.heap.size wr w') :
    Calls Tryz.prog 91 #[v, .func (.func g) #[] cap] w fun e w' => e = .returned (.int .i64 (firstIn (fun k => p (l.getD k 0)) l.length 0)) ∧ Below w.heap.size w w' := by
  obtain ⟨A, c, rfl, _⟩ := rows_form hl
  generalize hpp : (fun k => p (l.getD k 0)) = q
  have HPP := Lib.hid hpp; clear hpp
  have H := Lib.hid hf; clear hf
  have HL := Lib.hid hl; clear hl
  have HF := Lib.hid hF; clear hF
  generalize hnl : l.length = n at *
  have HNL := Lib.hid hnl; clear hnl
  go_enter Tryz.func91, Tryz.ntmps91
  go_wp2
  go_loopw [5, 8] (fun _ i wr => ∃ k : Nat, k ≤ n ∧ i = .int .i64 k ∧ Below w.heap.size w wr ∧ firstIn q n 0 = firstIn q n k) (fun _ i _ => n - (intOf i).toNat)
  case atStart => exact ⟨0, by omega, rfl, Below.refl _ _, rfl⟩
  case round =>
    obtain ⟨k, hk, rfl, hbl, hfi⟩ := hrel
    have HFI := Lib.hid hfi; clear hfi
    by_cases hlt : k < n
    · obtain ⟨r, hr⟩ : ∃ r, l[k]? = some r := ⟨_, List.getElem?_eq_getElem (by have := HNL.out; omega)⟩
      obtain ⟨b, off, rfl, hFb, h0⟩ := HL.out.at_ hr
      have g0 := (hbl.cell (p := ⟨b, off + k, none⟩) (HF.out b hFb)).trans h0
      clear h0
      have Hk := Lib.hid (H.out r (List.mem_of_getElem? hr) wr hbl)
      have hq : q k = p r := by rw [← HPP.out]; simp [List.getD, hr]
      clear hr H
      cases hp : p r
      · rw [hp] at Hk hq
        have HFN := Lib.hid ((HFI.out).trans (firstIn_no hlt hq)); clear hp HFI hq
        go_wp2_with ((with_reducible refine (Hk.out).mono ?_); rintro e w1 ⟨rfl, hb1⟩)
        go_roundw
        case rel => exact ⟨k + 1, by omega, by go_num, hbl.trans (hb1.mono hbl.size), HFN.out⟩
        case measure => simp [intOf]; omega
      · rw [hp] at Hk hq
        have HFN := Lib.hid ((HFI.out).trans (firstIn_yes hlt hq)); clear hp HFI hq
        go_wp2_with ((with_reducible refine (Hk.out).mono ?_); rintro e w1 ⟨rfl, hb1⟩)
        go_ret
        exact ⟨ret_int HFN.out.symm, hbl.trans (hb1.mono hbl.size)⟩
    · go_wp2
      go_ret
      exact ⟨ret_int (by rw [HFI.out, show k = n from by omega, firstIn_end]), hbl⟩

set_option maxHeartbeats 400000 in
theorem ContainsFunc_Int (v : Value) (g : Nat) (cap : Array Value) (w : World) (F : Nat → Prop) (l : List Int) (p : Int → Bool) (hn : l.length ≤ 9223372036854775807)
    (hg : ∀ args w, (callFunc g args).run Tryz.prog w = .ok (.enter g args) w) (hl : NumsAt w F v l) (hF : ∀ k, F k → k < w.heap.size)
    (hf : ∀ r ∈ l, ∀ wr, Below w.heap.size w wr → Calls Tryz.prog g (#[.int .i64 r] ++ cap) wr fun e w' => e = .returned (.bool (p r)) ∧ Below wr.heap.size wr w') :
    Calls Tryz.prog 64 #[v, .func (.func g) #[] cap] w fun e w' => e = .returned (.bool (l.any p)) ∧ Below w.heap.size w w' := by
  have HI := Lib.hid (IndexFunc_Int v g cap w F l p hn hg hl hF hf)
  have HA := Lib.hid (firstIn_any p l 0)
  obtain ⟨A, c, rfl, _⟩ := rows_form hl
  clear hf hl hF hg
  go_enter Tryz.func64, Tryz.ntmps64
  go_wp2_with ((with_reducible refine (HI.out).mono ?_); rintro e w1 ⟨rfl, hb1⟩)
  go_ret
  exact ⟨ret_bool HA.out, hb1⟩
set_option maxHeartbeats 800000 in
theorem IndexFunc_Fct (v : Value) (g : Nat) (cap : Array Value) (w : World) (F : Nat → Prop) (l : List Fct) (p : Fct → Bool) (hn : l.length ≤ 9223372036854775807)
    (hg : ∀ args w, (callFunc g args).run Tryz.prog w = .ok (.enter g args) w) (hl : FactsAt w F v l) (hF : ∀ k, F k → k < w.heap.size)
    (hf : ∀ r ∈ l, ∀ wr, Below w.heap.size w wr → Calls Tryz.prog g (#[.agg #[.int .i64 r.kind, .int .i64 r.a, .int .i64 r.b]] ++ cap) wr fun e w' => e = .returned (.bool (p r)) ∧ Below wr.heap.size wr w') :
    Calls Tryz.prog 67 #[v, .func (.func g) #[] cap] w fun e w' => e = .returned (.int .i64 (firstIn (fun k => p (l.getD k ⟨0, 0, 0⟩)) l.length 0)) ∧ Below w.heap.size w w' := by
  obtain ⟨A, c, rfl, _⟩ := rows_form hl
  generalize hpp : (fun k => p (l.getD k ⟨0, 0, 0⟩)) = q
  have HPP := Lib.hid hpp; clear hpp
  have H := Lib.hid hf; clear hf
  have HL := Lib.hid hl; clear hl
  have HF := Lib.hid hF; clear hF
  generalize hnl : l.length = n at *
  have HNL := Lib.hid hnl; clear hnl
  go_enter Tryz.func67, Tryz.ntmps67
  go_wp2
  go_loopw [5, 8] (fun _ i wr => ∃ k : Nat, k ≤ n ∧ i = .int .i64 k ∧ Below w.heap.size w wr ∧ firstIn q n 0 = firstIn q n k) (fun _ i _ => n - (intOf i).toNat)
  case atStart => exact ⟨0, by omega, rfl, Below.refl _ _, rfl⟩
  case round =>
    obtain ⟨k, hk, rfl, hbl, hfi⟩ := hrel
    have HFI := Lib.hid hfi; clear hfi
    by_cases hlt : k < n
    · obtain ⟨r, hr⟩ : ∃ r, l[k]? = some r := ⟨_, List.getElem?_eq_getElem (by have := HNL.out; omega)⟩
      obtain ⟨b, off, rfl, hFb, h0, h1, h2⟩ := HL.out.at_ hr
      have g0 := (hbl.cell (p := ⟨b, off + k * 3, none⟩) (HF.out b hFb)).trans h0
      have g1 := (hbl.cell (p := ⟨b, off + k * 3 + 1, none⟩) (HF.out b hFb)).trans h1
      have g2 := (hbl.cell (p := ⟨b, off + k * 3 + 2, none⟩) (HF.out b hFb)).trans h2
      clear h0 h1 h2
      have Hk := Lib.hid (H.out r (List.mem_of_getElem? hr) wr hbl)
      have hq : q k = p r := by rw [← HPP.out]; simp [List.getD, hr]
      clear hr H
      cases hp : p r
      · rw [hp] at Hk hq
        have HFN := Lib.hid ((HFI.out).trans (firstIn_no hlt hq)); clear hp HFI hq
        go_wp2_with ((with_reducible refine (Hk.out).mono ?_); rintro e w1 ⟨rfl, hb1⟩)
        go_roundw
        case rel => exact ⟨k + 1, by omega, by go_num, hbl.trans (hb1.mono hbl.size), HFN.out⟩
        case measure => simp [intOf]; omega
      · rw [hp] at Hk hq
        have HFN := Lib.hid ((HFI.out).trans (firstIn_yes hlt hq)); clear hp HFI hq
        go_wp2_with ((with_reducible refine (Hk.out).mono ?_); rintro e w1 ⟨rfl, hb1⟩)
        go_ret
        exact ⟨ret_int HFN.out.symm, hbl.trans (hb1.mono hbl.size)⟩
    · go_wp2
      go_ret
      exact ⟨ret_int (by rw [HFI.out, show k = n from by omega, firstIn_end]), hbl⟩

set_option maxHeartbeats 400000 in
theorem ContainsFunc_Fct (v : Value) (g : Nat) (cap : Array Value) (w : World) (F : Nat → Prop) (l : List Fct) (p : Fct → Bool) (hn : l.length ≤ 9223372036854775807)
    (hg : ∀ args w, (callFunc g args).run Tryz.prog w = .ok (.enter g args) w) (hl : FactsAt w F v l) (hF : ∀ k, F k → k < w.heap.size)
    (hf : ∀ r ∈ l, ∀ wr, Below w.heap.size w wr → Calls Tryz.prog g (#[.agg #[.int .i64 r.kind, .int .i64 r.a, .int .i64 r.b]] ++ cap) wr fun e w' => e = .returned (.bool (p r)) ∧ Below wr.heap.size wr w') :
    Calls Tryz.prog 38 #[v, .func (.func g) #[] cap] w fun e w' => e = .returned (.bool (l.any p)) ∧ Below w.heap.size w w' := by
  have HI := Lib.hid (IndexFunc_Fct v g cap w F l p hn hg hl hF hf)
  have HA := Lib.hid (firstIn_any p l ⟨0, 0, 0⟩)
  obtain ⟨A, c, rfl, _⟩ := rows_form hl
  clear hf hl hF hg
  go_enter Tryz.func38, Tryz.ntmps38
  go_wp2_with ((with_reducible refine (HI.out).mono ?_); rintro e w1 ⟨rfl, hb1⟩)
  go_ret
  exact ⟨ret_bool HA.out, hb1⟩

end Go.Proofs.YtjbabpnepjhllaaGreat
