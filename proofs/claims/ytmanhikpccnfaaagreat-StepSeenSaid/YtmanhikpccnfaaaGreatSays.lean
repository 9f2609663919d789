/- What a store says. -/
import Derived.Test.YtmanhikpccnfaaaGreatMem
namespace Go.Proofs.YtmanhikpccnfaaaGreat
open Go.RowKit

def StoreSays (rs : List Reg) (at_ v : Nat) (g : Int) (rs2 : List Reg) : Prop := (storeF rs at_ v = none ∧ g = 11 ∧ rs2 = rs) ∨ (storeF rs at_ v = some rs2 ∧ g = 0)
theorem StoreSays.same {rs rs2 rs3 : List Reg} {at_ v : Nat} {g g' : Int} (h : StoreSays rs at_ v g rs2) (h' : StoreSays rs at_ v g' rs3) : g' = g ∧ rs3 = rs2 := by
  rcases h with ⟨a, b, c⟩ | ⟨a, b⟩ <;> rcases h' with ⟨a', b', c'⟩ | ⟨a', b'⟩
  · exact ⟨by rw [b, b'], by rw [c, c']⟩
  · rw [a] at a'; cases a'
  · rw [a] at a'; cases a'
  · rw [a] at a'; cases a'; exact ⟨by rw [b, b'], rfl⟩
theorem Store_says (p : Value) (w : World) (F : Nat → Prop) (rs : List Reg) (at_ v : Nat) (hat : at_ < 18446744073709551616) (hv : v < 18446744073709551616) (hm : MemAt w F p rs) (hF : ∀ k, F k → k < w.heap.size) :
    Calls Tryz.prog 107 #[p, .int .u64 at_, .int .u64 v] w fun e w' => ∃ g rs2, e = .returned (.int .i64 g) ∧ StoreSays rs at_ v g rs2 ∧ MemAt w' F p rs2 ∧ Chg F w w' := by
  refine (Store_any p w F rs at_ v hat hv hm hF).mono ?_
  rintro e w' (⟨h0, rfl, hb⟩ | ⟨rs', h0, rfl, hm', hc⟩)
  · exact ⟨11, rs, rfl, .inl ⟨h0, rfl, rfl⟩, hm.keep (SameOn.of_below hb hF), .of_below hb⟩
  · exact ⟨0, rs', rfl, .inr ⟨h0, rfl⟩, hm', hc⟩
theorem RegsAt.next {w w' : World} {v : Value} {rs : List Reg} (h : RegsAt w (fun k => k < w.heap.size) v rs) (hb : Below w.heap.size w w') : RegsAt w' (fun k => k < w'.heap.size) v rs :=
  (h.below hb fun _ hk => hk).mono fun _ hk => Nat.lt_of_lt_of_le hk hb.size

/-- What Load hands over. -/
def loadVE : Option Nat → Nat × Int
  | none => (0, 11)
  | some v => (v, 0)
theorem loadOut_eq (o : Option Nat) : loadOut o = .tuple #[.int .u64 ((loadVE o).1 : Nat), .int .i64 (loadVE o).2] := by cases o <;> rfl
theorem loadF_lt {rs : List Reg} {at_ : Nat} : (loadVE (loadF rs at_)).1 < 18446744073709551616 := by
  unfold loadF loadVE
  cases placeF rs at_ 8 with
  | none => simp
  | some ik =>
    obtain ⟨i, k⟩ := ik
    cases hr : rs[i]? with
    | none => simp [hr]
    | some r =>
      simp only [hr]
      have := wordOf_lt ((r.bytes.drop k).take 8)
      have h2 : (2 : Nat) ^ (8 * ((r.bytes.drop k).take 8).length) ≤ 2 ^ 64 := Nat.pow_le_pow_right (by decide) (by simp; omega)
      exact Nat.lt_of_lt_of_le this h2
end Go.Proofs.YtmanhikpccnfaaaGreat
