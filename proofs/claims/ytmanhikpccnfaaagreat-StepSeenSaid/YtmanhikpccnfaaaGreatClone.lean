/- slices.Clone, of bytes and of regions. -/
import Derived.Maps.AppendAt
import Derived.Test.YtmanhikpccnfaaaGreatWordsA
namespace Go.Proofs.YtmanhikpccnfaaaGreat
open Go.RowKit

theorem infoU8 : (Tryz.prog.info? 5).map (fun i => (i.zero, i.size, i.bytes)) = some (some (.int .u8 0), 1, 1) := by kernel_rfl
theorem infoReg : (Tryz.prog.info? 38).map (fun i => (i.zero, i.size, i.bytes)) = some (some (.agg #[.int .u64 0, .slice none 0 0, .bool false]), 3, 40) := by kernel_rfl

/-- A new block of no cells is a row of no elements of the call's own. -/
theorem own_zero (w : World) (e sz : Nat) : (w.alloc (.cells #[] e)).ownsRow w.heap.size e sz (.slice (some ⟨w.heap.size, 0, none⟩) 0 0) 0 [] :=
  ⟨by simp, .inr ⟨w.heap.size, 0, #[], rfl, Nat.le_refl _, heap_alloc_new w _, Nat.le_refl _, by decide, by simp, by simp⟩⟩

set_option maxHeartbeats 400000 in
theorem CloneB_nil (c : Nat) (w : World) :
    Calls Tryz.prog 56 #[.slice none 0 c] w fun e w' => e = .returned (.slice none 0 0) ∧ Below w.heap.size w w' := by
  go_enter Tryz.func56, Tryz.ntmps56
  have h0 := fun (w : World) => Lib.run_eql_slice_nil (P := Tryz.prog) w 36 5 none 0 c 0 0 Tryz.underlying36
  go_wp2
  go_ret
  exact ⟨rfl, Below.refl _ _⟩

set_option maxHeartbeats 400000 in
theorem CloneB_some (ad : Addr) (n c : Nat) (w : World) (news : List Value) (hl : news.length = n * 1) (hc : ∀ (j : Nat) (u : Value), news[j]? = some u → w.cell? (ad.add j) = some u) (h1 : ∀ u ∈ news, u.oneCell' = true) (hn : n ≤ 140737488351232) :
    Calls Tryz.prog 56 #[.slice (some ad) n c] w fun e w' => ∃ v, e = .returned v ∧ w'.ownsRow w.heap.size 5 1 v n news ∧ Below w.heap.size w w' := by
  obtain ⟨i0, hi, hz0, hz1, hz2⟩ := info_parts infoU8
  have h0 := fun (w : World) => Lib.run_eql_slice_nil (P := Tryz.prog) w 36 5 (some ad) n c 0 0 Tryz.underlying36
  have hc2 : ∀ (j : Nat) (u : Value), news[j]? = some u → (w.alloc (.cells #[] 5)).cell? (ad.add j) = some u := fun j u hu => by
    have := hc j u hu
    rw [World.cell?_alloc_lt _ _ _ (World.block_lt_of_cell? w _ this)]; exact this
  have HC := Lib.hid hc2
  have HL := Lib.hid hl
  have H1 := Lib.hid h1
  clear hc hc2 hl h1
  go_enter Tryz.func56, Tryz.ntmps56
  go_wp2_with ((at_builtin; refine wpList_append_own_at _ rfl _ _ 36 rfl w.heap.size 5 i0 (.int .u8 0) 1 1 Tryz.underlying36 hi hz0 hz1 hz2 rfl (by decide) _ 0 [] rfl (own_zero w _ _) ad n c news rfl HL.out HC.out H1.out (by unfold maxLen; omega) (by omega) (by simp) ?_); intro v w1 hown hg _ _)
  go_ret
  exact ⟨v, rfl, by simpa using hown, ((Below.refl _ _).alloc (Nat.le_refl _) _).grown hg (by simp) (fun k hk => Nat.le_of_eq (Option.some.inj hk))⟩

theorem CloneB_rows (v : Value) (w : World) (F : Nat → Prop) (rows : List (List Value)) (hr : Rows w F 1 v rows) (h1 : ∀ u ∈ rows.flatten, u.oneCell' = true) (hn : rows.length ≤ 3518437208000) :
    Calls Tryz.prog 56 #[v] w fun e w' => ∃ v, e = .returned v ∧ w'.ownsRow w.heap.size 5 1 v rows.length rows.flatten ∧ Below w.heap.size w w' := by
  have hr' := hr
  obtain ⟨A, c, rfl, hc, hl, hne⟩ := hr'
  cases A with
  | none =>
    have h0 : rows = [] := by
      rcases rows with _ | ⟨r, rs⟩
      · rfl
      · obtain ⟨b, off, hA, _⟩ := hne (by simp); cases hA
    subst h0
    refine (CloneB_nil c w).mono ?_
    rintro e w' ⟨rfl, hb⟩
    exact ⟨_, rfl, ⟨by simp, .inl ⟨rfl, rfl⟩⟩, hb⟩
  | some ad =>
    obtain ⟨hfl, hfc⟩ := hr.flat (by decide)
    exact CloneB_some ad rows.length c w rows.flatten hfl hfc h1 (by omega)

set_option maxHeartbeats 400000 in
theorem CloneR_nil (c : Nat) (w : World) :
    Calls Tryz.prog 55 #[.slice none 0 c] w fun e w' => e = .returned (.slice none 0 0) ∧ Below w.heap.size w w' := by
  go_enter Tryz.func55, Tryz.ntmps55
  have h0 := fun (w : World) => Lib.run_eql_slice_nil (P := Tryz.prog) w 30 38 none 0 c 0 0 Tryz.underlying30
  go_wp2
  go_ret
  exact ⟨rfl, Below.refl _ _⟩

set_option maxHeartbeats 400000 in
theorem CloneR_some (ad : Addr) (n c : Nat) (w : World) (news : List Value) (hl : news.length = n * 3) (hc : ∀ (j : Nat) (u : Value), news[j]? = some u → w.cell? (ad.add j) = some u) (h1 : ∀ u ∈ news, u.oneCell' = true) (hn : n ≤ 3518437208000) :
    Calls Tryz.prog 55 #[.slice (some ad) n c] w fun e w' => ∃ v, e = .returned v ∧ w'.ownsRow w.heap.size 38 3 v n news ∧ Below w.heap.size w w' := by
  obtain ⟨i0, hi, hz0, hz1, hz2⟩ := info_parts infoReg
  have h0 := fun (w : World) => Lib.run_eql_slice_nil (P := Tryz.prog) w 30 38 (some ad) n c 0 0 Tryz.underlying30
  have hc2 : ∀ (j : Nat) (u : Value), news[j]? = some u → (w.alloc (.cells #[] 38)).cell? (ad.add j) = some u := fun j u hu => by
    have := hc j u hu
    rw [World.cell?_alloc_lt _ _ _ (World.block_lt_of_cell? w _ this)]; exact this
  have HC := Lib.hid hc2
  have HL := Lib.hid hl
  have H1 := Lib.hid h1
  clear hc hc2 hl h1
  go_enter Tryz.func55, Tryz.ntmps55
  go_wp2_with ((at_builtin; refine wpList_append_own_at _ rfl _ _ 30 rfl w.heap.size 38 i0 (.agg #[.int .u64 0, .slice none 0 0, .bool false]) 3 40 Tryz.underlying30 hi hz0 hz1 hz2 rfl (by decide) _ 0 [] rfl (own_zero w _ _) ad n c news rfl HL.out HC.out H1.out (by unfold maxLen; omega) (by omega) (by simp) ?_); intro v w1 hown hg _ _)
  go_ret
  exact ⟨v, rfl, by simpa using hown, ((Below.refl _ _).alloc (Nat.le_refl _) _).grown hg (by simp) (fun k hk => Nat.le_of_eq (Option.some.inj hk))⟩

theorem CloneR_rows (v : Value) (w : World) (F : Nat → Prop) (rows : List (List Value)) (hr : Rows w F 3 v rows) (h1 : ∀ u ∈ rows.flatten, u.oneCell' = true) (hn : rows.length ≤ 3518437208000) :
    Calls Tryz.prog 55 #[v] w fun e w' => ∃ v, e = .returned v ∧ w'.ownsRow w.heap.size 38 3 v rows.length rows.flatten ∧ Below w.heap.size w w' := by
  have hr' := hr
  obtain ⟨A, c, rfl, hc, hl, hne⟩ := hr'
  cases A with
  | none =>
    have h0 : rows = [] := by
      rcases rows with _ | ⟨r, rs⟩
      · rfl
      · obtain ⟨b, off, hA, _⟩ := hne (by simp); cases hA
    subst h0
    refine (CloneR_nil c w).mono ?_
    rintro e w' ⟨rfl, hb⟩
    exact ⟨_, rfl, ⟨by simp, .inl ⟨rfl, rfl⟩⟩, hb⟩
  | some ad =>
    obtain ⟨hfl, hfc⟩ := hr.flat (by decide)
    exact CloneR_some ad rows.length c w rows.flatten hfl hfc h1 (by omega)

end Go.Proofs.YtmanhikpccnfaaaGreat
