/- slices.SortedFunc, sorted: the facts of a set, in order. -/
import Derived.Test.YtjbabpnepjhllaaGreatSortF
namespace Go.Proofs.YtjbabpnepjhllaaGreat
open Go.RowKit Go.Sort

theorem ownsRow_base {W : World} {base base' : Nat} {e : TypeId} {size : Nat} {v : Value} {k : Nat} {xs : List Value} (h : W.ownsRow base e size v k xs) (hb : base' ≤ base) : W.ownsRow base' e size v k xs := by
  refine ⟨h.1, ?_⟩
  rcases h.2 with hn | ⟨g, cap, cur, hv, hbg, rest⟩
  · exact .inl hn
  · exact .inr ⟨g, cap, cur, hv, Nat.le_trans hb hbg, rest⟩
/-- What SortedFunc gives of whatever iterator. -/
def SortedSays (base : Nat) (l : List Fct) (w : World) (e : Ending) (w' : World) : Prop := ∃ v, e = .returned v ∧ w'.ownsRow base 45 3 v l.length (cellsOfF l) ∧ Below w.heap.size w w'
set_option maxHeartbeats 1000000 in
theorem sortedFunc_any (g : Nat) (lb : Array Value) (eg : ∀ args w, (callFunc g args).run Tryz.prog w = .ok (.enter g args) w) (l : List Fct) (hl : OrdF l) (N : Nat) (hN : N ≤ 100000) (w : World)
    (hseq : ∀ n, 1 ≤ n → SeqGives Fence.wide n Tryz.prog g lb factV (AllOf l) N w) (hlN : l.length ≤ 100000) :
    Calls Tryz.prog 80 #[.func (.func g) #[] lb, .func (.func 82) #[] #[]] w (SortedSays w.heap.size l w) := by
  have HC := Lib.hid (callsIn_wide.1 (collect_in Fence.wide 4 trivial trivial rfl (by omega) g lb trivial eg (AllOf l) N (by unfold maxLen; omega) (by omega) w (hseq _ (by omega))))
  have HS := Lib.hid fun (v : Value) (ss : List Fct) (w : World) (b : Nat) h hn => sortFunc_any (base := b) (v := v) (l := ss) w h hn
  have HL := Lib.hid hl
  have HN := Lib.hid hlN
  clear hl hlN hseq hN
  go_enter Tryz.func80, Tryz.ntmps80
  go_wp2_with (first
    | ((with_reducible refine (HC.out).mono ?_); rintro e w1 ⟨v, ss, rfl, hS, hrow, hnil, hb⟩
       have hlen : ss.length = l.length := allOf_len HL.out hS
       have HV := Lib.hid hrow
       have HB := Lib.hid hb
       have HA := Lib.hid hS
       have HE := Lib.hid hlen
       obtain ⟨A, c, rfl⟩ := own_form hrow
       clear hrow hb hS hlen hnil)
    | ((with_reducible refine (HS.out _ _ _ _ HV.out (by have := HN.out; have := HE.out; omega)).mono ?_); rintro e w2 ⟨rfl, l', hp, hw, hrow2, hch⟩
       obtain rfl := sorted_is HL.out HA.out hp hw
       have HR := Lib.hid hrow2
       have HD := Lib.hid hch
       have HQ := Lib.hid hp
       clear hrow2 hch hp hw))
  go_ret
  exact ⟨_, rfl, HR.out, HB.out.trans (HD.out.below (fun k hk hF => by have := (own_lt HV.out k hF).2; omega) HB.out.size)⟩
set_option maxHeartbeats 1000000 in
/-- sorted: the facts of a set, in order. -/
theorem sorted_any {b n : Nat} {l : List Fct} (w : World) (h : SetAt w b n l) (hl : OrdF l) (hn : n ≤ 100000) : Calls Tryz.prog 52 #[.map (some b)] w (SortedSays w.heap.size l w) := by
  obtain ⟨D, hown, hD⟩ := h
  have hlen : l.length ≤ n := by
    have h1 := hown.size_le
    obtain ⟨es, rfl⟩ := hD.is_
    have h2 : (l.map keyL).length ≤ (es.map (·.1)).length := List.Nodup.length_le_of_subset ?_ ?_
    · simp only [List.length_map] at h2
      rw [Go.Maps.size_eq] at h1
      omega
    · refine List.pairwise_map.2 ((hl.imp_of_mem fun {x y} hx hy h e => ?_))
      have := keyL_inj (hD.ok x hx) (hD.ok y hy) e
      subst this
      rw [ltF_irr] at h; cases h
    · intro k hk
      obtain ⟨f, hf, rfl⟩ := List.mem_map.1 hk
      have := (hD.has f (hD.ok f hf)).2 hf
      rw [Go.Maps.has_eq, List.any_eq_true] at this
      obtain ⟨p, hp, hs⟩ := this
      exact List.mem_map.2 ⟨p, hp, WideAt.sameKey_eq hs⟩
  have eg : ∀ args w, (callFunc 116 args).run Tryz.prog w = .ok (.enter 116 args) w := enters_of Tryz.func116 (by kernel_rfl) rfl
  have HK := Lib.hid (callsIn_wide.1 (keys_in Fence.wide 1 trivial rfl (some b) w))
  obtain ⟨W, hW⟩ : ∃ W, W = w.alloc (.cells #[.map (some b)] 85) := ⟨_, rfl⟩
  have hb : Below w.heap.size w W := by rw [hW]; exact (Below.refl _ _).alloc (Nat.le_refl _) _
  have hz : W.heap.size = w.heap.size + 1 := by rw [hW]; simp
  have hc : W.cell? ⟨w.heap.size, 0, none⟩ = some (.map (some b)) := by rw [hW, World.cell?_alloc_at _ _ _ _ rfl]; rfl
  have hown' : W.ownsMap Tryz.prog 45 (unitElem (H := Unit)) b n D := by
    have hbl := hown.lt
    obtain ⟨es, clock, h1, Ft, hs, hD⟩ := hown
    exact ⟨es, clock, (hb.block b hbl).trans h1, Ft, hs, hD⟩
  have HS := Lib.hid (sortedFunc_any 116 #[.pointer (some ⟨w.heap.size, 0, none⟩)] eg l hl (Go.Maps.size D) (by have := hown.size_le; omega) W (fun m hm => keys_gives Fence.wide m trivial rfl hm w.heap.size b n D l hD W (by omega) hc hown') (by omega))
  have HB := Lib.hid hb
  rw [← hW] at HK
  clear hW hb hz hc hown' hown hD hl hlen eg hn
  go_enter Tryz.func52, Tryz.ntmps52
  go_wp2_with (first
    | ((with_reducible refine (HK.out).mono ?_); rintro e w1 ⟨rfl, rfl⟩)
    | ((with_reducible refine (HS.out).mono ?_); rintro e w2 ⟨v, rfl, hr, hb2⟩
       obtain ⟨A, c, rfl⟩ := own_form hr
       have HR := Lib.hid hr
       have HB2 := Lib.hid hb2
       clear hr hb2))
  go_ret
  exact ⟨_, rfl, ownsRow_base HR.out HB.out.size, HB.out.trans (HB2.out.mono HB.out.size)⟩
end Go.Proofs.YtjbabpnepjhllaaGreat
