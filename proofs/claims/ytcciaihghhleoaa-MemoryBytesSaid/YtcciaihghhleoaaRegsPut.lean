/- A region's bytes are turned in place, among regions of one's own. -/
import Derived.Test.YtcciaihghhleoaaStore
namespace Go.Proofs.Ytcciaihghhleoaa
open Go.RowKit

theorem RegsOwn.put {w w' : World} {F : Nat → Prop} {A : Option Addr} {n c i bb g cc m : Nat} {l : List Reg} {r : Reg} {b : List UInt8} (h : RegsOwn w F (.slice A n c) l) (hr : l[i]? = some r) (hA2 : A = some ⟨g, 0, none⟩)
    (hc2 : w.cell? ⟨g, i * 3 + 1, none⟩ = some (.slice (some ⟨bb, 0, none⟩) m cc)) (hch : Chg (· = bb) w w') (hrow : RowsBlk w' bb 5 1 (byteRows b)) (hb : b.length = r.bytes.length) : RegsOwn w' F (.slice A n c) (l.set i { r with bytes := b }) := by
  obtain ⟨A', c', P, hv, hlc, hfst, hent, hnd, hblk2⟩ := h
  cases hv
  have hne : l ≠ [] := fun e => by rw [e] at hr; cases hr
  obtain ⟨g', hA, hFg, hrows⟩ := hblk2 hne
  rw [hA] at hA2
  cases hA2
  have hri := hr
  rw [← hfst, List.getElem?_map] at hri
  cases hpk : P[i]? with
  | none => rw [hpk] at hri; cases hri
  | some x =>
    rw [hpk] at hri
    cases hri
    have hx := hent x (List.mem_of_getElem? hpk)
    have hrowi : (P.map fun x => entRow x.2)[i]? = some (entRow x.2) := by rw [List.getElem?_map, hpk]; rfl
    have hc3 := hrows.cell hrowi (j := 1) (by rfl)
    rw [hc3] at hc2
    have had : x.2.ad = some ⟨bb, 0, none⟩ := by injection hc2 with h1; injection h1
    obtain ⟨bb', hb1, hb2, hb3⟩ := hx.blk
    rw [had] at hb1
    cases hb1
    obtain ⟨hil, hpi⟩ := List.getElem?_eq_some_iff.1 hpk
    have hgl := hrows.lt
    have hgb : g ≠ bb := hrows.ne hb3 (by decide)
    have hsnd : (P.set i ({ x.1 with bytes := b }, x.2)).map (·.2) = P.map (·.2) := by
      rw [List.map_set]
      refine List.ext_getElem? fun q => ?_
      by_cases hq : i = q
      · subst hq
        rw [List.getElem?_set_self (by simpa using hil), List.getElem?_map, hpk]; rfl
      · rw [List.getElem?_set_ne hq]
    have h2 : ∀ {β : Type} (f : Ent → β), (P.set i ({ x.1 with bytes := b }, x.2)).map (fun x => f x.2) = P.map fun x => f x.2 := fun f => by
      have := congrArg (List.map f) hsnd
      simpa [List.map_map, Function.comp_def] using this
    refine ⟨some ⟨g, 0, none⟩, c, P.set i ({ x.1 with bytes := b }, x.2), by rw [hA]; simp, by simpa using hlc, ?_, ?_, ?_, ?_⟩
    · rw [List.map_set, hfst]
    · intro y hy
      obtain ⟨q, hq⟩ := List.mem_iff_getElem?.1 hy
      by_cases hqi : i = q
      · subst hqi
        rw [List.getElem?_set_self hil] at hq
        cases hq
        exact ⟨hx.key, by rw [hx.n]; exact hb.symm, hx.wr, hx.cap, bb, had, hb2, hrow⟩
      · rw [List.getElem?_set_ne hqi] at hq
        have hy' := hent y (List.mem_of_getElem? hq)
        obtain ⟨by_, a1, a2, a3⟩ := hy'.blk
        have hne2 : by_ ≠ bb := by
          rintro rfl
          obtain ⟨hql, hpq⟩ := List.getElem?_eq_some_iff.1 hq
          have h3 := List.pairwise_iff_getElem.1 hnd
          rcases Nat.lt_or_gt_of_ne hqi with hlt | hlt
          · exact h3 i q (by simpa using hil) (by simpa using hql) hlt (by simp only [List.getElem_map]; rw [hpi, hpq, had, a1])
          · exact h3 q i (by simpa using hql) (by simpa using hil) hlt (by simp only [List.getElem_map]; rw [hpi, hpq, had, a1])
        exact ⟨hy'.key, hy'.n, hy'.wr, hy'.cap, by_, a1, a2, a3.keep (hch.block by_ a3.lt hne2)⟩
    · rw [h2 (·.ad)]; exact hnd
    · intro _
      refine ⟨g, rfl, hFg, ?_⟩
      rw [h2 entRow]
      exact hrows.keep (hch.block g hgl hgb)

/-- One byte is stored. -/
theorem RegsOwn.put1 {w : World} {F : Nat → Prop} {A : Option Addr} {n c i bb g cc m q : Nat} {l : List Reg} {r : Reg} (h : RegsOwn w F (.slice A n c) l) (hr : l[i]? = some r) (hA2 : A = some ⟨g, 0, none⟩)
    (hc2 : w.cell? ⟨g, i * 3 + 1, none⟩ = some (.slice (some ⟨bb, 0, none⟩) m cc)) (hrow : RowsBlk w bb 5 1 (byteRows r.bytes)) (hq : q < r.bytes.length) (x : UInt8) :
    RegsOwn (w.setCell ⟨bb, q, none⟩ (byteV x)) F (.slice A n c) (l.set i { r with bytes := r.bytes.set q x }) := by
  obtain ⟨y, hy⟩ := byteRows_at hq
  refine h.put hr hA2 hc2 (Chg.setCell (Chg.refl (· = bb) w) (p := ⟨bb, q, none⟩) (.inl rfl) _) ?_ (by simp)
  have := hrow.set_ hy (j := 0) (by decide) (byteV x)
  rw [byteRows_set]
  simpa using this
end Go.Proofs.Ytcciaihghhleoaa
