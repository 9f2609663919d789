/- keysmithref04: place. -/
import Derived.Test.YtcciaihghhleoaaRefCheck
import Derived.Test.YtcciaihghhleoaaRefOwn
import Derived.Test.YtcciaihghhleoaaMem
namespace Go.Proofs.Ytcciaihghhleoaa
open Go.RowKit

/-- The reference's memory: as MemAt. -/
def RMemAt (w : World) (F : Nat → Prop) (p : Value) (rs : List Reg) : Prop :=
  ∃ bm v, p = .pointer (some ⟨bm, 0, none⟩) ∧ F bm ∧ w.heap[bm]? = some (.cells #[v] 56 (0, 0)) ∧ RegsOwn w F v rs ∧ Good rs

theorem RMemAt.keep {w w' : World} {F : Nat → Prop} {p : Value} {rs : List Reg} (h : RMemAt w F p rs) (hk : SameOn F w w') : RMemAt w' F p rs := by
  obtain ⟨bm, v, h1, h2, h3, h4, h5⟩ := h
  exact ⟨bm, v, h1, h2, (hk bm h2).trans h3, h4.keep hk, h5⟩

/-- A region's bytes are turned. -/
theorem RMemAt.put {w w' : World} {F : Nat → Prop} {p : Value} {rs : List Reg} {i bb n c : Nat} {r : Reg} {b : List UInt8} (h : RMemAt w F p rs) (he : EntryAt w p i bb n c) (hr : rs[i]? = some r) (hch : Chg (· = bb) w w')
    (hrow : RowsBlk w' bb 5 1 (byteRows b)) (hb : b.length = r.bytes.length) : RMemAt w' F p (rs.set i { r with bytes := b }) := by
  obtain ⟨bm, v, hp, hFbm, hblk, ⟨A, c', P, hv, hlc, hfst, hent, hnd, hblk2⟩, hgood⟩ := h
  obtain ⟨bm', g', m, c2, hp', hc1, hc2⟩ := he
  have hne : rs ≠ [] := fun e => by rw [e] at hr; cases hr
  obtain ⟨g, hA, hFg, hrows⟩ := hblk2 hne
  subst hp
  cases hp'
  have hcm : w.cell? ⟨bm, 0, none⟩ = some v := by simp [World.cell?, hblk]
  rw [hcm, hv, hA] at hc1
  cases hc1
  have hri := hr
  rw [← hfst, List.getElem?_map] at hri
  cases hpk : P[i]? with
  | none => rw [hpk] at hri; cases hri
  | some x =>
    rw [hpk] at hri
    cases hri
    have hx := hent x (List.mem_of_getElem? hpk)
    have hrowi : (P.map fun x => entRow x.2)[i]? = some (entRow x.2) := by rw [List.getElem?_map, hpk]; rfl
    have hc3 := hrows.cell hrowi (j := 1) (by rfl)
    rw [hc3] at hc2
    have had : x.2.ad = some ⟨bb, 0, none⟩ := by injection hc2 with h1; injection h1
    obtain ⟨bb', hb1, hb2, hb3⟩ := hx.blk
    rw [had] at hb1
    cases hb1
    obtain ⟨hil, hpi⟩ := List.getElem?_eq_some_iff.1 hpk
    have hgl := hrows.lt
    have hbml := lt_of_block hblk
    have hgb : g' ≠ bb := hrows.ne hb3 (by decide)
    have hbb : bm ≠ bb := by
      rintro rfl
      obtain ⟨cur, h1, _⟩ := hb3
      rw [hblk] at h1
      injection h1 with h1
      injection h1 with _ h2
      exact absurd h2 (by decide)
    have hsnd : (P.set i ({ x.1 with bytes := b }, x.2)).map (·.2) = P.map (·.2) := by
      rw [List.map_set]
      refine List.ext_getElem? fun q => ?_
      by_cases hq : i = q
      · subst hq
        rw [List.getElem?_set_self (by simpa using hil), List.getElem?_map, hpk]; rfl
      · rw [List.getElem?_set_ne hq]
    have h2 : ∀ {β : Type} (f : Ent → β), (P.set i ({ x.1 with bytes := b }, x.2)).map (fun x => f x.2) = P.map fun x => f x.2 := fun f => by
      have := congrArg (List.map f) hsnd
      simpa [List.map_map, Function.comp_def] using this
    refine ⟨bm, v, rfl, hFbm, (hch.block bm hbml hbb).trans hblk, ⟨A, c', P.set i ({ x.1 with bytes := b }, x.2), by rw [hv]; simp, by simpa using hlc, ?_, ?_, ?_, ?_⟩, hgood.set hr hb⟩
    · rw [List.map_set, hfst]
    · intro y hy
      obtain ⟨q, hq⟩ := List.mem_iff_getElem?.1 hy
      by_cases hqi : i = q
      · subst hqi
        rw [List.getElem?_set_self hil] at hq
        cases hq
        exact ⟨hx.key, by rw [hx.n]; exact hb.symm, hx.wr, hx.cap, bb, had, hb2, hrow⟩
      · rw [List.getElem?_set_ne hqi] at hq
        have hy' := hent y (List.mem_of_getElem? hq)
        obtain ⟨by_, a1, a2, a3⟩ := hy'.blk
        have hne2 : by_ ≠ bb := by
          rintro rfl
          obtain ⟨hql, hpq⟩ := List.getElem?_eq_some_iff.1 hq
          have h3 := List.pairwise_iff_getElem.1 hnd
          rcases Nat.lt_or_gt_of_ne hqi with hlt | hlt
          · exact h3 i q (by simpa using hil) (by simpa using hql) hlt (by simp only [List.getElem_map]; rw [hpi, hpq, had, a1])
          · exact h3 q i (by simpa using hql) (by simpa using hil) hlt (by simp only [List.getElem_map]; rw [hpi, hpq, had, a1])
        exact ⟨hy'.key, hy'.n, hy'.wr, hy'.cap, by_, a1, a2, a3.keep (hch.block by_ a3.lt hne2)⟩
    · rw [h2 (·.ad)]; exact hnd
    · intro _
      refine ⟨g', hA, hFg, ?_⟩
      rw [h2 entRow]
      exact hrows.keep (hch.block g' hgl hgb)

theorem rmem_new {w : World} {s : Nat} {v : Value} {rs : List Reg} (h : RegsOwn w (seg s w.heap.size) v rs) (hg : Good rs) (hs : s ≤ w.heap.size) :
    RMemAt (w.alloc (.cells #[v] 56)) (seg s (w.alloc (.cells #[v] 56)).heap.size) (.pointer (some ⟨w.heap.size, 0, none⟩)) rs := by
  have hz : (w.alloc (.cells #[v] 56)).heap.size = w.heap.size + 1 := by simp
  refine ⟨w.heap.size, v, rfl, ⟨hs, by omega⟩, heap_alloc_new w _, ?_, hg⟩
  refine (h.keep (fun k hk => Below.heap_alloc w _ k hk.2)).mono (fun k hk => ⟨hk.1, by have := hk.2; omega⟩)


def fits (r : Reg) (at_ n : Nat) : Prop := r.base ≤ at_ ∧ at_ - r.base < r.bytes.length ∧ n ≤ r.bytes.length - (at_ - r.base)

theorem place_hit {rs : List Reg} (hg : Good rs) {i at_ n : Nat} {r : Reg} (hr : rs[i]? = some r) (hf : fits r at_ n) : placeF rs at_ n = some (i, at_ - r.base) := by
  obtain ⟨h1, h2, h3⟩ := hf
  have hi := (List.getElem?_eq_some_iff.1 hr).1
  have hl := hg.last r (List.mem_of_getElem? hr)
  have he : findI rs at_ = i := findI_eq (by omega) (fun k q hk hq => by
    obtain ⟨hk', rfl⟩ := List.getElem?_eq_some_iff.1 hq
    obtain ⟨hi', rfl⟩ := List.getElem?_eq_some_iff.1 hr
    have h4 := List.pairwise_iff_getElem.1 hg.gap k i hk' hi' hk
    have h5 := hg.last _ (List.getElem_mem hk')
    have h6 := hg.pos _ (List.getElem_mem hk')
    omega) (fun q hq => by rw [hr] at hq; cases hq; omega)
  simp only [placeF, he, hr]
  rw [if_neg (by omega), if_neg (by omega)]

theorem place_none {rs : List Reg} (hg : Good rs) {at_ n : Nat} (h : ∀ (i : Nat) (r : Reg), rs[i]? = some r → ¬ fits r at_ n) : placeF rs at_ n = none := by
  unfold placeF
  split
  · rfl
  · rename_i r hr
    have h1 := findI_le hr
    have h2 := hg.last r (List.mem_of_getElem? hr)
    have h3 := hg.pos r (List.mem_of_getElem? hr)
    have h4 := h _ r hr
    unfold fits at h4
    split
    · rfl
    · split
      · rfl
      · omega

def placeOut : Option (Nat × Nat) → Value
  | none => .tuple #[.int .i64 (-1), .int .i64 0]
  | some (i, k) => .tuple #[.int .i64 i, .int .i64 k]

set_option maxRecDepth 100000 in
set_option maxHeartbeats 1600000 in
theorem place_any (p : Value) (w : World) (F : Nat → Prop) (rs : List Reg) (at_ n : Nat) (hn : n ≤ 9223372036854775807) (hat : at_ < 18446744073709551616) (hm : RMemAt w F p rs) :
    Calls Try.prog 36 #[p, .int .u64 at_, .int .i64 n] w fun e w' => e = .returned (placeOut (placeF rs at_ n)) ∧ Below w.heap.size w w' := by
  obtain ⟨bm, v, rfl, hbm, hblk, hown, hgood⟩ := hm
  obtain ⟨A, c, rfl, hlc⟩ := (hown.at_ hgood.base).form
  have hcell : w.cell? ⟨bm, 0, none⟩ = some (.slice A rs.length c) := by simp [World.cell?, hblk]
  have hbl := lt_of_block hblk
  have HOWN := Lib.hid hown
  have HG := Lib.hid hgood
  have h8 := hgood.len
  clear hown hgood hblk hbm
  generalize hrl : rs.length = nr at *
  have HRL := Lib.hid hrl
  clear hrl
  go_enter Try.func36, Try.ntmps36
  go_wp2
  go_loopg [8] nr (fun gg i wr => ∃ k : Nat, k ≤ nr ∧ gg = nr - k ∧ i = .int .i64 k ∧ Below w.heap.size w wr ∧ ∀ (j : Nat) (r : Reg), j < k → rs[j]? = some r → ¬ fits r at_ n)
  case atStart => exact ⟨0, by omega, rfl, rfl, Below.refl _ _, fun j r hj => absurd hj (by omega)⟩
  case round =>
    obtain ⟨k, hk, hgg, rfl, hbl1, hno⟩ := hrel
    have hg1 := Nat.le_of_eq hgg
    have hg2 := Nat.le_of_eq hgg.symm
    have HNO := Lib.hid hno
    have hcell1 := (hbl1.cell (p := ⟨bm, 0, none⟩) hbl).trans hcell
    have HBL := Lib.hid hbl1
    clear hno hgg hcell
    by_cases hlt : k < nr
    · obtain ⟨r, hr⟩ : ∃ r, rs[k]? = some r := ⟨_, List.getElem?_eq_getElem (by have := HRL.out; omega)⟩
      obtain ⟨g, bb, cc, rfl, hFg, hFb, hgl, hbbl, c0, c1, c2, hcap, hrow⟩ := HOWN.out.ent hr
      replace c0 := (hbl1.cell (p := ⟨g, k * 3, none⟩) hgl).trans c0
      replace c1 := (hbl1.cell (p := ⟨g, k * 3 + 1, none⟩) hgl).trans c1
      have hgl1 := Nat.lt_of_lt_of_le hgl hbl1.size
      have hbm1 := Nat.lt_of_lt_of_le hbl hbl1.size
      have hend := HG.out.end_ r (List.mem_of_getElem? hr)
      have hbig := (HG.out.bytes r (List.mem_of_getElem? hr)).2
      have i0 : (0 : Int) ≤ (k : Int) := by omega
      have i1 : (k : Int) < (nr : Int) := by omega
      have wn : IntKind.u64.wrap (n : Int) = (n : Int) := by rw [wrapU]; omega
      have wl : IntKind.u64.wrap (r.bytes.length : Int) = (r.bytes.length : Int) := by rw [wrapU]; omega
      have HR := Lib.hid hr
      clear hr hrow hFb c2 hbl1 hFg
      have next : ∀ (h : ¬ fits r at_ n) (j : Nat) (q : Reg), j < k + 1 → rs[j]? = some q → ¬ fits q at_ n := fun h j q hj hq => by
        rcases Nat.lt_or_ge j k with h1 | h1
        · exact HNO.out j q h1 hq
        · obtain rfl : j = k := by omega
          have h2 := HR.out
          rw [h2] at hq
          cases hq
          exact h
      have NEXT := Lib.hid next
      clear next
      by_cases hlo : at_ < r.base
      · have hd : decide (r.base ≤ at_) = false := by simpa using hlo
        have NX := Lib.hid (NEXT.out (by unfold fits; omega))
        clear hlo hend NEXT
        go_wp2
        go_roundg (nr - (k + 1))
        case measure => omega
        case rel => exact ⟨k + 1, by omega, rfl, by go_num, HBL.out, NX.out⟩
      · have hd : decide (r.base ≤ at_) = true := by simpa using hlo
        obtain ⟨d, hdd⟩ : ∃ d, at_ = r.base + d := ⟨at_ - r.base, by omega⟩
        have hsub : (at_ : Int) - (r.base : Int) = (d : Int) := by omega
        have wd : IntKind.u64.wrap (d : Int) = (d : Int) := by rw [wrapU]; omega
        have HDD := Lib.hid hdd
        clear hlo hend hdd
        by_cases hin : d < r.bytes.length
        · have hd2 : decide (d < r.bytes.length) = true := by simpa using hin
          obtain ⟨s, hss⟩ : ∃ s, r.bytes.length = d + s := ⟨r.bytes.length - d, by omega⟩
          have hsub2 : (r.bytes.length : Int) - (d : Int) = (s : Int) := by omega
          have ws : IntKind.u64.wrap (s : Int) = (s : Int) := by rw [wrapU]; omega
          have HSS := Lib.hid hss
          have HIN := Lib.hid hin
          clear hss hin
          by_cases hns : n ≤ s
          · have hd3 : decide (n ≤ s) = true := by simpa using hns
            have HP := Lib.hid (place_hit HG.out HR.out (at_ := at_) (n := n) (by have := HDD.out; have := HSS.out; have := HIN.out; unfold fits; omega))
            have wdi : IntKind.i64.wrap (d : Int) = (d : Int) := IntWalk.i64_in _ (by have := HSS.out; omega)
            clear hns NEXT
            go_wp2
            (refine wp_region_lines (Below wr.heap.size wr) (by kernel_rfl) (by kernel_rfl) (Below.refl _ _).drew ?_)
            have hS := (Below.refl wr.heap.size wr).drew
            (try simp only [])
            repeat (first | (refine runL_no (by rfl) ?_; (try simp only [Act.put, List.setIfInBounds_toArray, List.set_cons_zero, List.set_cons_succ])) | (refine runL_val (v := ?_) (by rfl) ?_ ?_; rotate_left; (focus (intro w_ hw_; have hc_ := bcell hw_; go_simp; (try with_reducible rfl); done)); (try simp only [Act.put, List.setIfInBounds_toArray, List.set_cons_zero, List.set_cons_succ])))
            (refine runL_nil ?_)
            go_wp2
            go_ret2
            exact ⟨by rw [HP.out]; have := HDD.out; rw [show at_ - r.base = d by omega]; rfl, HBL.out.trans (hS.mono HBL.out.size)⟩
          · have hd3 : decide (n ≤ s) = false := by simpa using hns
            have NX := Lib.hid (NEXT.out (by have := HDD.out; have := HSS.out; unfold fits; omega))
            clear hns NEXT
            go_wp2
            go_roundg (nr - (k + 1))
            case measure => omega
            case rel => exact ⟨k + 1, by omega, rfl, by go_num, HBL.out, NX.out⟩
        · have hd2 : decide (d < r.bytes.length) = false := by simpa using hin
          have NX := Lib.hid (NEXT.out (by have := HDD.out; unfold fits; omega))
          clear hin NEXT
          go_wp2
          go_roundg (nr - (k + 1))
          case measure => omega
          case rel => exact ⟨k + 1, by omega, rfl, by go_num, HBL.out, NX.out⟩
    · obtain rfl : nr = k := by omega
      have HP := Lib.hid (place_none HG.out (at_ := at_) (n := n) (fun i r hr => HNO.out i r (by have := (List.getElem?_eq_some_iff.1 hr).1; have := HRL.out; omega) hr))
      go_wp2
      go_ret2
      exact ⟨by rw [HP.out]; rfl, HBL.out⟩
end Go.Proofs.Ytcciaihghhleoaa
