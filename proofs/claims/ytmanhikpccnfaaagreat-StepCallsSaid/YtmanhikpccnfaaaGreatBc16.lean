/- keysmithref04: place. -/
import Derived.Test.YtmanhikpccnfaaaGreatBc15
import Derived.Test.YtmanhikpccnfaaaGreatBc4
import Derived.Test.YtmanhikpccnfaaaGreatBc14
import Derived.Test.YtmanhikpccnfaaaGreatBc10
import Derived.Deep.DeepCutAuto
import Derived.Test.YtmanhikpccnfaaaGreatBc12
import Derived.Test.YtmanhikpccnfaaaGreatBc13
namespace Go.Proofs.YtmanhikpccnfaaaGreat
open Go.RowKit

/-- The reference's memory: as MemAt. -/
def RMemAt (w : World) (F : Nat → Prop) (p : Value) (rs : List Reg) : Prop :=
  ∃ bm v, p = .pointer (some ⟨bm, 0, none⟩) ∧ F bm ∧ w.heap[bm]? = some (.cells #[v] 64 (0, 0)) ∧ RegsOwn w F v rs ∧ Good rs

theorem RMemAt.keep {w w' : World} {F : Nat → Prop} {p : Value} {rs : List Reg} (h : RMemAt w F p rs) (hk : SameOn F w w') : RMemAt w' F p rs := by
  obtain ⟨bm, v, h1, h2, h3, h4, h5⟩ := h
  exact ⟨bm, v, h1, h2, (hk bm h2).trans h3, h4.keep hk, h5⟩

/-- A region's bytes are turned. -/
theorem RMemAt.put {w w' : World} {F : Nat → Prop} {p : Value} {rs : List Reg} {i bb n c : Nat} {r : Reg} {b : List UInt8} (h : RMemAt w F p rs) (he : EntryAt w p i bb n c) (hr : rs[i]? = some r) (hch : Chg (· = bb) w w')
    (hrow : RowsBlk w' bb 5 1 (byteRows b)) (hb : b.length = r.bytes.length) : RMemAt w' F p (rs.set i { r with bytes := b }) := by
  obtain ⟨bm, v, hp, hFbm, hblk, ⟨A, c', P, hv, hlc, hfst, hent, hnd, hblk2⟩, hgood⟩ := h
  obtain ⟨bm', g', m, c2, hp', hc1, hc2⟩ := he
  have hne : rs ≠ [] := fun e => by rw [e] at hr; cases hr
  obtain ⟨g, hA, hFg, hrows⟩ := hblk2 hne
  subst hp
  cases hp'
  have hcm : w.cell? ⟨bm, 0, none⟩ = some v := by simp [World.cell?, hblk]
  rw [hcm, hv, hA] at hc1
  cases hc1
  have hri := hr
  rw [← hfst, List.getElem?_map] at hri
  cases hpk : P[i]? with
  | none => rw [hpk] at hri; cases hri
  | some x =>
    rw [hpk] at hri
    cases hri
    have hx := hent x (List.mem_of_getElem? hpk)
    have hrowi : (P.map fun x => entRow x.2)[i]? = some (entRow x.2) := by rw [List.getElem?_map, hpk]; rfl
    have hc3 := hrows.cell hrowi (j := 1) (by rfl)
    rw [hc3] at hc2
    have had : x.2.ad = some ⟨bb, 0, none⟩ := by injection hc2 with h1; injection h1
    obtain ⟨bb', hb1, hb2, hb3⟩ := hx.blk
    rw [had] at hb1
    cases hb1
    obtain ⟨hil, hpi⟩ := List.getElem?_eq_some_iff.1 hpk
    have hgl := hrows.lt
    have hbml := lt_of_block hblk
    have hgb : g' ≠ bb := hrows.ne hb3 (by decide)
    have hbb : bm ≠ bb := by
      rintro rfl
      obtain ⟨cur, h1, _⟩ := hb3
      rw [hblk] at h1
      injection h1 with h1
      injection h1 with _ h2
      exact absurd h2 (by decide)
    have hsnd : (P.set i ({ x.1 with bytes := b }, x.2)).map (·.2) = P.map (·.2) := by
      rw [List.map_set]
      refine List.ext_getElem? fun q => ?_
      by_cases hq : i = q
      · subst hq
        rw [List.getElem?_set_self (by simpa using hil), List.getElem?_map, hpk]; rfl
      · rw [List.getElem?_set_ne hq]
    have h2 : ∀ {β : Type} (f : Ent → β), (P.set i ({ x.1 with bytes := b }, x.2)).map (fun x => f x.2) = P.map fun x => f x.2 := fun f => by
      have := congrArg (List.map f) hsnd
      simpa [List.map_map, Function.comp_def] using this
    refine ⟨bm, v, rfl, hFbm, (hch.block bm hbml hbb).trans hblk, ⟨A, c', P.set i ({ x.1 with bytes := b }, x.2), by rw [hv]; simp, by simpa using hlc, ?_, ?_, ?_, ?_⟩, hgood.set hr hb⟩
    · rw [List.map_set, hfst]
    · intro y hy
      obtain ⟨q, hq⟩ := List.mem_iff_getElem?.1 hy
      by_cases hqi : i = q
      · subst hqi
        rw [List.getElem?_set_self hil] at hq
        cases hq
        exact ⟨hx.key, by rw [hx.n]; exact hb.symm, hx.wr, hx.cap, bb, had, hb2, hrow⟩
      · rw [List.getElem?_set_ne hqi] at hq
        have hy' := hent y (List.mem_of_getElem? hq)
        obtain ⟨by_, a1, a2, a3⟩ := hy'.blk
        have hne2 : by_ ≠ bb := by
          rintro rfl
          obtain ⟨hql, hpq⟩ := List.getElem?_eq_some_iff.1 hq
          have h3 := List.pairwise_iff_getElem.1 hnd
          rcases Nat.lt_or_gt_of_ne hqi with hlt | hlt
          · exact h3 i q (by simpa using hil) (by simpa using hql) hlt (by simp only [List.getElem_map]; rw [hpi, hpq, had, a1])
          · exact h3 q i (by simpa using hql) (by simpa using hil) hlt (by simp only [List.getElem_map]; rw [hpi, hpq, had, a1])
        exact ⟨hy'.key, hy'.n, hy'.wr, hy'.cap, by_, a1, a2, a3.keep (hch.block by_ a3.lt hne2)⟩
    · rw [h2 (·.ad)]; exact hnd
    · intro _
      refine ⟨g', hA, hFg, ?_⟩
      rw [h2 entRow]
      exact hrows.keep (hch.block g' hgl hgb)

theorem rmem_new {w : World} {s : Nat} {v : Value} {rs : List Reg} (h : RegsOwn w (seg s w.heap.size) v rs) (hg : Good rs) (hs : s ≤ w.heap.size) :
    RMemAt (w.alloc (.cells #[v] 64)) (seg s (w.alloc (.cells #[v] 64)).heap.size) (.pointer (some ⟨w.heap.size, 0, none⟩)) rs := by
  have hz : (w.alloc (.cells #[v] 64)).heap.size = w.heap.size + 1 := by simp
  refine ⟨w.heap.size, v, rfl, ⟨hs, by omega⟩, heap_alloc_new w _, ?_, hg⟩
  refine (h.keep (fun k hk => Below.heap_alloc w _ k hk.2)).mono (fun k hk => ⟨hk.1, by have := hk.2; omega⟩)


def fits (r : Reg) (at_ n : Nat) : Prop := r.base ≤ at_ ∧ at_ - r.base < r.bytes.length ∧ n ≤ r.bytes.length - (at_ - r.base)

theorem place_hit {rs : List Reg} (hg : Good rs) {i at_ n : Nat} {r : Reg} (hr : rs[i]? = some r) (hf : fits r at_ n) : placeF rs at_ n = some (i, at_ - r.base) := by
  obtain ⟨h1, h2, h3⟩ := hf
  have hi := (List.getElem?_eq_some_iff.1 hr).1
  have hl := hg.last r (List.mem_of_getElem? hr)
  have he : findI rs at_ = i := findI_eq (by omega) (fun k q hk hq => by
    obtain ⟨hk', rfl⟩ := List.getElem?_eq_some_iff.1 hq
    obtain ⟨hi', rfl⟩ := List.getElem?_eq_some_iff.1 hr
    have h4 := List.pairwise_iff_getElem.1 hg.gap k i hk' hi' hk
    have h5 := hg.last _ (List.getElem_mem hk')
    have h6 := hg.pos _ (List.getElem_mem hk')
    omega) (fun q hq => by rw [hr] at hq; cases hq; omega)
  simp only [placeF, he, hr]
  rw [if_neg (by omega), if_neg (by omega)]

theorem place_none {rs : List Reg} (hg : Good rs) {at_ n : Nat} (h : ∀ (i : Nat) (r : Reg), rs[i]? = some r → ¬ fits r at_ n) : placeF rs at_ n = none := by
  unfold placeF
  split
  · rfl
  · rename_i r hr
    have h1 := findI_le hr
    have h2 := hg.last r (List.mem_of_getElem? hr)
    have h3 := hg.pos r (List.mem_of_getElem? hr)
    have h4 := h _ r hr
    unfold fits at h4
    split
    · rfl
    · split
      · rfl
      · omega

def placeOut : Option (Nat × Nat) → Value
  | none => .tuple #[.int .i64 (-1), .int .i64 0]
  | some (i, k) => .tuple #[.int .i64 i, .int .i64 k]

set_option maxRecDepth 100000 in
set_option maxHeartbeats 1600000 in
theorem place_any (p : Value) (w : World) (F : Nat → Prop) (rs : List Reg) (at_ n : Nat) (hn : n ≤ 9223372036854775807) (hat : at_ < 18446744073709551616) (hm : RMemAt w F p rs) :
    Calls Tryz.prog 76 #[p, .int .u64 at_, .int .i64 n] w fun e w' => e = .returned (placeOut (placeF rs at_ n)) ∧ Below w.heap.size w w' := by
  obtain ⟨bm, v, rfl, hbm, hblk, hown, hgood⟩ := hm
  obtain ⟨A, c, rfl, hlc⟩ := (hown.at_ hgood.base).form
  have hcell : w.cell? ⟨bm, 0, none⟩ = some (.slice A rs.length c) := by simp [World.cell?, hblk]
  have hbl := lt_of_block hblk
  have HOWN := Lib.hid hown
  have HG := Lib.hid hgood
  have h8 := hgood.len
  clear hown hgood hblk hbm
  generalize hrl : rs.length = nr at *
  have HRL := Lib.hid hrl
  clear hrl
  go_enter Tryz.func76, Tryz.ntmps76
  go_wp2
  go_loopg [8] nr (fun gg i wr => ∃ k : Nat, k ≤ nr ∧ gg = nr - k ∧ i = .int .i64 k ∧ Below w.heap.size w wr ∧ ∀ (j : Nat) (r : Reg), j < k → rs[j]? = some r → ¬ fits r at_ n)
  case atStart => exact ⟨0, by omega, rfl, rfl, Below.refl _ _, fun j r hj => absurd hj (by omega)⟩
  case round =>
    obtain ⟨k, hk, hgg, rfl, hbl1, hno⟩ := hrel
    have hg1 := Nat.le_of_eq hgg
    have hg2 := Nat.le_of_eq hgg.symm
    have HNO := Lib.hid hno
    have hcell1 := (hbl1.cell (p := ⟨bm, 0, none⟩) hbl).trans hcell
    have HBL := Lib.hid hbl1
    clear hno hgg hcell
    by_cases hlt : k < nr
    · obtain ⟨r, hr⟩ : ∃ r, rs[k]? = some r := ⟨_, List.getElem?_eq_getElem (by have := HRL.out; omega)⟩
      obtain ⟨g, bb, cc, rfl, hFg, hFb, hgl, hbbl, c0, c1, c2, hcap, hrow⟩ := HOWN.out.ent hr
      replace c0 := (hbl1.cell (p := ⟨g, k * 3, none⟩) hgl).trans c0
      replace c1 := (hbl1.cell (p := ⟨g, k * 3 + 1, none⟩) hgl).trans c1
      have hgl1 := Nat.lt_of_lt_of_le hgl hbl1.size
      have hbm1 := Nat.lt_of_lt_of_le hbl hbl1.size
      have hend := HG.out.end_ r (List.mem_of_getElem? hr)
      have hbig := (HG.out.bytes r (List.mem_of_getElem? hr)).2
      have i0 : (0 : Int) ≤ (k : Int) := by omega
      have i1 : (k : Int) < (nr : Int) := by omega
      have wn : IntKind.u64.wrap (n : Int) = (n : Int) := by rw [wrapU]; omega
      have wl : IntKind.u64.wrap (r.bytes.length : Int) = (r.bytes.length : Int) := by rw [wrapU]; omega
      have HR := Lib.hid hr
      clear hr hrow hFb c2 hbl1 hFg
      have next : ∀ (h : ¬ fits r at_ n) (j : Nat) (q : Reg), j < k + 1 → rs[j]? = some q → ¬ fits q at_ n := fun h j q hj hq => by
        rcases Nat.lt_or_ge j k with h1 | h1
        · exact HNO.out j q h1 hq
        · obtain rfl : j = k := by omega
          have h2 := HR.out
          rw [h2] at hq
          cases hq
          exact h
      have NEXT := Lib.hid next
      clear next
      by_cases hlo : at_ < r.base
      · have hd : decide (r.base ≤ at_) = false := by simpa using hlo
        have NX := Lib.hid (NEXT.out (by unfold fits; omega))
        clear hlo hend NEXT
        go_wp2
        go_roundg (nr - (k + 1))
        case measure => omega
        case rel => exact ⟨k + 1, by omega, rfl, by go_num, HBL.out, NX.out⟩
      · have hd : decide (r.base ≤ at_) = true := by simpa using hlo
        obtain ⟨d, hdd⟩ : ∃ d, at_ = r.base + d := ⟨at_ - r.base, by omega⟩
        have hsub : (at_ : Int) - (r.base : Int) = (d : Int) := by omega
        have wd : IntKind.u64.wrap (d : Int) = (d : Int) := by rw [wrapU]; omega
        have HDD := Lib.hid hdd
        clear hlo hend hdd
        by_cases hin : d < r.bytes.length
        · have hd2 : decide (d < r.bytes.length) = true := by simpa using hin
          obtain ⟨s, hss⟩ : ∃ s, r.bytes.length = d + s := ⟨r.bytes.length - d, by omega⟩
          have hsub2 : (r.bytes.length : Int) - (d : Int) = (s : Int) := by omega
          have ws : IntKind.u64.wrap (s : Int) = (s : Int) := by rw [wrapU]; omega
          have HSS := Lib.hid hss
          have HIN := Lib.hid hin
          clear hss hin
          by_cases hns : n ≤ s
          · have hd3 : decide (n ≤ s) = true := by simpa using hns
            have HP := Lib.hid (place_hit HG.out HR.out (at_ := at_) (n := n) (by have := HDD.out; have := HSS.out; have := HIN.out; unfold fits; omega))
            have wdi : IntKind.i64.wrap (d : Int) = (d : Int) := IntWalk.i64_in _ (by have := HSS.out; omega)
            clear hns NEXT
            go_wp2
            (refine wp_region_lines (Below wr.heap.size wr) (by kernel_rfl) (by kernel_rfl) (Below.refl _ _).drew ?_)
            have hS := (Below.refl wr.heap.size wr).drew
            (try simp only [])
            repeat (first | (refine runL_no (by rfl) ?_; (try simp only [Act.put, List.setIfInBounds_toArray, List.set_cons_zero, List.set_cons_succ])) | (refine runL_val (v := ?_) (by rfl) ?_ ?_; rotate_left; (focus (intro w_ hw_; have hc_ := bcell hw_; go_simp; (try with_reducible rfl); done)); (try simp only [Act.put, List.setIfInBounds_toArray, List.set_cons_zero, List.set_cons_succ])))
            (refine runL_nil ?_)
            go_wp2
            go_ret2
            exact ⟨by rw [HP.out]; have := HDD.out; rw [show at_ - r.base = d by omega]; rfl, HBL.out.trans (hS.mono HBL.out.size)⟩
          · have hd3 : decide (n ≤ s) = false := by simpa using hns
            have NX := Lib.hid (NEXT.out (by have := HDD.out; have := HSS.out; unfold fits; omega))
            clear hns NEXT
            go_wp2
            go_roundg (nr - (k + 1))
            case measure => omega
            case rel => exact ⟨k + 1, by omega, rfl, by go_num, HBL.out, NX.out⟩
        · have hd2 : decide (d < r.bytes.length) = false := by simpa using hin
          have NX := Lib.hid (NEXT.out (by have := HDD.out; unfold fits; omega))
          clear hin NEXT
          go_wp2
          go_roundg (nr - (k + 1))
          case measure => omega
          case rel => exact ⟨k + 1, by omega, rfl, by go_num, HBL.out, NX.out⟩
    · obtain rfl : nr = k := by omega
      have HP := Lib.hid (place_none HG.out (at_ := at_) (n := n) (fun i r hr => HNO.out i r (by have := (List.getElem?_eq_some_iff.1 hr).1; have := HRL.out; omega) hr))
      go_wp2
      go_ret2
      exact ⟨by rw [HP.out]; rfl, HBL.out⟩
end Go.Proofs.YtmanhikpccnfaaaGreat

/- keysmithref04: New, Load, Store, Bytes: as memory's. -/
namespace Go.Proofs.YtmanhikpccnfaaaGreat
open Go.RowKit

theorem place_inv {rs : List Reg} {at_ n i k : Nat} (h : placeF rs at_ n = some (i, k)) : ∃ r, rs[i]? = some r ∧ n ≤ r.bytes.length - k := by
  unfold placeF at h
  split at h
  · cases h
  · rename_i r hr
    split at h
    · cases h
    · split at h
      · cases h
      · cases h
        exact ⟨r, hr, by omega⟩

/-- What place tells, in place. -/
theorem place_at {p : Value} {w : World} {F : Nat → Prop} {rs : List Reg} {at_ n i k : Nat} (hm : RMemAt w F p rs) (h : placeF rs at_ n = some (i, k)) :
    ∃ bm g bb r m c cc, p = .pointer (some ⟨bm, 0, none⟩) ∧ rs[i]? = some r ∧ i < m ∧ m ≤ 8 ∧ k + n ≤ r.bytes.length ∧ k < r.bytes.length ∧ r.bytes.length ≤ cc ∧ r.bytes.length ≤ 1048576 ∧ F bb ∧ bm ≠ bb ∧ g ≠ bb ∧ bm < w.heap.size ∧ g < w.heap.size ∧ bb < w.heap.size ∧
      w.cell? ⟨bm, 0, none⟩ = some (.slice (some ⟨g, 0, none⟩) m c) ∧ w.cell? ⟨g, i * 3 + 1, none⟩ = some (.slice (some ⟨bb, 0, none⟩) r.bytes.length cc) ∧ w.cell? ⟨g, i * 3 + 2, none⟩ = some (.bool r.write) ∧ RowsBlk w bb 5 1 (byteRows r.bytes) ∧ EntryAt w p i bb r.bytes.length cc := by
  obtain ⟨bm, v, rfl, hbm, hblk, hown, hgood⟩ := hm
  obtain ⟨A, c, rfl, hlc⟩ := (hown.at_ hgood.base).form
  obtain ⟨r, hr, hnk⟩ := place_inv h
  have hcell : w.cell? ⟨bm, 0, none⟩ = some (.slice A rs.length c) := by simp [World.cell?, hblk]
  have hown2 := hown
  obtain ⟨g, bb, cc, rfl, hFg, hFb, hgl, hbbl, c0, c1, c2, hcap, hrow⟩ := hown2.ent hr
  obtain ⟨A', c', P, hv, hlc', hfst, hent, hnd, hblk2⟩ := hown
  cases hv
  obtain ⟨g', hA, hFg', hrows⟩ := hblk2 (fun e => by rw [e] at hr; cases hr)
  cases hA
  have hk : k < r.bytes.length := by
    unfold placeF at h
    split at h
    · cases h
    · rename_i q hq
      have h1 := findI_le hq
      have h2 := hgood.last q (List.mem_of_getElem? hq)
      have h3 := hgood.pos q (List.mem_of_getElem? hq)
      split at h
      · cases h
      · split at h
        · cases h
        · cases h
          rw [hr] at hq
          cases hq
          omega
  refine ⟨bm, g, bb, r, rs.length, c, cc, rfl, hr, (List.getElem?_eq_some_iff.1 hr).1, hgood.len, by omega, hk, hcap, (hgood.bytes r (List.mem_of_getElem? hr)).2, hFb, ?_, hrows.ne hrow (by decide), lt_of_block hblk, hgl, hbbl, hcell, c1, c2, hrow, bm, g, rs.length, c, rfl, hcell, c1⟩
  rintro rfl
  obtain ⟨cur, h1, _⟩ := hrow
  rw [hblk] at h1
  injection h1 with h1
  injection h1 with _ h1
  exact absurd h1 (by decide)

theorem placeNo {p : Value} {w : World} {rs : List Reg} {at_ n : Nat} (h : Calls Tryz.prog 76 #[p, .int .u64 at_, .int .i64 n] w fun e w' => e = .returned (placeOut (placeF rs at_ n)) ∧ Below w.heap.size w w') (hp : placeF rs at_ n = none) :
    Calls Tryz.prog 76 #[p, .int .u64 at_, .int .i64 n] w fun e w' => e = .returned (.tuple #[.int .i64 (-1), .int .i64 0]) ∧ Below w.heap.size w w' := by rw [hp] at h; exact h
theorem placeYes {p : Value} {w : World} {rs : List Reg} {at_ n i k : Nat} (h : Calls Tryz.prog 76 #[p, .int .u64 at_, .int .i64 n] w fun e w' => e = .returned (placeOut (placeF rs at_ n)) ∧ Below w.heap.size w w') (hp : placeF rs at_ n = some (i, k)) :
    Calls Tryz.prog 76 #[p, .int .u64 at_, .int .i64 n] w fun e w' => e = .returned (.tuple #[.int .i64 i, .int .i64 k]) ∧ Below w.heap.size w w' := by rw [hp] at h; exact h

theorem wordOf_drop {L : List UInt8} {j : Nat} {x : UInt8} (h : L[j]? = some x) : wordOf (L.drop j) = x.toNat + 256 * wordOf (L.drop (j + 1)) := by
  obtain ⟨hj, rfl⟩ := List.getElem?_eq_some_iff.1 h
  rw [List.drop_eq_getElem_cons hj]; rfl
theorem or_step2 {V x : Nat} (hV : V < 72057594037927936) (hx : x < 256) : Go.bits .or .u64 ((V : Int) * 256) (IntKind.u64.wrap (x : Int)) = ((x + 256 * V : Nat) : Int) := by
  have e1 : IntKind.u64.wrap (x : Int) = x := by rw [wrapU]; omega
  have e2 : (V : Int) * 256 = ((256 * V : Nat) : Int) := by omega
  rw [e1, e2, bits_or_u64_nat _ _ (by omega) (by omega)]
  have := Nat.two_pow_add_eq_or_of_lt (i := 8) (b := x) (by omega) V
  rw [show (2 : Nat) ^ 8 = 256 from rfl] at this
  rw [← this, Nat.add_comm]
theorem wordOf_drop_lt {L : List UInt8} {q : Nat} (h : L.length = 8) (hq : q ≤ 7) : wordOf (L.drop (8 - q)) < 72057594037927936 := by
  have h1 := wordOf_lt (L.drop (8 - q))
  rw [List.length_drop, h] at h1
  have : (2 : Nat) ^ (8 * (8 - (8 - q))) ≤ 2 ^ 56 := Nat.pow_le_pow_right (by decide) (by omega)
  have h2 : (2 : Nat) ^ 56 = 72057594037927936 := rfl
  omega

set_option maxRecDepth 100000 in
set_option maxHeartbeats 800000 in
theorem RLoad_any (p : Value) (w : World) (F : Nat → Prop) (rs : List Reg) (at_ : Nat) (hat : at_ < 18446744073709551616) (hm : RMemAt w F p rs) :
    Calls Tryz.prog 45 #[p, .int .u64 at_] w fun e w' => e = .returned (loadOut (loadF rs at_)) ∧ Below w.heap.size w w' := by
  have HP := place_any p w F rs at_ 8 (by omega) hat hm
  cases hpl : placeF rs at_ 8 with
  | none =>
    obtain ⟨bm, hp⟩ : ∃ bm, p = .pointer (some ⟨bm, 0, none⟩) := by obtain ⟨bm, v, h, _⟩ := hm; exact ⟨bm, h⟩
    subst hp
    have HC := Lib.hid (placeNo HP hpl)
    have hl : loadF rs at_ = none := by simp only [loadF, hpl]
    have HL := Lib.hid hl
    clear hl hpl hm HP
    go_enter Tryz.func45, Tryz.ntmps45
    go_wp2_with fail
    refine HC.out.mono ?_
    rintro e w1 ⟨rfl, hb1⟩
    go_wp2
    go_ret2
    exact ⟨by rw [HL.out]; rfl, hb1⟩
  | some ik =>
    obtain ⟨i, k⟩ := ik
    have HC := Lib.hid (placeYes HP hpl)
    obtain ⟨bm, g, bb, r, m, c, cc, rfl, hri, him, hm8, hkn, hkl, hcc, hbig, hFb, hbmb, hgb, hbml, hgl, hbbl, c0, c1, c2, hrow, hent⟩ := place_at hm hpl
    have hL8 : ((r.bytes.drop k).take 8).length = 8 := by simp; omega
    have hl : loadF rs at_ = some (wordOf ((r.bytes.drop k).take 8)) := by simp only [loadF, hpl, hri]
    have cells : ∀ (j : Nat) (x : UInt8), ((r.bytes.drop k).take 8)[j]? = some x → w.cell? ⟨bb, k + j, none⟩ = some (byteV x) := fun j x hx => by
      rw [List.getElem?_take] at hx
      split at hx
      · rw [List.getElem?_drop] at hx
        have h1 : (byteRows r.bytes)[k + j]? = some [byteV x] := by rw [byteRows, List.getElem?_map, hx]; rfl
        have h2 := hrow.cell h1 (j := 0) (by rfl)
        simpa using h2
      · cases hx
    generalize (r.bytes.drop k).take 8 = L at *
    have HL := Lib.hid hl
    have HL8 := Lib.hid hL8
    have HCE := Lib.hid cells
    have i0 : (0 : Int) ≤ (i : Int) := by omega
    have i1 : (i : Int) < (m : Int) := by omega
    have i2 : ¬ ((i : Int) < 0) := by omega
    clear hl hL8 cells hpl hm HP hri hrow hent c2 hFb hcc
    go_enter Tryz.func45, Tryz.ntmps45
    go_wp2_with fail
    refine HC.out.mono ?_
    rintro e w1 ⟨rfl, hb1⟩
    have d0 := (hb1.cell (p := ⟨bm, 0, none⟩) hbml).trans c0
    have d1 := (hb1.cell (p := ⟨g, i * 3 + 1, none⟩) hgl).trans c1
    go_wp2
    go_loop [8, 9] (fun v z => ∃ q : Nat, q ≤ 8 ∧ z = .int .i64 (7 - (q : Int)) ∧ v = .int .u64 (wordOf (L.drop (8 - q)) : Nat)) (fun _ z => (intOf z + 1).toNat)
    case atStart => exact ⟨0, by omega, rfl, by rw [List.drop_eq_nil_of_le (by have := HL8.out; omega)]; rfl⟩
    case round =>
      obtain ⟨q, hq, rfl, rfl⟩ := hrel
      by_cases h8 : q = 8
      · subst h8
        go_wp2
        go_ret2
        exact ⟨by rw [HL.out]; simp [loadOut], hb1⟩
      · obtain ⟨j, hj⟩ : ∃ j, q + j = 7 := ⟨7 - q, by omega⟩
        have hzj : (7 : Int) - (q : Int) = (j : Int) := by omega
        obtain ⟨x, hx⟩ : ∃ x, L[j]? = some x := ⟨_, List.getElem?_eq_getElem (by have := HL8.out; omega)⟩
        have hcx := (hb1.cell (p := ⟨bb, k + j, none⟩) hbbl).trans (HCE.out j x hx)
        have hlt := wordOf_drop_lt HL8.out (q := q) (by omega)
        have hor := or_step2 hlt x.toNat_lt
        have hst := wordOf_drop hx
        rw [show j + 1 = 8 - q by omega] at hst
        rw [← hst] at hor
        rw [hzj]
        have HJ := Lib.hid hj
        have j0 : (0 : Int) ≤ (k : Int) + (j : Int) := by omega
        have j1 : (k : Int) + (j : Int) < (r.bytes.length : Int) := by omega
        have j2 : IntKind.i64.wrap ((k : Int) + (j : Int)) = (k : Int) + (j : Int) := IntWalk.i64_in _ (by omega)
        have j3 : ((k : Int) + (j : Int)).toNat = k + j := by omega
        simp only [byteV] at hcx
        generalize hV : wordOf (L.drop (8 - q)) = V at *
        generalize hV2 : wordOf (L.drop j) = V2 at *
        have HV2 := Lib.hid hV2
        clear hst hx hzj hj hV hV2
        go_wp2
        go_round
        case rel => exact ⟨q + 1, by omega, by have := HJ.out; congr 1; omega, by rw [show 8 - (q + 1) = j by have := HJ.out; omega, HV2.out]⟩
        case measure => have := HJ.out; simp [intOf]

set_option maxHeartbeats 800000 in
theorem RNew_any (v : Value) (w : World) (F : Nat → Prop) (l : List Reg) (hn : l.length ≤ 9223372036854775807) (hl : RegsAt w F v l) (hF : ∀ k, F k → k < w.heap.size) :
    Calls Tryz.prog 21 #[v] w fun e w' => Below w.heap.size w w' ∧ ((checkF l ≠ 0 ∧ e = .returned (.tuple #[.pointer none, .int .i64 (checkF l)])) ∨
      (checkF l = 0 ∧ ∃ p, e = .returned (.tuple #[p, .int .i64 0]) ∧ RMemAt w' (seg w.heap.size w'.heap.size) p (sortBy Reg.base l))) := by
  have HC := Lib.hid (RefCheck_any v w F l hn hl hF)
  have hbase : ∀ r ∈ l, r.base < 18446744073709551616 := by
    obtain ⟨P, hP, _, hs⟩ := hl
    intro r hr
    rw [← hP] at hr
    obtain ⟨x, hx, rfl⟩ := List.mem_map.1 hr
    exact (hs x hx).base64
  have HO := fun (h0 : checkF l = 0) (w1 : World) (hb : Below w.heap.size w w1) => RefOwn_any v w1 F l (hl.below hb hF) (fun k hk => by have := hF k hk; have := hb.size; omega)
    (by have := (good_of_check h0 hbase).len; rw [sortBy_length] at this; omega) (fun r hr => (good_of_check h0 hbase).bytes r ((sortBy_perm _ _).mem_iff.2 hr))
  have HG := fun (h0 : checkF l = 0) => good_of_check h0 hbase
  have HO := Lib.hid HO
  have HG := Lib.hid HG
  obtain ⟨A, c, rfl, _⟩ := hl.form
  clear hl hF hbase
  by_cases h0 : checkF l = 0
  · rw [h0] at HC
    have H0 := Lib.hid h0
    clear h0
    go_enter Tryz.func21, Tryz.ntmps21
    go_wp2_with (first | ((with_reducible refine (HC.out).mono ?_); rintro e w1 ⟨rfl, hb1⟩) | ((with_reducible refine (HO.out H0.out _ hb1).mono ?_); rintro e w2 ⟨v1, rfl, hown1, hb2⟩; obtain ⟨A1, c1, P1, rfl, hrest⟩ := hown1; have HO1 := Lib.hid hrest; clear hrest))
    go_ret2
    have hs := hb1.size
    refine ⟨(hb1.trans (hb2.mono hs)).trans ((Below.refl _ _).alloc (Nat.le_trans hs hb2.size) _), .inr ⟨H0.out, _, rfl, ?_⟩⟩
    exact rmem_new (RegsOwn.mono ⟨A1, c1, P1, rfl, HO1.out⟩ (fun k hk => ⟨Nat.le_trans hs hk.1, hk.2⟩)) (HG.out H0.out) (Nat.le_trans hs hb2.size)
  · have hne : (checkF l != 0) = true := by rw [bne_iff_ne]; exact h0
    have H0 := Lib.hid h0
    clear h0
    generalize checkF l = ce at *
    go_enter Tryz.func21, Tryz.ntmps21
    go_wp2_with ((with_reducible refine (HC.out).mono ?_); rintro e w1 ⟨rfl, hb1⟩)
    go_ret2
    exact ⟨hb1, .inl ⟨H0.out, rfl⟩⟩
end Go.Proofs.YtmanhikpccnfaaaGreat

/- keysmithref04: Store: as memory's. -/
namespace Go.Proofs.YtmanhikpccnfaaaGreat
open Go.RowKit

set_option maxRecDepth 100000 in
set_option maxHeartbeats 800000 in
theorem RStore_any (p : Value) (w : World) (F : Nat → Prop) (rs : List Reg) (at_ v : Nat) (hat : at_ < 18446744073709551616) (hv : v < 18446744073709551616) (hm : RMemAt w F p rs) (hF : ∀ k, F k → k < w.heap.size) :
    Calls Tryz.prog 46 #[p, .int .u64 at_, .int .u64 v] w fun e w' =>
      (storeF rs at_ v = none ∧ e = .returned (.int .i64 11) ∧ Below w.heap.size w w') ∨ (∃ rs', storeF rs at_ v = some rs' ∧ e = .returned (.int .i64 0) ∧ RMemAt w' F p rs' ∧ Chg F w w') := by
  have HP := place_any p w F rs at_ 8 (by omega) hat hm
  cases hpl : placeF rs at_ 8 with
  | none =>
    obtain ⟨bm, hp⟩ : ∃ bm, p = .pointer (some ⟨bm, 0, none⟩) := by obtain ⟨bm, v, h, _⟩ := hm; exact ⟨bm, h⟩
    subst hp
    have HC := Lib.hid (placeNo HP hpl)
    have hl : storeF rs at_ v = none := by simp only [storeF, hpl]
    have HL := Lib.hid hl
    clear hl hpl hm HP
    go_enter Tryz.func46, Tryz.ntmps46
    go_wp2_with fail
    refine HC.out.mono ?_
    rintro e w1 ⟨rfl, hb1⟩
    go_wp2
    go_ret
    exact .inl ⟨HL.out, rfl, hb1⟩
  | some ik =>
    obtain ⟨i, k⟩ := ik
    have HC := Lib.hid (placeYes HP hpl)
    have HM := Lib.hid hm
    obtain ⟨bm, g, bb, r, m, c, cc, rfl, hri, him, hm8, hkn, hkl, hcc, hbig, hFb, hbmb, hgb, hbml, hgl, hbbl, c0, c1, c2, hrow, hent⟩ := place_at hm hpl
    have i0 : (0 : Int) ≤ (i : Int) := by omega
    have i1 : (i : Int) < (m : Int) := by omega
    have i2 : ¬ ((i : Int) < 0) := by omega
    have i3 : decide ((i : Int) < 0) = false := by simp
    have HFF := Lib.hid hF
    cases hw : r.write
    · have hl : storeF rs at_ v = none := by simp only [storeF, hpl, hri, hw]; rfl
      have HL := Lib.hid hl
      rw [hw] at c2
      clear hl hpl hm HP hri hrow hent hw hF
      go_enter Tryz.func46, Tryz.ntmps46
      go_wp2_with fail
      refine HC.out.mono ?_
      rintro e w1 ⟨rfl, hb1⟩
      have d0 := (hb1.cell (p := ⟨bm, 0, none⟩) hbml).trans c0
      have d2 := (hb1.cell (p := ⟨g, i * 3 + 2, none⟩) hgl).trans c2
      go_wp2
      go_ret
      exact .inl ⟨HL.out, rfl, hb1⟩
    · have hl : storeF rs at_ v = some (rs.set i { r with bytes := putTo r.bytes k v 8 }) := by simp only [storeF, hpl, hri, hw]; rfl
      have HL := Lib.hid hl
      have HROW := Lib.hid hrow
      have HRI := Lib.hid hri
      rw [hw] at c2
      clear hl hpl hm HP hri hrow hent hw hF
      go_enter Tryz.func46, Tryz.ntmps46
      go_wp2_with fail
      refine HC.out.mono ?_
      rintro e w1 ⟨rfl, hb1⟩
      have d0 := (hb1.cell (p := ⟨bm, 0, none⟩) hbml).trans c0
      have d2 := (hb1.cell (p := ⟨g, i * 3 + 2, none⟩) hgl).trans c2
      have HD1 := Lib.hid ((hb1.cell (p := ⟨g, i * 3 + 1, none⟩) hgl).trans c1)
      have HR1 := Lib.hid (HROW.out.keep (hb1.block bb hbbl))
      have HS1 := Lib.hid hb1.size
      have HE1 : Hid (EntryAt w1 (.pointer (some ⟨bm, 0, none⟩)) i bb r.bytes.length cc) := Lib.hid ⟨bm, g, m, c, rfl, d0, HD1.out⟩
      go_wp2
      go_loopw [9] (fun i wr => ∃ (q : Nat) (z : Int), z = q ∧ q ≤ 8 ∧ i = .int .i64 z ∧ Chg (· = bb) w1 wr ∧ RowsBlk wr bb 5 1 (byteRows (putTo r.bytes k v q))) (fun i _ => 8 - (intOf i).toNat)
      case atStart => exact ⟨0, 0, rfl, by omega, rfl, Chg.refl _ _, HR1.out⟩
      case round =>
        obtain ⟨q, z, hz, hq, rfl, hch, hrw⟩ := hrel
        have HCH := Lib.hid hch
        have HRW := Lib.hid hrw
        have e0 : wr.cell? ⟨bm, 0, none⟩ = some (.slice (some ⟨g, 0, none⟩) m c) := by
          have h1 := hch.block bm (Nat.lt_of_lt_of_le hbml HS1.out) hbmb
          exact (show wr.cell? ⟨bm, 0, none⟩ = w1.cell? ⟨bm, 0, none⟩ by simp [World.cell?, h1]).trans d0
        have e1 : wr.cell? ⟨g, i * 3 + 1, none⟩ = some (.slice (some ⟨bb, 0, none⟩) r.bytes.length cc) := by
          have h1 := hch.block g (Nat.lt_of_lt_of_le hgl HS1.out) hgb
          exact (show wr.cell? ⟨g, i * 3 + 1, none⟩ = w1.cell? ⟨g, i * 3 + 1, none⟩ by simp [World.cell?, h1]).trans HD1.out
        clear hch hrw d0 d2 c0 c1 c2 HC
        rcases (by omega : z = 0 ∨ z = 1 ∨ z = 2 ∨ z = 3 ∨ z = 4 ∨ z = 5 ∨ z = 6 ∨ z = 7 ∨ z = 8) with rfl | rfl | rfl | rfl | rfl | rfl | rfl | rfl | rfl
        · obtain rfl : q = 0 := by omega
          obtain ⟨u, hc⟩ := put_cell HRW.out (q := 0) (by omega)
          have hf := HRW.out.frozen (k + 0)
          have j0 : (0 : Int) ≤ (k : Int) + 0 := by omega
          have j1 : (k : Int) + 0 < (r.bytes.length : Int) := by omega
          have j2 : IntKind.i64.wrap ((k : Int) + 0) = (k : Int) + 0 := IntWalk.i64_in _ (by omega)
          have j3 : ((k : Int) + 0).toNat = k + 0 := by omega
          simp only [Nat.add_zero] at hc hf
          clear hz hq
          go_wp2
          go_roundw
          case rel => exact ⟨1, 1, rfl, by omega, rfl, HCH.out.setCell (.inl rfl) _, put_step HRW.out (q := 0) (by omega) (congrArg (Value.int .u8) (by rw [byteAt_int v 0 1 rfl]; simp))⟩
          case measure => simp [intOf]
        · obtain rfl : q = 1 := by omega
          obtain ⟨u, hc⟩ := put_cell HRW.out (q := 1) (by omega)
          have hf := HRW.out.frozen (k + 1)
          have j0 : (0 : Int) ≤ (k : Int) + 1 := by omega
          have j1 : (k : Int) + 1 < (r.bytes.length : Int) := by omega
          have j2 : IntKind.i64.wrap ((k : Int) + 1) = (k : Int) + 1 := IntWalk.i64_in _ (by omega)
          have j3 : ((k : Int) + 1).toNat = k + 1 := by omega
          clear hz hq
          go_wp2
          go_roundw
          case rel => exact ⟨2, 2, rfl, by omega, rfl, HCH.out.setCell (.inl rfl) _, put_step HRW.out (q := 1) (by omega) (congrArg (Value.int .u8) (by rw [byteAt_int v 1 256 rfl]; simp))⟩
          case measure => simp [intOf]
        · obtain rfl : q = 2 := by omega
          obtain ⟨u, hc⟩ := put_cell HRW.out (q := 2) (by omega)
          have hf := HRW.out.frozen (k + 2)
          have j0 : (0 : Int) ≤ (k : Int) + 2 := by omega
          have j1 : (k : Int) + 2 < (r.bytes.length : Int) := by omega
          have j2 : IntKind.i64.wrap ((k : Int) + 2) = (k : Int) + 2 := IntWalk.i64_in _ (by omega)
          have j3 : ((k : Int) + 2).toNat = k + 2 := by omega
          clear hz hq
          go_wp2
          go_roundw
          case rel => exact ⟨3, 3, rfl, by omega, rfl, HCH.out.setCell (.inl rfl) _, put_step HRW.out (q := 2) (by omega) (congrArg (Value.int .u8) (by rw [byteAt_int v 2 65536 rfl]; simp))⟩
          case measure => simp [intOf]
        · obtain rfl : q = 3 := by omega
          obtain ⟨u, hc⟩ := put_cell HRW.out (q := 3) (by omega)
          have hf := HRW.out.frozen (k + 3)
          have j0 : (0 : Int) ≤ (k : Int) + 3 := by omega
          have j1 : (k : Int) + 3 < (r.bytes.length : Int) := by omega
          have j2 : IntKind.i64.wrap ((k : Int) + 3) = (k : Int) + 3 := IntWalk.i64_in _ (by omega)
          have j3 : ((k : Int) + 3).toNat = k + 3 := by omega
          clear hz hq
          go_wp2
          go_roundw
          case rel => exact ⟨4, 4, rfl, by omega, rfl, HCH.out.setCell (.inl rfl) _, put_step HRW.out (q := 3) (by omega) (congrArg (Value.int .u8) (by rw [byteAt_int v 3 16777216 rfl]; simp))⟩
          case measure => simp [intOf]
        · obtain rfl : q = 4 := by omega
          obtain ⟨u, hc⟩ := put_cell HRW.out (q := 4) (by omega)
          have hf := HRW.out.frozen (k + 4)
          have j0 : (0 : Int) ≤ (k : Int) + 4 := by omega
          have j1 : (k : Int) + 4 < (r.bytes.length : Int) := by omega
          have j2 : IntKind.i64.wrap ((k : Int) + 4) = (k : Int) + 4 := IntWalk.i64_in _ (by omega)
          have j3 : ((k : Int) + 4).toNat = k + 4 := by omega
          clear hz hq
          go_wp2
          go_roundw
          case rel => exact ⟨5, 5, rfl, by omega, rfl, HCH.out.setCell (.inl rfl) _, put_step HRW.out (q := 4) (by omega) (congrArg (Value.int .u8) (by rw [byteAt_int v 4 4294967296 rfl]; simp))⟩
          case measure => simp [intOf]
        · obtain rfl : q = 5 := by omega
          obtain ⟨u, hc⟩ := put_cell HRW.out (q := 5) (by omega)
          have hf := HRW.out.frozen (k + 5)
          have j0 : (0 : Int) ≤ (k : Int) + 5 := by omega
          have j1 : (k : Int) + 5 < (r.bytes.length : Int) := by omega
          have j2 : IntKind.i64.wrap ((k : Int) + 5) = (k : Int) + 5 := IntWalk.i64_in _ (by omega)
          have j3 : ((k : Int) + 5).toNat = k + 5 := by omega
          clear hz hq
          go_wp2
          go_roundw
          case rel => exact ⟨6, 6, rfl, by omega, rfl, HCH.out.setCell (.inl rfl) _, put_step HRW.out (q := 5) (by omega) (congrArg (Value.int .u8) (by rw [byteAt_int v 5 1099511627776 rfl]; simp))⟩
          case measure => simp [intOf]
        · obtain rfl : q = 6 := by omega
          obtain ⟨u, hc⟩ := put_cell HRW.out (q := 6) (by omega)
          have hf := HRW.out.frozen (k + 6)
          have j0 : (0 : Int) ≤ (k : Int) + 6 := by omega
          have j1 : (k : Int) + 6 < (r.bytes.length : Int) := by omega
          have j2 : IntKind.i64.wrap ((k : Int) + 6) = (k : Int) + 6 := IntWalk.i64_in _ (by omega)
          have j3 : ((k : Int) + 6).toNat = k + 6 := by omega
          clear hz hq
          go_wp2
          go_roundw
          case rel => exact ⟨7, 7, rfl, by omega, rfl, HCH.out.setCell (.inl rfl) _, put_step HRW.out (q := 6) (by omega) (congrArg (Value.int .u8) (by rw [byteAt_int v 6 281474976710656 rfl]; simp))⟩
          case measure => simp [intOf]
        · obtain rfl : q = 7 := by omega
          obtain ⟨u, hc⟩ := put_cell HRW.out (q := 7) (by omega)
          have hf := HRW.out.frozen (k + 7)
          have j0 : (0 : Int) ≤ (k : Int) + 7 := by omega
          have j1 : (k : Int) + 7 < (r.bytes.length : Int) := by omega
          have j2 : IntKind.i64.wrap ((k : Int) + 7) = (k : Int) + 7 := IntWalk.i64_in _ (by omega)
          have j3 : ((k : Int) + 7).toNat = k + 7 := by omega
          clear hz hq
          go_wp2
          go_roundw
          case rel => exact ⟨8, 8, rfl, by omega, rfl, HCH.out.setCell (.inl rfl) _, put_step HRW.out (q := 7) (by omega) (congrArg (Value.int .u8) (by rw [byteAt_int v 7 72057594037927936 rfl]; omega))⟩
          case measure => simp [intOf]
        · obtain rfl : q = 8 := by omega
          clear hz hq
          have hmem := (HM.out.keep (SameOn.of_below hb1 HFF.out)).put HE1.out HRI.out HCH.out HRW.out (putTo_length _ _ _ _)
          have hchg : Chg F w wr := (Chg.of_below hb1).trans' HCH.out (fun q _ hq => by rw [hq]; exact hFb)
          have HMEM := Lib.hid hmem
          have HCHG := Lib.hid hchg
          clear hmem hchg
          go_wp2
          go_ret
          exact .inr ⟨_, HL.out, rfl, HMEM.out, HCHG.out⟩
end Go.Proofs.YtmanhikpccnfaaaGreat

/- keysmithref08.Do: its beginning, its words. -/
namespace Go.Proofs.YtmanhikpccnfaaaGreat
open Go.RowKit

theorem Rvalue_is (s : St) (h : StOk s) (op : Int) (d b : Nat) (hd : d < 18446744073709551616) (hb : b < 18446744073709551616) (hr : 1 ≤ op ∧ op ≤ 33) (hsh : op = 24 ∨ op = 25 → 1 ≤ b ∧ b ≤ 63) (p : St × Nat) (hp : valueF s op d b = some p) (w : World) :
    Calls Tryz.prog 44 #[.agg (stRow s).toArray, .int .i64 op, .int .u64 d, .int .u64 b] w (RVal w p) := by
  have hop : op = 1 ∨ op = 2 ∨ op = 6 ∨ op = 7 ∨ op = 8 ∨ op = 9 ∨ op = 10 ∨ op = 11 ∨ op = 12 ∨ op = 13 ∨ op = 14 ∨ op = 15 ∨ op = 16 ∨ op = 17 ∨ op = 18 ∨ op = 20 ∨ op = 21 ∨ op = 22 ∨ op = 23 ∨ op = 24 ∨ op = 25 ∨ op = 26 ∨ op = 27 := by
    by_cases hx : op = 3 ∨ op = 4 ∨ op = 5 ∨ op = 19 ∨ op = 28 ∨ op = 29 ∨ op = 30 ∨ op = 31 ∨ op = 32 ∨ op = 33
    · exfalso
      rcases hx with rfl | rfl | rfl | rfl | rfl | rfl | rfl | rfl | rfl | rfl <;> simp [valueF] at hp
    · omega
  rcases hop with rfl | rfl | rfl | rfl | rfl | rfl | rfl | rfl | rfl | rfl | rfl | rfl | rfl | rfl | rfl | rfl | rfl | rfl | rfl | rfl | rfl | rfl | rfl
  · cases (show some _ = some p from hp)
    exact Rvalue1 s h d b hd hb w
  · cases (show some _ = some p from hp)
    exact Rvalue2 s h d b hd hb w
  · cases (show some _ = some p from hp)
    exact Rvalue6 s h d b hd hb w
  · cases (show some _ = some p from hp)
    exact Rvalue7 s h d b hd hb w
  · cases (show some _ = some p from hp)
    exact Rvalue8 s h d b hd hb w
  · cases (show some _ = some p from hp)
    exact Rvalue9 s h d b hd hb w
  · cases (show some _ = some p from hp)
    exact Rvalue10 s h d b hd hb w
  · cases (show some _ = some p from hp)
    exact Rvalue11 s h d b hd hb w
  · cases (show some _ = some p from hp)
    exact Rvalue12 s h d b hd hb w
  · cases (show some _ = some p from hp)
    exact Rvalue13 s h d b hd hb w
  · cases (show some _ = some p from hp)
    exact Rvalue14 s h d b hd hb w
  · cases (show some _ = some p from hp)
    exact Rvalue15 s h d b hd hb w
  · cases (show some _ = some p from hp)
    exact Rvalue16 s h d b hd hb w
  · cases (show some _ = some p from hp)
    exact Rvalue17 s h d b hd hb w
  · cases (show some _ = some p from hp)
    exact Rvalue18 s h d b hd hb w
  · cases (show some _ = some p from hp)
    exact Rvalue20 s h d b hd hb w
  · cases (show some _ = some p from hp)
    exact Rvalue21 s h d b hd hb w
  · cases (show some _ = some p from hp)
    exact Rvalue22 s h d b hd hb w
  · cases (show some _ = some p from hp)
    exact Rvalue23 s h d b hd hb w
  · cases (show some _ = some p from hp)
    exact Rvalue24 s h d b hd hb (hsh (by decide)).1 (hsh (by decide)).2 w
  · cases (show some _ = some p from hp)
    exact Rvalue25 s h d b hd hb (hsh (by decide)).1 (hsh (by decide)).2 w
  · cases (show some _ = some p from hp)
    exact Rvalue26 s h d b hd hb w
  · cases (show some _ = some p from hp)
    exact Rvalue27 s h d b hd hb w
theorem Rvalue_none (s : St) (h : StOk s) (op : Int) (d b : Nat) (hd : d < 18446744073709551616) (hb : b < 18446744073709551616) (hr : 1 ≤ op ∧ op ≤ 33) (hp : valueF s op d b = none) (w : World) :
    Calls Tryz.prog 44 #[.agg (stRow s).toArray, .int .i64 op, .int .u64 d, .int .u64 b] w fun e w' => e = .returned (.tuple #[.agg (stRow s).toArray, .int .u64 0, .bool false]) ∧ Below w.heap.size w w' := by
  have hop := value_none hr hp
  have hn : ∀ k : Int, ¬ (k = 3 ∨ k = 4 ∨ k = 5 ∨ k = 19 ∨ k = 28 ∨ k = 29 ∨ k = 30 ∨ k = 31 ∨ k = 32 ∨ k = 33) → (op == k) = false := fun k hk => by
    rw [beq_eq_false_iff_ne]; intro e; subst e; exact hk hop
  exact Rvalue_no s h op d b hd hb (hn 6 (by decide)) (hn 15 (by decide)) (hn 7 (by decide)) (hn 8 (by decide)) (hn 17 (by decide)) (hn 13 (by decide)) (hn 18 (by decide)) (hn 9 (by decide)) (hn 10 (by decide)) (hn 16 (by decide)) (hn 14 (by decide)) (hn 11 (by decide)) (hn 12 (by decide)) (hn 22 (by decide)) (hn 23 (by decide)) (hn 24 (by decide)) (hn 25 (by decide)) (hn 20 (by decide)) (hn 21 (by decide)) (hn 1 (by decide)) (hn 2 (by decide)) (hn 26 (by decide)) (hn 27 (by decide)) w

/-- The memory that came in. -/
def memR (F : Nat → Prop) (m : Value) (rs : List Reg) : Res := ⟨F, fun w => RMemAt w F m rs, fun h hp => hp.keep h⟩
def RDoPost (w : World) (F : Nat → Prop) (m : Value) (r : StepR) (e : Ending) (w' : World) : Prop :=
  ∃ v, e = .returned (.tuple #[.agg (stRow r.st).toArray, v, .int .i64 r.code]) ∧ Chg (Over F w.heap.size) w w' ∧ RMemAt w' F m r.rs ∧ w'.ownsRow w.heap.size 47 2 v r.evs.length (r.evs.map evRow).flatten

theorem rdo_start (w : World) (F : Nat → Prop) (m : Value) (rs : List Reg) (hm : RMemAt w F m rs) (hF : ∀ k, F k → k < w.heap.size) (s : St) (i : Ins) :
    ∃ W, W = ((w.alloc (.cells (stRow s).toArray 25)).alloc (.cells (insRow i).toArray 29)).alloc (.cells zeroSt.toArray 25) ∧
      Sep w F W [boxR (w.heap.size + 1 + 1) 25 zeroSt, boxR (w.heap.size + 1) 29 (insRow i), boxR w.heap.size 25 (stRow s), memR F m rs] := by
  refine ⟨_, rfl, ?_⟩
  have h := ((((Sep.nil w F).take (r' := memR F m rs) hm (fun k hk => ⟨hk, hF k hk⟩) (by simp)).box 25 (stRow s)).box 29 (insRow i)).box 25 zeroSt
  rw [show (w.alloc (.cells (stRow s).toArray 25)).heap.size = w.heap.size + 1 from by simp] at h
  rw [show ((w.alloc (.cells (stRow s).toArray 25)).alloc (.cells (insRow i).toArray 29)).heap.size = w.heap.size + 1 + 1 from by simp] at h
  exact h

/-- A slice literal of one event. -/
theorem Sep.rowLit {w0 w : World} {F0 : Nat → Prop} {R : List Res} (h : Sep w0 F0 w R) (x : Ev) : Sep w0 F0 (w.alloc (.cells (evRow x).toArray 47)) (rowR w0.heap.size 47 2 1 (.slice (some ⟨w.heap.size, 0, none⟩) 1 1) (evRow x) :: R) :=
  h.push ((Below.refl _ _).alloc (Nat.le_refl _) _) ⟨rfl, .inr ⟨w.heap.size, 1, (evRow x).toArray, rfl, h.size, heap_alloc_new w _, Nat.le_refl _, by unfold maxLen; decide, rfl, rfl⟩⟩ fun k hk => by cases hk; simp

theorem infoIns9 (i : Ins) : (Tryz.prog.info? 29).map (·.size) = some (insRow i).toArray.size := infoIns
theorem exec_mem {w0 w : World} {F0 : Nat → Prop} {R : List Res} (h : Sep w0 F0 w R) (k : Nat) {g : Nat} {i : Ins} (hi : R[k]? = some (boxR g 29 (insRow i))) {o : Oper} {a : Act} (y : Operand) (ho : o.op = .load 27 y) (hx : a.eval y = .pointer (some ⟨g, 4, none⟩)) :
    (execOp a.eval o).run Tryz.prog w = .ok (.value (.agg #[.int .i64 i.base, .int .i64 i.index, .int .i64 i.scale, .int .i64 i.disp])) w := by
  refine sep_load _ y ho _ hx _ _ Tryz.underlying27 rfl (by kernel_rfl) fun j v hv => ?_
  rw [sep_add]
  match j, hv with
  | 0, hv => cases hv; exact h.cell k 4 hi rfl
  | 1, hv => cases hv; exact h.cell k 5 hi rfl
  | 2, hv => cases hv; exact h.cell k 6 hi rfl
  | 3, hv => cases hv; exact h.cell k 7 hi rfl
theorem sep_alloc {P : Program} {o : Oper} {a : Act} {w : World} (ty : TypeId) (ho : o.op = .alloc ty) {zs : Array Value} (hz : ∀ w, (zeroValue ty).run P w = .ok (.agg zs) w) : (execOp a.eval o).run P w = .ok (.value (.pointer (some ⟨w.heap.size, 0, none⟩))) (w.alloc (.cells zs ty)) := by
  unfold execOp
  simp only [ho]
  simp [Instr.alloc, hz, newVar, newRow, Value.cells]
theorem chk_nums {i : Ins} (h : chkP i = true) : ∃ D S T : Nat, i.d = D ∧ D < 16 ∧ i.s = S ∧ S < 16 ∧ i.t = T ∧ T < 16 := by
  obtain ⟨_, _, h1, h2, h3, _⟩ := chk_parts h
  have : ∀ (b : Bool) (r : Int), hasOk b r = true → ∃ D : Nat, r = D ∧ D < 16 := fun b r hb => by
    cases b
    · simp only [hasOk, Bool.false_eq_true, if_false, decide_eq_true_eq] at hb
      exact ⟨0, by omega, by decide⟩
    · exact hasOk_yes hb rfl
  obtain ⟨D, a1, a2⟩ := this _ _ h1
  obtain ⟨S, a3, a4⟩ := this _ _ h2
  obtain ⟨T, a5, a6⟩ := this _ _ h3
  exact ⟨D, S, T, a1, a2, a3, a4, a5, a6⟩
theorem takes_form {op : Int} (h : 1 ≤ op ∧ op ≤ 33) {s : St} {d b : Nat} {p : St × Nat} (hp : valueF s op d b = some p) : hasR (formR op) 83 = takesS op := by
  rcases (by omega : op = 1 ∨ op = 2 ∨ op = 3 ∨ op = 4 ∨ op = 5 ∨ op = 6 ∨ op = 7 ∨ op = 8 ∨ op = 9 ∨ op = 10 ∨ op = 11 ∨ op = 12 ∨ op = 13 ∨ op = 14 ∨ op = 15 ∨ op = 16 ∨ op = 17 ∨ op = 18 ∨ op = 19 ∨ op = 20 ∨ op = 21 ∨ op = 22 ∨ op = 23 ∨ op = 24 ∨ op = 25 ∨ op = 26 ∨ op = 27 ∨ op = 28 ∨ op = 29 ∨ op = 30 ∨ op = 31 ∨ op = 32 ∨ op = 33) with rfl | rfl | rfl | rfl | rfl | rfl | rfl | rfl | rfl | rfl | rfl | rfl | rfl | rfl | rfl | rfl | rfl | rfl | rfl | rfl | rfl | rfl | rfl | rfl | rfl | rfl | rfl | rfl | rfl | rfl | rfl | rfl | rfl
  all_goals first
    | (exfalso; simp [valueF] at hp; done)
    | decide +kernel
theorem form_size (op : Int) : (⟨(formR op).toArray⟩ : ByteArray).size ≤ 1000 := by
  show (formR op).toArray.size ≤ 1000
  rw [List.size_toArray]
  unfold formR
  repeat' split
  all_goals decide
theorem rv_lt {s s1 : St} {op : Int} {d b r : Nat} (hd : d < 18446744073709551616) (hb : b < 18446744073709551616) (h : valueF s op d b = some (s1, r)) : r < 18446744073709551616 := by
  unfold valueF at h
  by_cases h0 : op = 1 ∨ op = 2
  · rw [if_pos h0] at h; cases h; exact hb
  rw [if_neg h0] at h
  by_cases h1 : op = 6 ∨ op = 15
  · rw [if_pos h1] at h; cases h; exact addF_lt _ _ _
  rw [if_neg h1] at h
  by_cases h2 : op = 7
  · rw [if_pos h2] at h; cases h; exact addF_lt _ _ _
  rw [if_neg h2] at h
  by_cases h3 : op = 8 ∨ op = 17 ∨ op = 13 ∨ op = 18
  · rw [if_pos h3] at h; cases h; exact subF_lt _ _ _
  rw [if_neg h3] at h
  by_cases h4 : op = 9
  · rw [if_pos h4] at h; cases h; exact subF_lt _ _ _
  rw [if_neg h4] at h
  by_cases h5 : op = 10 ∨ op = 16 ∨ op = 14
  · rw [if_pos h5] at h; cases h; exact and_lt hd
  rw [if_neg h5] at h
  by_cases h6 : op = 11
  · rw [if_pos h6] at h; cases h; exact or_lt hd hb
  rw [if_neg h6] at h
  by_cases h7 : op = 12
  · rw [if_pos h7] at h; cases h; exact xor_lt hd hb
  rw [if_neg h7] at h
  by_cases h8 : op = 22
  · rw [if_pos h8] at h; cases h; exact subF_lt _ _ _
  rw [if_neg h8] at h
  by_cases h9 : op = 23
  · rw [if_pos h9] at h; cases h; exact (by omega)
  rw [if_neg h9] at h
  by_cases h10 : op = 24
  · rw [if_pos h10] at h; cases h; exact Nat.mod_lt _ (by decide)
  rw [if_neg h10] at h
  by_cases h11 : op = 25
  · rw [if_pos h11] at h; cases h; exact Nat.lt_of_le_of_lt (Nat.div_le_self _ _) hd
  rw [if_neg h11] at h
  by_cases h12 : op = 20
  · rw [if_pos h12] at h; cases h; exact addF_lt _ _ _
  rw [if_neg h12] at h
  by_cases h13 : op = 21
  · rw [if_pos h13] at h; cases h; exact addF_lt _ _ _
  rw [if_neg h13] at h
  by_cases h14 : op = 26
  · rw [if_pos h14] at h; cases h; exact ite_lt hb hd
  rw [if_neg h14] at h
  by_cases h15 : op = 27
  · rw [if_pos h15] at h; cases h; exact ite_lt hd hb
  rw [if_neg h15] at h
  cases h
theorem rv_reg {s : St} (hs : StOk s) (k : Int) : regAt s k < 18446744073709551616 := by
  unfold regAt
  rw [List.getD_eq_getElem?_getD]
  cases h : s.regs[k.toNat]? with
  | none => simp
  | some r => exact hs.regs r (List.mem_of_getElem? h)
theorem rv_keep {s s1 : St} {op : Int} {d b r : Nat} (h : valueF s op d b = some (s1, r)) : s1.regs = s.regs ∧ s1.pc = s.pc := by
  unfold valueF at h
  by_cases h0 : op = 1 ∨ op = 2
  · rw [if_pos h0] at h; cases h; exact ⟨rfl, rfl⟩
  rw [if_neg h0] at h
  by_cases h1 : op = 6 ∨ op = 15
  · rw [if_pos h1] at h; cases h; exact ⟨rfl, rfl⟩
  rw [if_neg h1] at h
  by_cases h2 : op = 7
  · rw [if_pos h2] at h; cases h; exact ⟨rfl, rfl⟩
  rw [if_neg h2] at h
  by_cases h3 : op = 8 ∨ op = 17 ∨ op = 13 ∨ op = 18
  · rw [if_pos h3] at h; cases h; exact ⟨rfl, rfl⟩
  rw [if_neg h3] at h
  by_cases h4 : op = 9
  · rw [if_pos h4] at h; cases h; exact ⟨rfl, rfl⟩
  rw [if_neg h4] at h
  by_cases h5 : op = 10 ∨ op = 16 ∨ op = 14
  · rw [if_pos h5] at h; cases h; exact ⟨rfl, rfl⟩
  rw [if_neg h5] at h
  by_cases h6 : op = 11
  · rw [if_pos h6] at h; cases h; exact ⟨rfl, rfl⟩
  rw [if_neg h6] at h
  by_cases h7 : op = 12
  · rw [if_pos h7] at h; cases h; exact ⟨rfl, rfl⟩
  rw [if_neg h7] at h
  by_cases h8 : op = 22
  · rw [if_pos h8] at h; cases h; exact ⟨rfl, rfl⟩
  rw [if_neg h8] at h
  by_cases h9 : op = 23
  · rw [if_pos h9] at h; cases h; exact ⟨rfl, rfl⟩
  rw [if_neg h9] at h
  by_cases h10 : op = 24
  · rw [if_pos h10] at h; cases h; exact ⟨rfl, rfl⟩
  rw [if_neg h10] at h
  by_cases h11 : op = 25
  · rw [if_pos h11] at h; cases h; exact ⟨rfl, rfl⟩
  rw [if_neg h11] at h
  by_cases h12 : op = 20
  · rw [if_pos h12] at h; cases h; exact ⟨rfl, rfl⟩
  rw [if_neg h12] at h
  by_cases h13 : op = 21
  · rw [if_pos h13] at h; cases h; exact ⟨rfl, rfl⟩
  rw [if_neg h13] at h
  by_cases h14 : op = 26
  · rw [if_pos h14] at h; cases h; exact ⟨rfl, rfl⟩
  rw [if_neg h14] at h
  by_cases h15 : op = 27
  · rw [if_pos h15] at h; cases h; exact ⟨rfl, rfl⟩
  rw [if_neg h15] at h
  cases h
theorem value_ok {s : St} (hs : StOk s) {op : Int} {d b : Nat} (hd : d < 18446744073709551616) (hb : b < 18446744073709551616) {p : St × Nat} (h : valueF s op d b = some p) : StOk p.1 ∧ p.2 < 18446744073709551616 := by
  obtain ⟨t, r⟩ := p
  obtain ⟨k1, k2⟩ := rv_keep h
  exact ⟨⟨by rw [k1]; exact hs.len, by rw [k1]; exact hs.regs, by rw [k2]; exact hs.pc⟩, rv_lt hd hb h⟩
theorem num_bits {n : Int} (k : Int) (hk : k = 24 ∨ k = 25) (h : numB (formF k).is n = true) : 1 ≤ n ∧ n ≤ 63 := by
  rcases hk with rfl | rfl
  · have e : numB (formF 24).is n = (decide (1 ≤ n) && decide (n ≤ 63)) := rfl
    rw [e, Bool.and_eq_true, decide_eq_true_eq, decide_eq_true_eq] at h
    exact h
  · have e : numB (formF 25).is n = (decide (1 ≤ n) && decide (n ≤ 63)) := rfl
    rw [e, Bool.and_eq_true, decide_eq_true_eq, decide_eq_true_eq] at h
    exact h
end Go.Proofs.YtmanhikpccnfaaaGreat

/- Words of StepCalls' walk. -/
namespace Go.Proofs.YtmanhikpccnfaaaGreat
open Go.RowKit

def memS (F : Nat → Prop) (m : Value) (rs : List Reg) : Res := ⟨F, fun w => MemAt w F m rs, fun h hp => hp.keep h⟩

section
variable {w0 w w' : World} {F0 : Nat → Prop} {R : List Res}
theorem Sep.add (h : Sep w0 F0 w R) {r : Res} (hP : r.P w) (hlt : ∀ k, r.F k → k < w.heap.size) (hov : ∀ k, r.F k → Ov F0 w0.heap.size k) (hd : ∀ q ∈ R, ∀ k, r.F k → ¬ q.F k) : Sep w0 F0 w (r :: R) :=
  ⟨h.chg, fun x hx k hk => by
    rcases List.mem_cons.1 hx with rfl | hx
    · exact hlt k hk
    · exact h.lt x hx k hk, fun x hx k hk => by
    rcases List.mem_cons.1 hx with rfl | hx
    · exact hov k hk
    · exact h.over x hx k hk, List.pairwise_cons.2 ⟨hd, h.dis⟩, fun x hx => by
    rcases List.mem_cons.1 hx with rfl | hx
    · exact hP
    · exact h.holds x hx⟩
theorem Sep.lt_at (h : Sep w0 F0 w R) (i : Nat) {r : Res} (hi : R[i]? = some r) (k : Nat) (hk : r.F k) : k < w.heap.size := h.lt r (List.mem_of_getElem? hi) k hk
/-- One part is changed, and a new one laid. -/
theorem Sep.did (h : Sep w0 F0 w R) (i : Nat) {r r' q : Res} (hi : R[i]? = some r) (hF : r'.F = r.F) (hc : Chg (Ov r.F w.heap.size) w w') (hP : r'.P w') (hq : q.P w') (hqF : ∀ k, q.F k → w.heap.size ≤ k ∧ k < w'.heap.size) : Sep w0 F0 w' (q :: R.set i r') := by
  have h1 := h.put i hi hc hP fun k hk => by rw [hF] at hk; exact ⟨.inl hk, Nat.lt_of_lt_of_le (h.lt _ (List.mem_of_getElem? hi) k hk) hc.size⟩
  refine h1.add hq (fun k hk => (hqF k hk).2) (fun k hk => .inr (Nat.le_trans h.size (hqF k hk).1)) fun x hx k hk hk' => ?_
  have h2 := (hqF k hk).1
  have h3 : k < w.heap.size := by
    rcases List.mem_or_eq_of_mem_set hx with hx | rfl
    · exact h.lt x hx k hk'
    · rw [hF] at hk'; exact h.lt _ (List.mem_of_getElem? hi) k hk'
  omega

theorem row_form {w : World} {base : Nat} {v : Value} {l : List Ev} (h : w.ownsRow base 47 2 v l.length (l.map evRow).flatten) : ∃ A c, v = .slice A l.length c := by
  rcases h.2 with ⟨h1, h2⟩ | ⟨g', cap', cur, hv, _⟩
  · exact ⟨none, 0, by rw [h1, h2]⟩
  · exact ⟨_, _, hv⟩
def evsR (base : Nat) (v : Value) (l : List Ev) : Res := rowR base 47 2 l.length v (l.map evRow).flatten

theorem Sep.Do (h : Sep w0 F0 w R) (k : Nat) {F : Nat → Prop} {m : Value} {rs : List Reg} (hk : R[k]? = some (memS F m rs)) {s : St} (hs : StOk s) {i : Ins} (hi : InsOk i) (size : Int) {r : StepR} (hr : r = stepF s i size rs) :
    Calls Tryz.prog 11 #[.agg (stRow s).toArray, .agg (insRow i).toArray, .int .i64 size, m] w fun e w' => ∃ A c, e = .returned (.tuple #[.agg (stRow r.st).toArray, .slice A r.evs.length c, .int .i64 r.code]) ∧
      Sep w0 F0 w' (evsR w.heap.size (.slice A r.evs.length c) r.evs :: R.set k (memS F m r.rs)) := by
  refine (Do_any s i size m w F rs hs hi (h.get k hk) (h.lt _ (List.mem_of_getElem? hk))).mono ?_
  rintro e w' ⟨v, rfl, hc, hm, hrow⟩
  rw [← hr] at hm hrow ⊢
  obtain ⟨A, c, rfl⟩ := row_form hrow
  exact ⟨A, c, rfl, h.did k hk rfl hc hm hrow fun j hj => hrow.lt j hj⟩
/-- keysmithref08.Do, at any state, instruction, size and memory. -/
def RDoIs : Prop := ∀ (s : St) (i : Ins) (size : Int) (m : Value) (w : World) (F : Nat → Prop) (rs : List Reg), StOk s → RMemAt w F m rs → (∀ k, F k → k < w.heap.size) →
    Calls Tryz.prog 22 #[.agg (stRow s).toArray, .agg (insRow i).toArray, .int .i64 size, m] w (RDoPost w F m (stepF s i size rs))
theorem Sep.RDo (H : RDoIs) (h : Sep w0 F0 w R) (k : Nat) {F : Nat → Prop} {m : Value} {rs : List Reg} (hk : R[k]? = some (memR F m rs)) {s : St} (hs : StOk s) (i : Ins) (size : Int) {r : StepR} (hr : r = stepF s i size rs) :
    Calls Tryz.prog 22 #[.agg (stRow s).toArray, .agg (insRow i).toArray, .int .i64 size, m] w fun e w' => ∃ A c, e = .returned (.tuple #[.agg (stRow r.st).toArray, .slice A r.evs.length c, .int .i64 r.code]) ∧
      Sep w0 F0 w' (evsR w.heap.size (.slice A r.evs.length c) r.evs :: R.set k (memR F m r.rs)) := by
  refine (H s i size m w F rs hs (h.get k hk) (h.lt _ (List.mem_of_getElem? hk))).mono ?_
  rintro e w' ⟨v, rfl, hc, hm, hrow⟩
  rw [← hr] at hm hrow ⊢
  obtain ⟨A, c, rfl⟩ := row_form hrow
  exact ⟨A, c, rfl, h.did k hk rfl hc hm hrow fun j hj => hrow.lt j hj⟩
theorem Sep.evs (h : Sep w0 F0 w R) (k : Nat) {base : Nat} {v : Value} {l : List Ev} (hk : R[k]? = some (evsR base v l)) : EvsAt w (fun k => k < w.heap.size) v l := evs_own (h.get k hk)
theorem evs_next {w w' : World} {v : Value} {l : List Ev} (h : EvsAt w (fun k => k < w.heap.size) v l) (hb : Below w.heap.size w w') : EvsAt w' (fun k => k < w'.heap.size) v l :=
  Rows.mono (h.keep (SameOn.of_below hb fun _ hk => hk)) fun _ hk => Nat.lt_of_lt_of_le hk hb.size
/-- The reference's memory: its field's value, and the regions there. -/
theorem Sep.field (h : Sep w0 F0 w R) (k : Nat) {F : Nat → Prop} {g : Nat} {rs : List Reg} (hk : R[k]? = some (memR F (.pointer (some ⟨g, 0, none⟩)) rs)) :
    ∃ A c, ∀ w', Below w.heap.size w w' → w'.cell? ⟨g, 0, none⟩ = some (.slice A rs.length c) ∧ RegsAt w' (fun k => k < w'.heap.size) (.slice A rs.length c) rs := by
  obtain ⟨bm, v, hp, hF, hg, ho, hgood⟩ : RMemAt w F (.pointer (some ⟨g, 0, none⟩)) rs := h.get k hk
  cases hp
  obtain ⟨A, c, rfl, _⟩ := (ho.at_ hgood.base).form
  refine ⟨A, c, fun w' hb => ⟨?_, ?_⟩⟩
  · have h1 := (hb.block g (h.lt _ (List.mem_of_getElem? hk) g hF)).trans hg
    simp [World.cell?, h1]
  · exact regs_next ((ho.at_ hgood.base).mono fun j hj => h.lt _ (List.mem_of_getElem? hk) j hj) hb
theorem Sep.good (h : Sep w0 F0 w R) (k : Nat) {F : Nat → Prop} {m : Value} {rs : List Reg} (hk : R[k]? = some (memS F m rs)) : Good rs := mem_good (h.get k hk)

theorem memRow_size (p : Ins) : (Tryz.prog.info? 27).map (·.size) = some (memRow p).toArray.size := by
  have h : (Tryz.prog.info? 27).map (·.size) = some 4 := by kernel_rfl
  rw [h]; rfl
theorem exec_same_st {o : Oper} {a : Act} (x y : Operand) (ho : o.op = .binOp .eql 25 x y 25) {s : St} (hs : StOk s) (hx : a.eval x = .agg (stRow s).toArray) (hy : a.eval y = .agg (stRow s).toArray) : (execOp a.eval o).run Tryz.prog w = .ok (.value (.bool true)) w := by
  have h := exec_eq_st (w := w) x y ho hs hs hx hy
  rw [(eqSt_iff s s).2 rfl] at h
  exact h
theorem Address_row (s : St) (p : Ins) (h : StOk s) (w : World) :
    Calls Tryz.prog 23 #[.agg (stRow s).toArray, .agg (memRow p).toArray] w fun e w' => e = .returned (.int .u64 (addrF s p)) ∧ Below w.heap.size w w' := Address_any s p h w
theorem RAddress_row (s : St) (p : Ins) (h : StOk s) (w : World) :
    Calls Tryz.prog 24 #[.agg (stRow s).toArray, .agg (memRow p).toArray] w fun e w' => e = .returned (.int .u64 (addrF s p)) ∧ Below w.heap.size w w' := RAddress_any s p h w
theorem three_boxes (w : World) (s : St) (i p : Ins) : ∃ W, W = ((w.alloc (.cells (stRow s).toArray 25)).alloc (.cells (insRow i).toArray 29)).alloc (.cells (memRow p).toArray 27) ∧
    Sep w (fun _ => False) W [boxR (w.heap.size + 1 + 1) 27 (memRow p), boxR (w.heap.size + 1) 29 (insRow i), boxR w.heap.size 25 (stRow s)] := by
  refine ⟨_, rfl, ?_⟩
  have h := (((Sep.nil w (fun _ => False)).box 25 (stRow s)).box 29 (insRow i)).box 27 (memRow p)
  rw [show (w.alloc (.cells (stRow s).toArray 25)).heap.size = w.heap.size + 1 from by simp] at h
  rw [show ((w.alloc (.cells (stRow s).toArray 25)).alloc (.cells (insRow i).toArray 29)).heap.size = w.heap.size + 1 + 1 from by simp] at h
  exact h
end
end Go.Proofs.YtmanhikpccnfaaaGreat
