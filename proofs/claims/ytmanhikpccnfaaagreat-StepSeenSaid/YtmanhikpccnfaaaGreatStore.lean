/- (*memory.Memory).Store. -/
import Derived.Test.YtmanhikpccnfaaaGreatLoad
namespace Go.Proofs.YtmanhikpccnfaaaGreat
open Go.RowKit

/-- Byte number j of a word. -/
def byteAt (v j : Nat) : UInt8 := UInt8.ofNat (v / 2 ^ (8 * j) % 256)
/-- So many bytes of a word are laid from place k on. -/
def putTo (l : List UInt8) (k v : Nat) : Nat → List UInt8
  | 0 => l
  | n + 1 => (putTo l k v n).set (k + n) (byteAt v n)

theorem putTo_length (l : List UInt8) (k v n : Nat) : (putTo l k v n).length = l.length := by
  induction n with
  | zero => rfl
  | succ n ih => simp [putTo, ih]
theorem byteRows_set (l : List UInt8) (i : Nat) (x : UInt8) : byteRows (l.set i x) = (byteRows l).set i [byteV x] := by
  simp [byteRows, List.map_set]

def storeF (rs : List Reg) (at_ v : Nat) : Option (List Reg) := match placeF rs at_ 8 with
  | none => none
  | some (i, k) => match rs[i]? with
    | none => none
    | some r => if r.write = true then some (rs.set i { r with bytes := putTo r.bytes k v 8 }) else none

theorem byteAt_int (v j m : Nat) (hm : m = 2 ^ (8 * j)) : ((byteAt v j).toNat : Int) = (v : Int) / (m : Int) % 256 := by
  rw [byteAt, ← hm]
  simp only [UInt8.toNat_ofNat']
  omega

theorem byteRows_at {l : List UInt8} {i : Nat} (h : i < l.length) : ∃ x, (byteRows l)[i]? = some [byteV x] :=
  ⟨l[i], by rw [byteRows, List.getElem?_map, List.getElem?_eq_getElem h]; rfl⟩

theorem put_cell {w : World} {bb k v q : Nat} {l : List UInt8} (h : RowsBlk w bb 5 1 (byteRows (putTo l k v q))) (hk : k + q < l.length) : ∃ u, w.cell? ⟨bb, k + q, none⟩ = some u := by
  obtain ⟨x, hx⟩ := byteRows_at (l := putTo l k v q) (i := k + q) (by rw [putTo_length]; exact hk)
  exact ⟨_, by have := h.cell hx (j := 0) (by rfl); simpa using this⟩

theorem put_step {w : World} {bb k v q : Nat} {l : List UInt8} (h : RowsBlk w bb 5 1 (byteRows (putTo l k v q))) (hk : k + q < l.length) {u : Value} (hu : u = byteV (byteAt v q)) :
    RowsBlk (w.setCell ⟨bb, k + q, none⟩ u) bb 5 1 (byteRows (putTo l k v (q + 1))) := by
  subst hu
  obtain ⟨x, hx⟩ := byteRows_at (l := putTo l k v q) (i := k + q) (by rw [putTo_length]; exact hk)
  have := h.set_ hx (j := 0) (by decide) (byteV (byteAt v q))
  rw [putTo, byteRows_set]
  simpa using this

theorem Good.set {rs : List Reg} (h : Good rs) {i : Nat} {r : Reg} (hr : rs[i]? = some r) {b : List UInt8} (hb : b.length = r.bytes.length) : Good (rs.set i { r with bytes := b }) := by
  obtain ⟨hi, hri⟩ := List.getElem?_eq_some_iff.1 hr
  have hmem : r ∈ rs := List.mem_of_getElem? hr
  have hpos := h.pos r hmem
  have all : ∀ {Q : Reg → Prop}, (∀ x ∈ rs, Q x) → Q { r with bytes := b } → ∀ x ∈ rs.set i { r with bytes := b }, Q x := fun h1 h2 x hx => by
    rcases List.mem_or_eq_of_mem_set hx with hx | rfl
    · exact h1 x hx
    · exact h2
  refine ⟨by simpa using h.len, all h.bytes ⟨fun e => ?_, ?_⟩, all h.end_ ?_, ?_⟩
  · simp only at e; rw [e] at hb; simp at hb; omega
  · simp only; rw [hb]; exact (h.bytes r hmem).2
  · simp only; rw [hb]; exact h.end_ r hmem
  · have hg := h.gap
    rw [List.pairwise_iff_getElem] at hg ⊢
    intro a c ha hc hac
    simp only [List.length_set] at ha hc
    have h0 := hg a c ha hc hac
    simp only [List.getElem_set]
    split
    · rename_i e1; subst e1
      rw [if_neg (by omega)]
      simp only; rw [hb]
      rw [hri] at h0; exact h0
    · split
      · rename_i e2; subst e2
        rw [hri] at h0; exact h0
      · exact h0

/-- A region's bytes are turned. -/
theorem MemAt.put {w w' : World} {F : Nat → Prop} {p : Value} {rs : List Reg} {i bb n c : Nat} {r : Reg} {b : List UInt8} (h : MemAt w F p rs) (he : EntryAt w p i bb n c) (hr : rs[i]? = some r) (hch : Chg (· = bb) w w')
    (hrow : RowsBlk w' bb 5 1 (byteRows b)) (hb : b.length = r.bytes.length) : MemAt w' F p (rs.set i { r with bytes := b }) := by
  obtain ⟨bm, v, hp, hFbm, hblk, ⟨A, c', P, hv, hlc, hfst, hent, hnd, hblk2⟩, hgood⟩ := h
  obtain ⟨bm', g', m, c2, hp', hc1, hc2⟩ := he
  have hne : rs ≠ [] := fun e => by rw [e] at hr; cases hr
  obtain ⟨g, hA, hFg, hrows⟩ := hblk2 hne
  subst hp
  cases hp'
  have hcm : w.cell? ⟨bm, 0, none⟩ = some v := by simp [World.cell?, hblk]
  rw [hcm, hv, hA] at hc1
  cases hc1
  have hri := hr
  rw [← hfst, List.getElem?_map] at hri
  cases hpk : P[i]? with
  | none => rw [hpk] at hri; cases hri
  | some x =>
    rw [hpk] at hri
    cases hri
    have hx := hent x (List.mem_of_getElem? hpk)
    have hrowi : (P.map fun x => entRow x.2)[i]? = some (entRow x.2) := by rw [List.getElem?_map, hpk]; rfl
    have hc3 := hrows.cell hrowi (j := 1) (by rfl)
    rw [hc3] at hc2
    have had : x.2.ad = some ⟨bb, 0, none⟩ := by injection hc2 with h1; injection h1
    obtain ⟨bb', hb1, hb2, hb3⟩ := hx.blk
    rw [had] at hb1
    cases hb1
    obtain ⟨hil, hpi⟩ := List.getElem?_eq_some_iff.1 hpk
    have hgl := hrows.lt
    have hbml := lt_of_block hblk
    have hgb : g' ≠ bb := hrows.ne hb3 (by decide)
    have hbb : bm ≠ bb := by
      rintro rfl
      obtain ⟨cur, h1, _⟩ := hb3
      rw [hblk] at h1
      injection h1 with h1
      injection h1 with _ h2
      exact absurd h2 (by decide)
    have hsnd : (P.set i ({ x.1 with bytes := b }, x.2)).map (·.2) = P.map (·.2) := by
      rw [List.map_set]
      refine List.ext_getElem? fun q => ?_
      by_cases hq : i = q
      · subst hq
        rw [List.getElem?_set_self (by simpa using hil), List.getElem?_map, hpk]; rfl
      · rw [List.getElem?_set_ne hq]
    have h2 : ∀ {β : Type} (f : Ent → β), (P.set i ({ x.1 with bytes := b }, x.2)).map (fun x => f x.2) = P.map fun x => f x.2 := fun f => by
      have := congrArg (List.map f) hsnd
      simpa [List.map_map, Function.comp_def] using this
    refine ⟨bm, v, rfl, hFbm, (hch.block bm hbml hbb).trans hblk, ⟨A, c', P.set i ({ x.1 with bytes := b }, x.2), by rw [hv]; simp, by simpa using hlc, ?_, ?_, ?_, ?_⟩, hgood.set hr hb⟩
    · rw [List.map_set, hfst]
    · intro y hy
      obtain ⟨q, hq⟩ := List.mem_iff_getElem?.1 hy
      by_cases hqi : i = q
      · subst hqi
        rw [List.getElem?_set_self hil] at hq
        cases hq
        exact ⟨hx.key, by rw [hx.n]; exact hb.symm, hx.wr, hx.cap, bb, had, hb2, hrow⟩
      · rw [List.getElem?_set_ne hqi] at hq
        have hy' := hent y (List.mem_of_getElem? hq)
        obtain ⟨by_, a1, a2, a3⟩ := hy'.blk
        have hne2 : by_ ≠ bb := by
          rintro rfl
          obtain ⟨hql, hpq⟩ := List.getElem?_eq_some_iff.1 hq
          have h3 := List.pairwise_iff_getElem.1 hnd
          rcases Nat.lt_or_gt_of_ne hqi with hlt | hlt
          · exact h3 i q (by simpa using hil) (by simpa using hql) hlt (by simp only [List.getElem_map]; rw [hpi, hpq, had, a1])
          · exact h3 q i (by simpa using hql) (by simpa using hil) hlt (by simp only [List.getElem_map]; rw [hpi, hpq, had, a1])
        exact ⟨hy'.key, hy'.n, hy'.wr, hy'.cap, by_, a1, a2, a3.keep (hch.block by_ a3.lt hne2)⟩
    · rw [h2 (·.ad)]; exact hnd
    · intro _
      refine ⟨g', hA, hFg, ?_⟩
      rw [h2 entRow]
      exact hrows.keep (hch.block g' hgl hgb)

set_option maxRecDepth 100000 in
set_option maxHeartbeats 800000 in
theorem Store_any (p : Value) (w : World) (F : Nat → Prop) (rs : List Reg) (at_ v : Nat) (hat : at_ < 18446744073709551616) (hv : v < 18446744073709551616) (hm : MemAt w F p rs) (hF : ∀ k, F k → k < w.heap.size) :
    Calls Tryz.prog 107 #[p, .int .u64 at_, .int .u64 v] w fun e w' =>
      (storeF rs at_ v = none ∧ e = .returned (.int .i64 11) ∧ Below w.heap.size w w') ∨ (∃ rs', storeF rs at_ v = some rs' ∧ e = .returned (.int .i64 0) ∧ MemAt w' F p rs' ∧ Chg F w w') := by
  obtain ⟨bm, hp⟩ : ∃ bm, p = .pointer (some ⟨bm, 0, none⟩) := by obtain ⟨bm, v, h, _⟩ := hm; exact ⟨bm, h⟩
  have HF := Lib.hid (find_any _ w F rs at_ 8 (by omega) hat hm hF)
  have HM := Lib.hid hm
  have HFF := Lib.hid hF
  have hnt := isNilTrue
  have hnf := isNilFalse
  clear hm hF
  subst hp
  go_enter Tryz.func107, Tryz.ntmps107
  go_wp2_with fail
  refine HF.out.mono ?_
  rintro e w1 ⟨v1, rfl, hfo, hb1⟩
  rcases hfo with ⟨hpl, rfl⟩ | ⟨i, k, r, bb, c, hpl, hri, hFb, hkn, hkl, hrc, hrow, hent, rfl⟩
  · have hl : storeF rs at_ v = none := by simp only [storeF, hpl]
    have HL := Lib.hid hl
    clear hl hpl
    go_wp2
    go_ret
    exact .inl ⟨HL.out, rfl, hb1⟩
  · cases hw : r.write
    · have hl : storeF rs at_ v = none := by simp only [storeF, hpl, hri, hw]; rfl
      have HL := Lib.hid hl
      clear hl hpl hrow hri
      go_wp2
      go_ret
      exact .inl ⟨HL.out, rfl, hb1⟩
    · have hl : storeF rs at_ v = some (rs.set i { r with bytes := putTo r.bytes k v 8 }) := by simp only [storeF, hpl, hri, hw]; rfl
      have HL := Lib.hid hl
      have HROW := Lib.hid hrow
      have HRI := Lib.hid hri
      have HENT := Lib.hid hent
      clear hl hpl hrow hri hent
      go_wp2
      go_loopw [26] (fun i wr => ∃ (q : Nat) (z : Int), z = q ∧ q ≤ 8 ∧ i = .int .i64 z ∧ Chg (· = bb) w1 wr ∧ RowsBlk wr bb 5 1 (byteRows (putTo r.bytes k v q))) (fun i _ => 8 - (intOf i).toNat)
      case atStart => exact ⟨0, 0, rfl, by omega, rfl, Chg.refl _ _, HROW.out⟩
      case round =>
        obtain ⟨q, z, hz, hq, rfl, hch, hrw⟩ := hrel
        have HCH := Lib.hid hch
        have HRW := Lib.hid hrw
        clear hch hrw
        rcases (by omega : z = 0 ∨ z = 1 ∨ z = 2 ∨ z = 3 ∨ z = 4 ∨ z = 5 ∨ z = 6 ∨ z = 7 ∨ z = 8) with rfl | rfl | rfl | rfl | rfl | rfl | rfl | rfl | rfl
        · obtain rfl : q = 0 := by omega
          obtain ⟨u, hc⟩ := put_cell HRW.out (q := 0) (by omega)
          have hf := HRW.out.frozen (k + 0)
          have i0 : (0 : Int) ≤ (0 : Int) := by decide
          simp only [Nat.add_zero] at hc hf
          clear hz hq
          go_wp2
          go_roundw
          case rel => exact ⟨1, 1, rfl, by omega, rfl, HCH.out.setCell (.inl rfl) _, put_step HRW.out (q := 0) (by omega) (congrArg (Value.int .u8) (by rw [byteAt_int v 0 1 rfl]; simp))⟩
          case measure => simp [intOf]
        · obtain rfl : q = 1 := by omega
          obtain ⟨u, hc⟩ := put_cell HRW.out (q := 1) (by omega)
          have hf := HRW.out.frozen (k + 1)
          have i0 : (0 : Int) ≤ (1 : Int) := by decide
          clear hz hq
          go_wp2
          go_roundw
          case rel => exact ⟨2, 2, rfl, by omega, rfl, HCH.out.setCell (.inl rfl) _, put_step HRW.out (q := 1) (by omega) (congrArg (Value.int .u8) (by rw [byteAt_int v 1 256 rfl]; simp))⟩
          case measure => simp [intOf]
        · obtain rfl : q = 2 := by omega
          obtain ⟨u, hc⟩ := put_cell HRW.out (q := 2) (by omega)
          have hf := HRW.out.frozen (k + 2)
          have i0 : (0 : Int) ≤ (2 : Int) := by decide
          clear hz hq
          go_wp2
          go_roundw
          case rel => exact ⟨3, 3, rfl, by omega, rfl, HCH.out.setCell (.inl rfl) _, put_step HRW.out (q := 2) (by omega) (congrArg (Value.int .u8) (by rw [byteAt_int v 2 65536 rfl]; simp))⟩
          case measure => simp [intOf]
        · obtain rfl : q = 3 := by omega
          obtain ⟨u, hc⟩ := put_cell HRW.out (q := 3) (by omega)
          have hf := HRW.out.frozen (k + 3)
          have i0 : (0 : Int) ≤ (3 : Int) := by decide
          clear hz hq
          go_wp2
          go_roundw
          case rel => exact ⟨4, 4, rfl, by omega, rfl, HCH.out.setCell (.inl rfl) _, put_step HRW.out (q := 3) (by omega) (congrArg (Value.int .u8) (by rw [byteAt_int v 3 16777216 rfl]; simp))⟩
          case measure => simp [intOf]
        · obtain rfl : q = 4 := by omega
          obtain ⟨u, hc⟩ := put_cell HRW.out (q := 4) (by omega)
          have hf := HRW.out.frozen (k + 4)
          have i0 : (0 : Int) ≤ (4 : Int) := by decide
          clear hz hq
          go_wp2
          go_roundw
          case rel => exact ⟨5, 5, rfl, by omega, rfl, HCH.out.setCell (.inl rfl) _, put_step HRW.out (q := 4) (by omega) (congrArg (Value.int .u8) (by rw [byteAt_int v 4 4294967296 rfl]; simp))⟩
          case measure => simp [intOf]
        · obtain rfl : q = 5 := by omega
          obtain ⟨u, hc⟩ := put_cell HRW.out (q := 5) (by omega)
          have hf := HRW.out.frozen (k + 5)
          have i0 : (0 : Int) ≤ (5 : Int) := by decide
          clear hz hq
          go_wp2
          go_roundw
          case rel => exact ⟨6, 6, rfl, by omega, rfl, HCH.out.setCell (.inl rfl) _, put_step HRW.out (q := 5) (by omega) (congrArg (Value.int .u8) (by rw [byteAt_int v 5 1099511627776 rfl]; simp))⟩
          case measure => simp [intOf]
        · obtain rfl : q = 6 := by omega
          obtain ⟨u, hc⟩ := put_cell HRW.out (q := 6) (by omega)
          have hf := HRW.out.frozen (k + 6)
          have i0 : (0 : Int) ≤ (6 : Int) := by decide
          clear hz hq
          go_wp2
          go_roundw
          case rel => exact ⟨7, 7, rfl, by omega, rfl, HCH.out.setCell (.inl rfl) _, put_step HRW.out (q := 6) (by omega) (congrArg (Value.int .u8) (by rw [byteAt_int v 6 281474976710656 rfl]; simp))⟩
          case measure => simp [intOf]
        · obtain rfl : q = 7 := by omega
          obtain ⟨u, hc⟩ := put_cell HRW.out (q := 7) (by omega)
          have hf := HRW.out.frozen (k + 7)
          have i0 : (0 : Int) ≤ (7 : Int) := by decide
          clear hz hq
          go_wp2
          go_roundw
          case rel => exact ⟨8, 8, rfl, by omega, rfl, HCH.out.setCell (.inl rfl) _, put_step HRW.out (q := 7) (by omega) (congrArg (Value.int .u8) (by rw [byteAt_int v 7 72057594037927936 rfl]; omega))⟩
          case measure => simp [intOf]
        · obtain rfl : q = 8 := by omega
          clear hz hq
          have hmem := (HM.out.keep (SameOn.of_below hb1 HFF.out)).put HENT.out HRI.out HCH.out HRW.out (putTo_length _ _ _ _)
          have hchg : Chg F w wr := (Chg.of_below hb1).trans' HCH.out (fun q _ hq => by rw [hq]; exact hFb)
          have HMEM := Lib.hid hmem
          have HCHG := Lib.hid hchg
          clear hmem hchg
          go_wp2
          go_ret
          exact .inr ⟨_, HL.out, rfl, HMEM.out, HCHG.out⟩
end Go.Proofs.YtmanhikpccnfaaaGreat
