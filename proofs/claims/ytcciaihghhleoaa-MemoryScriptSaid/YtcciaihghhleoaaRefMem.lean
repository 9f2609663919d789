/- keysmithref04: New, Load, Store, Bytes: as memory's. -/
import Derived.Test.YtcciaihghhleoaaRefPlace
namespace Go.Proofs.Ytcciaihghhleoaa
open Go.RowKit

theorem place_inv {rs : List Reg} {at_ n i k : Nat} (h : placeF rs at_ n = some (i, k)) : ∃ r, rs[i]? = some r ∧ n ≤ r.bytes.length - k := by
  unfold placeF at h
  split at h
  · cases h
  · rename_i r hr
    split at h
    · cases h
    · split at h
      · cases h
      · cases h
        exact ⟨r, hr, by omega⟩

/-- What place tells, in place. -/
theorem place_at {p : Value} {w : World} {F : Nat → Prop} {rs : List Reg} {at_ n i k : Nat} (hm : RMemAt w F p rs) (h : placeF rs at_ n = some (i, k)) :
    ∃ bm g bb r m c cc, p = .pointer (some ⟨bm, 0, none⟩) ∧ rs[i]? = some r ∧ i < m ∧ m ≤ 8 ∧ k + n ≤ r.bytes.length ∧ k < r.bytes.length ∧ r.bytes.length ≤ cc ∧ r.bytes.length ≤ 1048576 ∧ F bb ∧ bm ≠ bb ∧ g ≠ bb ∧ bm < w.heap.size ∧ g < w.heap.size ∧ bb < w.heap.size ∧
      w.cell? ⟨bm, 0, none⟩ = some (.slice (some ⟨g, 0, none⟩) m c) ∧ w.cell? ⟨g, i * 3 + 1, none⟩ = some (.slice (some ⟨bb, 0, none⟩) r.bytes.length cc) ∧ w.cell? ⟨g, i * 3 + 2, none⟩ = some (.bool r.write) ∧ RowsBlk w bb 5 1 (byteRows r.bytes) ∧ EntryAt w p i bb r.bytes.length cc := by
  obtain ⟨bm, v, rfl, hbm, hblk, hown, hgood⟩ := hm
  obtain ⟨A, c, rfl, hlc⟩ := (hown.at_ hgood.base).form
  obtain ⟨r, hr, hnk⟩ := place_inv h
  have hcell : w.cell? ⟨bm, 0, none⟩ = some (.slice A rs.length c) := by simp [World.cell?, hblk]
  have hown2 := hown
  obtain ⟨g, bb, cc, rfl, hFg, hFb, hgl, hbbl, c0, c1, c2, hcap, hrow⟩ := hown2.ent hr
  obtain ⟨A', c', P, hv, hlc', hfst, hent, hnd, hblk2⟩ := hown
  cases hv
  obtain ⟨g', hA, hFg', hrows⟩ := hblk2 (fun e => by rw [e] at hr; cases hr)
  cases hA
  have hk : k < r.bytes.length := by
    unfold placeF at h
    split at h
    · cases h
    · rename_i q hq
      have h1 := findI_le hq
      have h2 := hgood.last q (List.mem_of_getElem? hq)
      have h3 := hgood.pos q (List.mem_of_getElem? hq)
      split at h
      · cases h
      · split at h
        · cases h
        · cases h
          rw [hr] at hq
          cases hq
          omega
  refine ⟨bm, g, bb, r, rs.length, c, cc, rfl, hr, (List.getElem?_eq_some_iff.1 hr).1, hgood.len, by omega, hk, hcap, (hgood.bytes r (List.mem_of_getElem? hr)).2, hFb, ?_, hrows.ne hrow (by decide), lt_of_block hblk, hgl, hbbl, hcell, c1, c2, hrow, bm, g, rs.length, c, rfl, hcell, c1⟩
  rintro rfl
  obtain ⟨cur, h1, _⟩ := hrow
  rw [hblk] at h1
  injection h1 with h1
  injection h1 with _ h1
  exact absurd h1 (by decide)

theorem placeNo {p : Value} {w : World} {rs : List Reg} {at_ n : Nat} (h : Calls Try.prog 36 #[p, .int .u64 at_, .int .i64 n] w fun e w' => e = .returned (placeOut (placeF rs at_ n)) ∧ Below w.heap.size w w') (hp : placeF rs at_ n = none) :
    Calls Try.prog 36 #[p, .int .u64 at_, .int .i64 n] w fun e w' => e = .returned (.tuple #[.int .i64 (-1), .int .i64 0]) ∧ Below w.heap.size w w' := by rw [hp] at h; exact h
theorem placeYes {p : Value} {w : World} {rs : List Reg} {at_ n i k : Nat} (h : Calls Try.prog 36 #[p, .int .u64 at_, .int .i64 n] w fun e w' => e = .returned (placeOut (placeF rs at_ n)) ∧ Below w.heap.size w w') (hp : placeF rs at_ n = some (i, k)) :
    Calls Try.prog 36 #[p, .int .u64 at_, .int .i64 n] w fun e w' => e = .returned (.tuple #[.int .i64 i, .int .i64 k]) ∧ Below w.heap.size w w' := by rw [hp] at h; exact h

theorem wordOf_drop {L : List UInt8} {j : Nat} {x : UInt8} (h : L[j]? = some x) : wordOf (L.drop j) = x.toNat + 256 * wordOf (L.drop (j + 1)) := by
  obtain ⟨hj, rfl⟩ := List.getElem?_eq_some_iff.1 h
  rw [List.drop_eq_getElem_cons hj]; rfl
theorem or_step2 {V x : Nat} (hV : V < 72057594037927936) (hx : x < 256) : Go.bits .or .u64 ((V : Int) * 256) (IntKind.u64.wrap (x : Int)) = ((x + 256 * V : Nat) : Int) := by
  have e1 : IntKind.u64.wrap (x : Int) = x := by rw [wrapU]; omega
  have e2 : (V : Int) * 256 = ((256 * V : Nat) : Int) := by omega
  rw [e1, e2, bits_or_u64_nat _ _ (by omega) (by omega)]
  have := Nat.two_pow_add_eq_or_of_lt (i := 8) (b := x) (by omega) V
  rw [show (2 : Nat) ^ 8 = 256 from rfl] at this
  rw [← this, Nat.add_comm]
theorem wordOf_drop_lt {L : List UInt8} {q : Nat} (h : L.length = 8) (hq : q ≤ 7) : wordOf (L.drop (8 - q)) < 72057594037927936 := by
  have h1 := wordOf_lt (L.drop (8 - q))
  rw [List.length_drop, h] at h1
  have : (2 : Nat) ^ (8 * (8 - (8 - q))) ≤ 2 ^ 56 := Nat.pow_le_pow_right (by decide) (by omega)
  have h2 : (2 : Nat) ^ 56 = 72057594037927936 := rfl
  omega

set_option maxRecDepth 100000 in
set_option maxHeartbeats 800000 in
theorem RLoad_any (p : Value) (w : World) (F : Nat → Prop) (rs : List Reg) (at_ : Nat) (hat : at_ < 18446744073709551616) (hm : RMemAt w F p rs) :
    Calls Try.prog 25 #[p, .int .u64 at_] w fun e w' => e = .returned (loadOut (loadF rs at_)) ∧ Below w.heap.size w w' := by
  have HP := place_any p w F rs at_ 8 (by omega) hat hm
  cases hpl : placeF rs at_ 8 with
  | none =>
    obtain ⟨bm, hp⟩ : ∃ bm, p = .pointer (some ⟨bm, 0, none⟩) := by obtain ⟨bm, v, h, _⟩ := hm; exact ⟨bm, h⟩
    subst hp
    have HC := Lib.hid (placeNo HP hpl)
    have hl : loadF rs at_ = none := by simp only [loadF, hpl]
    have HL := Lib.hid hl
    clear hl hpl hm HP
    go_enter Try.func25, Try.ntmps25
    go_wp2_with fail
    refine HC.out.mono ?_
    rintro e w1 ⟨rfl, hb1⟩
    go_wp2
    go_ret2
    exact ⟨by rw [HL.out]; rfl, hb1⟩
  | some ik =>
    obtain ⟨i, k⟩ := ik
    have HC := Lib.hid (placeYes HP hpl)
    obtain ⟨bm, g, bb, r, m, c, cc, rfl, hri, him, hm8, hkn, hkl, hcc, hbig, hFb, hbmb, hgb, hbml, hgl, hbbl, c0, c1, c2, hrow, hent⟩ := place_at hm hpl
    have hL8 : ((r.bytes.drop k).take 8).length = 8 := by simp; omega
    have hl : loadF rs at_ = some (wordOf ((r.bytes.drop k).take 8)) := by simp only [loadF, hpl, hri]
    have cells : ∀ (j : Nat) (x : UInt8), ((r.bytes.drop k).take 8)[j]? = some x → w.cell? ⟨bb, k + j, none⟩ = some (byteV x) := fun j x hx => by
      rw [List.getElem?_take] at hx
      split at hx
      · rw [List.getElem?_drop] at hx
        have h1 : (byteRows r.bytes)[k + j]? = some [byteV x] := by rw [byteRows, List.getElem?_map, hx]; rfl
        have h2 := hrow.cell h1 (j := 0) (by rfl)
        simpa using h2
      · cases hx
    generalize (r.bytes.drop k).take 8 = L at *
    have HL := Lib.hid hl
    have HL8 := Lib.hid hL8
    have HCE := Lib.hid cells
    have i0 : (0 : Int) ≤ (i : Int) := by omega
    have i1 : (i : Int) < (m : Int) := by omega
    have i2 : ¬ ((i : Int) < 0) := by omega
    clear hl hL8 cells hpl hm HP hri hrow hent c2 hFb hcc
    go_enter Try.func25, Try.ntmps25
    go_wp2_with fail
    refine HC.out.mono ?_
    rintro e w1 ⟨rfl, hb1⟩
    have d0 := (hb1.cell (p := ⟨bm, 0, none⟩) hbml).trans c0
    have d1 := (hb1.cell (p := ⟨g, i * 3 + 1, none⟩) hgl).trans c1
    go_wp2
    go_loop [8, 9] (fun v z => ∃ q : Nat, q ≤ 8 ∧ z = .int .i64 (7 - (q : Int)) ∧ v = .int .u64 (wordOf (L.drop (8 - q)) : Nat)) (fun _ z => (intOf z + 1).toNat)
    case atStart => exact ⟨0, by omega, rfl, by rw [List.drop_eq_nil_of_le (by have := HL8.out; omega)]; rfl⟩
    case round =>
      obtain ⟨q, hq, rfl, rfl⟩ := hrel
      by_cases h8 : q = 8
      · subst h8
        go_wp2
        go_ret2
        exact ⟨by rw [HL.out]; simp [loadOut], hb1⟩
      · obtain ⟨j, hj⟩ : ∃ j, q + j = 7 := ⟨7 - q, by omega⟩
        have hzj : (7 : Int) - (q : Int) = (j : Int) := by omega
        obtain ⟨x, hx⟩ : ∃ x, L[j]? = some x := ⟨_, List.getElem?_eq_getElem (by have := HL8.out; omega)⟩
        have hcx := (hb1.cell (p := ⟨bb, k + j, none⟩) hbbl).trans (HCE.out j x hx)
        have hlt := wordOf_drop_lt HL8.out (q := q) (by omega)
        have hor := or_step2 hlt x.toNat_lt
        have hst := wordOf_drop hx
        rw [show j + 1 = 8 - q by omega] at hst
        rw [← hst] at hor
        rw [hzj]
        have HJ := Lib.hid hj
        have j0 : (0 : Int) ≤ (k : Int) + (j : Int) := by omega
        have j1 : (k : Int) + (j : Int) < (r.bytes.length : Int) := by omega
        have j2 : IntKind.i64.wrap ((k : Int) + (j : Int)) = (k : Int) + (j : Int) := IntWalk.i64_in _ (by omega)
        have j3 : ((k : Int) + (j : Int)).toNat = k + j := by omega
        simp only [byteV] at hcx
        generalize hV : wordOf (L.drop (8 - q)) = V at *
        generalize hV2 : wordOf (L.drop j) = V2 at *
        have HV2 := Lib.hid hV2
        clear hst hx hzj hj hV hV2
        go_wp2
        go_round
        case rel => exact ⟨q + 1, by omega, by have := HJ.out; congr 1; omega, by rw [show 8 - (q + 1) = j by have := HJ.out; omega, HV2.out]⟩
        case measure => have := HJ.out; simp [intOf]

set_option maxRecDepth 100000 in
set_option maxHeartbeats 800000 in
theorem RBytes_any (p : Value) (w : World) (F : Nat → Prop) (rs : List Reg) (at_ n : Nat) (hn : n ≤ 9223372036854775807) (hat : at_ < 18446744073709551616) (hm : RMemAt w F p rs) :
    Calls Try.prog 26 #[p, .int .u64 at_, .int .i64 n] w fun e w' => e = .returned (bytesOut (bytesF rs at_ n)) ∧ Below w.heap.size w w' := by
  have HP := place_any p w F rs at_ n hn hat hm
  have hn0 : (0 : Int) ≤ (n : Int) := by omega
  cases hpl : placeF rs at_ n with
  | none =>
    obtain ⟨bm, hp⟩ : ∃ bm, p = .pointer (some ⟨bm, 0, none⟩) := by obtain ⟨bm, v, h, _⟩ := hm; exact ⟨bm, h⟩
    subst hp
    have HC := Lib.hid (placeNo HP hpl)
    have hl : bytesF rs at_ n = none := by simp only [bytesF, hpl]
    have HL := Lib.hid hl
    clear hl hpl hm HP
    go_enter Try.func26, Try.ntmps26
    go_wp2_with ((with_reducible refine (HC.out).mono ?_); rintro e w1 ⟨rfl, hb1⟩)
    go_ret2
    exact ⟨by rw [HL.out]; rfl, hb1⟩
  | some ik =>
    obtain ⟨i, k⟩ := ik
    have HC := Lib.hid (placeYes HP hpl)
    obtain ⟨bm, g, bb, r, m, c, cc, rfl, hri, him, hm8, hkn, hkl, hcc, hbig, hFb, hbmb, hgb, hbml, hgl, hbbl, c0, c1, c2, hrow, hent⟩ := place_at hm hpl
    have hl : bytesF rs at_ n = some ((r.bytes.drop k).take n) := by simp only [bytesF, hpl, hri]
    have HL := Lib.hid hl
    have hlen : ((r.bytes.drop k).take n).length = n := by simp; omega
    have hconv : ∀ w1 : World, Below w.heap.size w w1 → (convert 34 9 (.slice (some ⟨bb, k, none⟩) n (cc - k))).run Try.prog w1 = .ok (strV ((r.bytes.drop k).take n)) w1 := by
      intro w1 hb
      have h := run_convert_bytes_back (P := Try.prog) w1 34 9 5 ⟨bb, k, none⟩ (cc - k) ((r.bytes.drop k).take n) Try.underlying34 Try.underlying5 Try.underlying9 (fun j hj => by
        have hx : (byteRows r.bytes)[k + j]? = some [byteV ((r.bytes.drop k).take n)[j]] := by
          rw [byteRows, List.getElem?_map, List.getElem_take, List.getElem_drop, List.getElem?_eq_getElem (by omega)]; rfl
        have h2 := hrow.cell hx (j := 0) (by rfl)
        have h3 : Addr.add ⟨bb, k, none⟩ j = ⟨bb, k + j, none⟩ := by unfold Addr.add; split <;> simp_all
        rw [h3, hb.cell (p := ⟨bb, k + j, none⟩) hbbl]
        simpa [byteV] using h2)
      rw [hlen] at h
      exact h
    have HCONV := Lib.hid hconv
    have i0 : (0 : Int) ≤ (i : Int) := by omega
    have i1 : (i : Int) < (m : Int) := by omega
    have i2 : ¬ ((i : Int) < 0) := by omega
    have wkn : IntKind.i64.wrap ((k : Int) + (n : Int)) = (k : Int) + (n : Int) := IntWalk.i64_in _ (by omega)
    have j0 : (0 : Int) ≤ (k : Int) := by omega
    have j1 : (k : Int) ≤ (k : Int) + (n : Int) := by omega
    have j2 : (k : Int) + (n : Int) ≤ (cc : Int) := by omega
    have j3 : ((k : Int) + (n : Int)).toNat = k + n := by omega
    have j4 : (cc = k) = False := by simp; omega
    clear hl hlen hconv hpl hm HP hri hrow hent c2 hFb
    go_enter Try.func26, Try.ntmps26
    go_wp2_with ((with_reducible refine (HC.out).mono ?_); rintro e w1 ⟨rfl, hb1⟩; have d0 := (hb1.cell (p := ⟨bm, 0, none⟩) hbml).trans c0; have d1 := (hb1.cell (p := ⟨g, i * 3 + 1, none⟩) hgl).trans c1; have hcv := HCONV.out w1 hb1)
    go_ret2
    exact ⟨by rw [HL.out]; rfl, hb1⟩

set_option maxHeartbeats 400000 in
theorem RBytes_neg (p : Value) (w : World) (at_ : Nat) (n : Int) (hn : n < 0) :
    Calls Try.prog 26 #[p, .int .u64 at_, .int .i64 n] w fun e w' => e = .returned (.tuple #[strV [], .int .i64 2]) ∧ w = w' := by
  go_enter Try.func26, Try.ntmps26
  go_wp2
  go_ret2
  exact ⟨rfl, rfl⟩

set_option maxHeartbeats 800000 in
theorem RNew_any (v : Value) (w : World) (F : Nat → Prop) (l : List Reg) (hn : l.length ≤ 9223372036854775807) (hl : RegsAt w F v l) (hF : ∀ k, F k → k < w.heap.size) :
    Calls Try.prog 21 #[v] w fun e w' => Below w.heap.size w w' ∧ ((checkF l ≠ 0 ∧ e = .returned (.tuple #[.pointer none, .int .i64 (checkF l)])) ∨
      (checkF l = 0 ∧ ∃ p, e = .returned (.tuple #[p, .int .i64 0]) ∧ RMemAt w' (seg w.heap.size w'.heap.size) p (sortBy Reg.base l))) := by
  have HC := Lib.hid (RefCheck_any v w F l hn hl hF)
  have hbase : ∀ r ∈ l, r.base < 18446744073709551616 := by
    obtain ⟨P, hP, _, hs⟩ := hl
    intro r hr
    rw [← hP] at hr
    obtain ⟨x, hx, rfl⟩ := List.mem_map.1 hr
    exact (hs x hx).base64
  have HO := fun (h0 : checkF l = 0) (w1 : World) (hb : Below w.heap.size w w1) => RefOwn_any v w1 F l (hl.below hb hF) (fun k hk => by have := hF k hk; have := hb.size; omega)
    (by have := (good_of_check h0 hbase).len; rw [sortBy_length] at this; omega) (fun r hr => (good_of_check h0 hbase).bytes r ((sortBy_perm _ _).mem_iff.2 hr))
  have HG := fun (h0 : checkF l = 0) => good_of_check h0 hbase
  have HO := Lib.hid HO
  have HG := Lib.hid HG
  obtain ⟨A, c, rfl, _⟩ := hl.form
  clear hl hF hbase
  by_cases h0 : checkF l = 0
  · rw [h0] at HC
    have H0 := Lib.hid h0
    clear h0
    go_enter Try.func21, Try.ntmps21
    go_wp2_with (first | ((with_reducible refine (HC.out).mono ?_); rintro e w1 ⟨rfl, hb1⟩) | ((with_reducible refine (HO.out H0.out _ hb1).mono ?_); rintro e w2 ⟨v1, rfl, hown1, hb2⟩; obtain ⟨A1, c1, P1, rfl, hrest⟩ := hown1; have HO1 := Lib.hid hrest; clear hrest))
    go_ret2
    have hs := hb1.size
    refine ⟨(hb1.trans (hb2.mono hs)).trans ((Below.refl _ _).alloc (Nat.le_trans hs hb2.size) _), .inr ⟨H0.out, _, rfl, ?_⟩⟩
    exact rmem_new (RegsOwn.mono ⟨A1, c1, P1, rfl, HO1.out⟩ (fun k hk => ⟨Nat.le_trans hs hk.1, hk.2⟩)) (HG.out H0.out) (Nat.le_trans hs hb2.size)
  · have hne : (checkF l != 0) = true := by rw [bne_iff_ne]; exact h0
    have H0 := Lib.hid h0
    clear h0
    generalize checkF l = ce at *
    go_enter Try.func21, Try.ntmps21
    go_wp2_with ((with_reducible refine (HC.out).mono ?_); rintro e w1 ⟨rfl, hb1⟩)
    go_ret2
    exact ⟨hb1, .inl ⟨H0.out, rfl⟩⟩
end Go.Proofs.Ytcciaihghhleoaa
