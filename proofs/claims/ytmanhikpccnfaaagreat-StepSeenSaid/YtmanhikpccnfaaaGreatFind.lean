/- (*memory.Memory).find, and the search that it calls. -/
import Derived.Test.YtmanhikpccnfaaaGreatPlainMem
import Derived.Test.YtmanhikpccnfaaaGreatOwn
namespace Go.Proofs.YtmanhikpccnfaaaGreat
open Go.RowKit

set_option maxHeartbeats 400000 in
theorem find1_any (r : Reg) (at_ : Nat) (w : World) (A : Option Addr) (c : Nat) :
    Calls Tryz.prog 134 #[regV r A c, .int .u64 at_] w fun e w' => e = .returned (.int .i64 (if lastOf r < at_ then -1 else 1)) ∧ Below w.heap.size w w' := by
  obtain ⟨W, hW, hbw, hsz, hnew, hold⟩ := boxed w #[.int .u64 r.base, .slice A r.bytes.length c, .bool r.write] 38
  have HW := Lib.hid hW
  have n0 := hnew 0
  have n1 := hnew 1
  have n2 := hnew 2
  have m0 : w.heap.size < W.heap.size := by omega
  clear hW hnew hold hsz
  unfold regV
  by_cases h : lastOf r < at_
  · have hd : decide (lastOf r < at_) = true := by simpa using h
    rw [if_pos h]
    go_enter Tryz.func134, Tryz.ntmps134
    go_wp2_with (go_at_call 53; refine (last_any _ _ _ _).mono ?_; rintro e w1 ⟨rfl, hb1⟩)
    go_ret
    exact ⟨rfl, hbw.trans ((HW.out ▸ hb1).mono hbw.size)⟩
  · have hd : decide (lastOf r < at_) = false := by simpa using h
    rw [if_neg h]
    go_enter Tryz.func134, Tryz.ntmps134
    go_wp2_with (go_at_call 53; refine (last_any _ _ _ _).mono ?_; rintro e w1 ⟨rfl, hb1⟩)
    go_ret
    exact ⟨rfl, hbw.trans ((HW.out ▸ hb1).mono hbw.size)⟩

set_option maxRecDepth 100000 in
set_option maxHeartbeats 800000 in
theorem BinarySearch_any (A : Option Addr) (n c : Nat) (w : World) (F : Nat → Prop) (rs : List Reg) (at_ : Nat) (hl : RegsAt w F (.slice A n c) rs) (hF : ∀ k, F k → k < w.heap.size) (hg : Good rs) :
    Calls Tryz.prog 133 #[.slice A n c, .int .u64 at_, .func (.func 134) #[] #[]] w fun e w' =>
      e = .returned (.tuple #[.int .i64 (findI rs at_), .bool false]) ∧ Below w.heap.size w w' := by
  obtain ⟨hnl, hnc⟩ := hl.len
  have hn8 := hg.len
  rw [← hnl] at hn8
  have HNL := Lib.hid hnl
  have HL := Lib.hid hl
  have HF := Lib.hid hF
  have HG := Lib.hid hg
  clear hnl hl hF hg
  go_enter Tryz.func133, Tryz.ntmps133
  go_wp2
  go_loopw [9, 10, 11] (fun i j _ wr => ∃ p q : Nat, p ≤ q ∧ q ≤ n ∧ i = .int .i64 p ∧ j = .int .i64 q ∧ Below w.heap.size w wr ∧ (∀ (k : Nat) (r : Reg), k < p → rs[k]? = some r → lastOf r < at_) ∧ (∀ (k : Nat) (r : Reg), q ≤ k → rs[k]? = some r → at_ ≤ lastOf r)) (fun i j _ _ => (intOf j).toNat - (intOf i).toNat)
  case atStart => exact ⟨0, n, by omega, by omega, rfl, rfl, Below.refl _ _, fun k r hk => absurd hk (by omega), fun k r hk hr => by
    have := HNL.out
    rw [List.getElem?_eq_none (by omega)] at hr; cases hr⟩
  case round =>
    obtain ⟨p, q, hpq, hqn, rfl, rfl, hbl, hlo, hhi⟩ := hrel
    have HLO := Lib.hid hlo
    have HHI := Lib.hid hhi
    clear hlo hhi
    by_cases hlt : p < q
    · obtain ⟨m, hm⟩ : ∃ m : Nat, ((p : Int) + q) / 2 = m := ⟨(p + q) / 2, by omega⟩
      have hpm : p ≤ m := by omega
      have hmq : m < q := by omega
      have h0 : (0 : Int) ≤ (p : Int) + q := by omega
      have h1 : (p : Int) + q ≤ 16 := by omega
      have h2 : (0 : Int) ≤ (m : Int) := by omega
      have h3 : (m : Int) < (n : Int) := by omega
      obtain ⟨r, hr⟩ : ∃ r, rs[m]? = some r := ⟨_, List.getElem?_eq_getElem (by have := HNL.out; omega)⟩
      obtain ⟨b, off, A', c', rfl, hFb, h0, h1, h2, hby, hb64, hlen⟩ := HL.out.at_ hr
      have hb := HF.out b hFb
      have g0 := (hbl.cell (p := ⟨b, off + m * 3, none⟩) hb).trans h0
      have g1 := (hbl.cell (p := ⟨b, off + m * 3 + 1, none⟩) hb).trans h1
      have g2 := (hbl.cell (p := ⟨b, off + m * 3 + 2, none⟩) hb).trans h2
      have HR := Lib.hid hr
      have HC := Lib.hid (find1_any r at_ wr A' c')
      clear h0 h1 h2 hby hr
      unfold regV at HC
      by_cases hc : lastOf r < at_
      · rw [if_pos hc] at HC
        have HCC := Lib.hid hc
        clear hc
        go_wp2_with ((with_reducible refine (HC.out).mono ?_); rintro e w1 ⟨rfl, hb1⟩)
        go_roundw
        case rel => exact ⟨m + 1, q, by omega, by omega, by go_num, rfl, hbl.trans (hb1.mono hbl.size), fun k r' hk hr' => Nat.lt_of_le_of_lt (last_mono HG.out hr' HR.out (by omega)) HCC.out, HHI.out⟩
        case measure => simp [intOf]; omega
      · rw [if_neg hc] at HC
        have HCC := Lib.hid hc
        clear hc
        go_wp2_with ((with_reducible refine (HC.out).mono ?_); rintro e w1 ⟨rfl, hb1⟩)
        go_roundw
        case rel => exact ⟨p, m, by omega, by omega, rfl, rfl, hbl.trans (hb1.mono hbl.size), HLO.out, fun k r' hk hr' => Nat.le_trans (Nat.not_lt.1 HCC.out) (last_mono HG.out HR.out hr' hk)⟩
        case measure => simp [intOf]; omega
    · obtain rfl : p = q := by omega
      have hfi : findI rs at_ = p := findI_eq (by have := HNL.out; omega) HLO.out (fun r hr => HHI.out p r (Nat.le_refl _) hr)
      have HFI := Lib.hid hfi
      clear hfi
      by_cases hpn : p < n
      · obtain ⟨r, hr⟩ : ∃ r, rs[p]? = some r := ⟨_, List.getElem?_eq_getElem (by have := HNL.out; omega)⟩
        have hge := HHI.out p r (Nat.le_refl _) hr
        obtain ⟨b, off, A', c', rfl, hFb, h0, h1, h2, hby, hb64, hlen⟩ := HL.out.at_ hr
        have hb := HF.out b hFb
        have g0 := (hbl.cell (p := ⟨b, off + p * 3, none⟩) hb).trans h0
        have g1 := (hbl.cell (p := ⟨b, off + p * 3 + 1, none⟩) hb).trans h1
        have g2 := (hbl.cell (p := ⟨b, off + p * 3 + 2, none⟩) hb).trans h2
        have hc := fun w => find1_any r at_ w A' c'
        unfold regV at hc
        rw [if_neg (by omega)] at hc
        have HC := Lib.hid hc
        have hd : decide (p < n) = true := by simpa using hpn
        have i1 : (p : Int) < (n : Int) := by omega
        have i0 : (0 : Int) ≤ (p : Int) := by omega
        have e1 : ((1 : Int) == 0) = false := rfl
        clear h0 h1 h2 hby hr hge hc
        go_wp2_with ((with_reducible refine (HC.out _).mono ?_); rintro e w1 ⟨rfl, hb1⟩)
        go_ret2
        exact ⟨(by rw [HFI.out]; rfl), hbl.trans (hb1.mono hbl.size)⟩
      · have hd : decide (p < n) = false := by simpa using hpn
        have hdi : ((p : Int) < (n : Int)) = False := by simp; omega
        go_wp2
        go_ret2
        exact ⟨(by rw [HFI.out]; rfl), hbl⟩
/-- A memory: a block of one cell, that holds regions of its own, in order. -/
def MemAt (w : World) (F : Nat → Prop) (p : Value) (rs : List Reg) : Prop :=
  ∃ bm v, p = .pointer (some ⟨bm, 0, none⟩) ∧ F bm ∧ w.heap[bm]? = some (.cells #[v] 75 (0, 0)) ∧ RegsOwn w F v rs ∧ Good rs

theorem MemAt.keep {w w' : World} {F : Nat → Prop} {p : Value} {rs : List Reg} (h : MemAt w F p rs) (hk : SameOn F w w') : MemAt w' F p rs := by
  obtain ⟨bm, v, h1, h2, h3, h4, h5⟩ := h
  exact ⟨bm, v, h1, h2, (hk bm h2).trans h3, h4.keep hk, h5⟩

theorem lt_of_block {w : World} {g : Nat} {o : Obj} (h : w.heap[g]? = some o) : g < w.heap.size := by
  rcases Nat.lt_or_ge g w.heap.size with h' | h'
  · exact h'
  · rw [Array.getElem?_eq_none h'] at h; cases h

theorem RegsOwn.ent {w : World} {F : Nat → Prop} {A : Option Addr} {n c i : Nat} {l : List Reg} {r : Reg} (h : RegsOwn w F (.slice A n c) l) (hr : l[i]? = some r) :
    ∃ g bb cc, A = some ⟨g, 0, none⟩ ∧ F g ∧ F bb ∧ g < w.heap.size ∧ bb < w.heap.size ∧ w.cell? ⟨g, i * 3, none⟩ = some (.int .u64 r.base) ∧ w.cell? ⟨g, i * 3 + 1, none⟩ = some (.slice (some ⟨bb, 0, none⟩) r.bytes.length cc) ∧
      w.cell? ⟨g, i * 3 + 2, none⟩ = some (.bool r.write) ∧ r.bytes.length ≤ cc ∧ RowsBlk w bb 5 1 (byteRows r.bytes) := by
  obtain ⟨A', c', P, hv, hlc, hfst, hent, hnd, hblk⟩ := h
  cases hv
  obtain ⟨g, hA, hFg, hrow⟩ := hblk (fun e => by rw [e] at hr; cases hr)
  rw [← hfst, List.getElem?_map] at hr
  cases hpk : P[i]? with
  | none => rw [hpk] at hr; cases hr
  | some x =>
    rw [hpk] at hr
    cases hr
    have hx := hent x (List.mem_of_getElem? hpk)
    obtain ⟨bb, hb1, hb2, hb3⟩ := hx.blk
    have hri : (P.map fun x => entRow x.2)[i]? = some (entRow x.2) := by rw [List.getElem?_map, hpk]; rfl
    have c0 := hrow.cell hri (j := 0) (by rfl)
    have c1 := hrow.cell hri (j := 1) (by rfl)
    have c2 := hrow.cell hri (j := 2) (by rfl)
    rw [hx.key] at c0
    rw [hb1, hx.n] at c1
    rw [hx.wr] at c2
    have hcap := hx.cap
    rw [hx.n] at hcap
    exact ⟨g, bb, x.2.c, hA, hFg, hb2, hrow.lt, hb3.lt, c0, c1, c2, hcap, hb3⟩

/-- The memory's region number i has its bytes in block bb. -/
def EntryAt (w : World) (p : Value) (i bb n c : Nat) : Prop :=
  ∃ bm g m c', p = .pointer (some ⟨bm, 0, none⟩) ∧ w.cell? ⟨bm, 0, none⟩ = some (.slice (some ⟨g, 0, none⟩) m c') ∧ w.cell? ⟨g, i * 3 + 1, none⟩ = some (.slice (some ⟨bb, 0, none⟩) n c)

/-- What find hands back: nothing, or bytes in place. -/
def FindOut (w : World) (F : Nat → Prop) (p : Value) (rs : List Reg) (at_ n : Nat) (v : Value) : Prop :=
  (placeF rs at_ n = none ∧ v = .tuple #[.slice none 0 0, .bool false]) ∨
  (∃ i k r bb c, placeF rs at_ n = some (i, k) ∧ rs[i]? = some r ∧ F bb ∧ k + n ≤ r.bytes.length ∧ k < r.bytes.length ∧ r.bytes.length ≤ c ∧ RowsBlk w bb 5 1 (byteRows r.bytes) ∧ EntryAt w p i bb r.bytes.length c ∧ v = .tuple #[.slice (some ⟨bb, k, none⟩) n (c - k), .bool r.write])

set_option maxRecDepth 100000 in
set_option maxHeartbeats 800000 in
theorem find_any (p : Value) (w : World) (F : Nat → Prop) (rs : List Reg) (at_ n : Nat) (hn : n ≤ 9223372036854775807) (hat : at_ < 18446744073709551616) (hm : MemAt w F p rs) (hF : ∀ k, F k → k < w.heap.size) :
    Calls Tryz.prog 127 #[p, .int .u64 at_, .int .i64 n] w fun e w' => ∃ v, e = .returned v ∧ FindOut w' F p rs at_ n v ∧ Below w.heap.size w w' := by
  obtain ⟨bm, v, rfl, hbm, hblk, hown, hgood⟩ := hm
  have hat2 := hown.at_ hgood.base
  obtain ⟨A, c, rfl, hlc⟩ := hat2.form
  have hcell : w.cell? ⟨bm, 0, none⟩ = some (.slice A rs.length c) := by simp [World.cell?, hblk]
  have hbl := lt_of_block hblk
  have HB := Lib.hid (BinarySearch_any A rs.length c w F rs at_ hat2 hF hgood)
  have HAT := Lib.hid hat2
  have HOWN := Lib.hid hown
  have HG := Lib.hid hgood
  have HF := Lib.hid hF
  have h8 := hgood.len
  clear hat2 hown hgood hblk hF
  generalize hrl : rs.length = nr at *
  have HRL := Lib.hid hrl
  clear hrl
  generalize hfi : findI rs at_ = i at *
  have HFI := Lib.hid hfi
  clear hfi
  rcases hri : rs[i]? with _ | r
  · have hi : i = nr := by
      have h1 := HRL.out
      have h2 : findI rs at_ ≤ rs.length := List.findIdx_le_length
      rw [HFI.out] at h2
      rcases Nat.lt_or_ge i rs.length with h | h
      · rw [List.getElem?_eq_getElem h] at hri; cases hri
      · omega
    subst hi
    have hp : placeF rs at_ n = none := by simp only [placeF, HFI.out, hri]
    have HP := Lib.hid hp
    clear hp hri
    go_enter Tryz.func127, Tryz.ntmps127
    go_wp2_with ((with_reducible refine (HB.out).mono ?_); rintro e w1 ⟨rfl, hb1⟩; have hcell1 := (hb1.cell (p := ⟨bm, 0, none⟩) hbl).trans hcell)
    go_ret2
    exact ⟨_, rfl, .inl ⟨HP.out, rfl⟩, hb1⟩
  · obtain ⟨g, bb, cc, rfl, hFg, hFb, hgl, hbbl, c0, c1, c2, hcap, hrow⟩ := HOWN.out.ent hri
    have hir : i < nr := by have := HRL.out; have := (List.getElem?_eq_some_iff.1 hri).1; omega
    have i0 : (0 : Int) ≤ (i : Int) := by omega
    have i1 : (i : Int) < (nr : Int) := by omega
    have ib : ((i : Int) == (nr : Int)) = false := by rw [beq_eq_false_iff_ne]; omega
    have ib2 : (i == nr) = false := by rw [beq_eq_false_iff_ne]; omega
    have HROW := Lib.hid hrow
    have HRI := Lib.hid hri
    clear hrow hri
    by_cases hlo : at_ < r.base
    · have hp : placeF rs at_ n = none := by simp only [placeF, HFI.out, HRI.out, if_pos hlo]
      have HP := Lib.hid hp
      have hd : decide (at_ < r.base) = true := by simpa using hlo
      clear hp hlo
      go_enter Tryz.func127, Tryz.ntmps127
      go_wp2_with ((with_reducible refine (HB.out).mono ?_); rintro e w1 ⟨rfl, hb1⟩; have hcell1 := (hb1.cell (p := ⟨bm, 0, none⟩) hbl).trans hcell; have d0 := (hb1.cell (p := ⟨g, i * 3, none⟩) hgl).trans c0)
      go_ret2
      exact ⟨_, rfl, .inl ⟨HP.out, rfl⟩, hb1⟩
    · have hd : decide (at_ < r.base) = false := by simpa using hlo
      obtain ⟨k, hk⟩ : ∃ k, at_ = r.base + k := ⟨at_ - r.base, by omega⟩
      have hgl2 := HG.out.last r (List.mem_of_getElem? HRI.out)
      have hend := HG.out.end_ r (List.mem_of_getElem? HRI.out)
      have hpos := HG.out.pos r (List.mem_of_getElem? HRI.out)
      have hbig := (HG.out.bytes r (List.mem_of_getElem? HRI.out)).2
      have hle : at_ ≤ lastOf r := by
        have h1 := HRI.out
        rw [← HFI.out] at h1
        exact findI_le h1
      have hkl : k < r.bytes.length := by omega
      obtain ⟨d, hdd⟩ : ∃ d, r.bytes.length = k + d := ⟨r.bytes.length - k, by omega⟩
      have hsub : (at_ : Int) - (r.base : Int) = (k : Int) := by omega
      have hsub2 : ((r.bytes.length : Nat) : Int) - (k : Int) = (d : Int) := by omega
      have wk : IntKind.u64.wrap (k : Int) = (k : Int) := by rw [wrapU]; omega
      have wd : IntKind.u64.wrap (d : Int) = (d : Int) := by rw [wrapU]; omega
      have wn : IntKind.u64.wrap (n : Int) = (n : Int) := by rw [wrapU]; omega
      have wl : IntKind.u64.wrap (r.bytes.length : Int) = (r.bytes.length : Int) := by rw [wrapU]; omega
      have HK := Lib.hid hk
      have HDD := Lib.hid hdd
      have HKL := Lib.hid hkl
      have HCAP := Lib.hid hcap
      have HLO := Lib.hid hlo
      clear hk hdd hgl2 hend hpos hle hlo hkl hcap
      by_cases hnd : d < n
      · have hp : placeF rs at_ n = none := by
          have h1 := HK.out; have h2 := HDD.out
          simp only [placeF, HFI.out, HRI.out]
          rw [if_neg HLO.out, if_pos (by omega)]
        have HP := Lib.hid hp
        have hd2 : decide (d < n) = true := by simpa using hnd
        clear hp hnd
        go_enter Tryz.func127, Tryz.ntmps127
        go_wp2_with ((with_reducible refine (HB.out).mono ?_); rintro e w1 ⟨rfl, hb1⟩; have hcell1 := (hb1.cell (p := ⟨bm, 0, none⟩) hbl).trans hcell; have d0 := (hb1.cell (p := ⟨g, i * 3, none⟩) hgl).trans c0; have d1 := (hb1.cell (p := ⟨g, i * 3 + 1, none⟩) hgl).trans c1; have d2 := (hb1.cell (p := ⟨g, i * 3 + 2, none⟩) hgl).trans c2; have hgl1 : g < w1.heap.size := Nat.lt_of_lt_of_le hgl hb1.size)
        go_ret2
        exact ⟨_, rfl, .inl ⟨HP.out, rfl⟩, hb1.trans ((Below.refl _ _).alloc hb1.size _)⟩
      · have hp : placeF rs at_ n = some (i, k) := by
          have h1 := HK.out; have h2 := HDD.out
          simp only [placeF, HFI.out, HRI.out]
          rw [if_neg HLO.out, if_neg (by omega)]
          simp; omega
        have HP := Lib.hid hp
        have hd2 : decide (d < n) = false := by simpa using hnd
        have wkn : IntKind.u64.wrap ((k : Int) + (n : Int)) = (k : Int) + (n : Int) := by have := HDD.out; rw [wrapU]; omega
        have j0 : (0 : Int) ≤ (k : Int) := by omega
        have j1 : (k : Int) ≤ (k : Int) + (n : Int) := by omega
        have j2 : (k : Int) + (n : Int) ≤ (cc : Int) := by have := HDD.out; have := HCAP.out; omega
        have j3 : ((k : Int) + (n : Int)).toNat = k + n := by omega
        have j4 : (cc = k) = False := by have := HKL.out; have := HCAP.out; simp; omega
        clear hp hnd
        go_enter Tryz.func127, Tryz.ntmps127
        go_wp2_with ((with_reducible refine (HB.out).mono ?_); rintro e w1 ⟨rfl, hb1⟩; have hcell1 := (hb1.cell (p := ⟨bm, 0, none⟩) hbl).trans hcell; have d0 := (hb1.cell (p := ⟨g, i * 3, none⟩) hgl).trans c0; have d1 := (hb1.cell (p := ⟨g, i * 3 + 1, none⟩) hgl).trans c1; have d2 := (hb1.cell (p := ⟨g, i * 3 + 2, none⟩) hgl).trans c2; have hgl1 : g < w1.heap.size := Nat.lt_of_lt_of_le hgl hb1.size)
        obtain ⟨W, hW, hbw, hsz, hnew, hold⟩ := boxed w1 #[.int .u64 r.base, .slice (some ⟨bb, 0, none⟩) r.bytes.length cc, .bool r.write] 38
        have n0 := hnew 0
        have n1 := hnew 1
        have n2 := hnew 2
        have m0 : w1.heap.size < W.heap.size := by omega
        rw [← hW]
        have HW := Lib.hid hW
        clear hW hnew hold hsz
        (refine wp_region_lines (Below W.heap.size W) (by kernel_rfl) (by kernel_rfl) (Below.refl _ _).drew ?_)
        have hS := (Below.refl W.heap.size W).drew
        (try simp only [])
        repeat (first | (refine runL_no (by rfl) ?_; (try simp only [Act.put, List.setIfInBounds_toArray, List.set_cons_zero, List.set_cons_succ])) | (refine runL_val (v := ?_) (by rfl) ?_ ?_; rotate_left; (focus (intro w_ hw_; have hc_ := bcell hw_; go_simp; (try with_reducible rfl); done)); (try simp only [Act.put, List.setIfInBounds_toArray, List.set_cons_zero, List.set_cons_succ])))
        (refine runL_nil ?_)
        go_wp2
        go_ret2
        have hall := (hb1.trans (hbw.mono hb1.size)).trans (hS.mono (Nat.le_trans hb1.size hbw.size))
        exact ⟨_, rfl, .inr ⟨i, k, r, bb, cc, HP.out, HRI.out, hFb, by have := HDD.out; have := of_decide_eq_false hd2; omega, HKL.out, HCAP.out, HROW.out.keep (hall.block bb hbbl), ⟨bm, g, nr, c, rfl, (hall.cell (p := ⟨bm, 0, none⟩) hbl).trans hcell, (hall.cell (p := ⟨g, i * 3 + 1, none⟩) hgl).trans c1⟩, rfl⟩, hall⟩
end Go.Proofs.YtmanhikpccnfaaaGreat
