/- alloc.Live; kit's Pick, LightProg. -/
import Derived.Test.YtppoiahhaclleaaDoorAllocC
import Derived.Test.YtppoiahhaclleaaDoorPick
namespace Go.Proofs.YtppoiahhaclleaaDoor
open Go.RowKit

def spanRow (s : Int × Int) : List Value := [.int .i64 s.1, .int .i64 s.2]
theorem spV_rows (sp : List (Int × Int)) : spV sp = (sp.map spanRow).flatten := rfl
theorem rows_own {w : World} {base e sz : Nat} {v : Value} {rows : List (List Value)} (h : w.ownsRow base e sz v rows.length rows.flatten) (hsz : ∀ r ∈ rows, r.length = sz) : Rows w (fun k => v.ownBlock = some k) sz v rows := by
  rcases Nat.eq_zero_or_pos rows.length with h0 | hpos
  · obtain rfl := List.eq_nil_of_length_eq_zero h0
    rcases h.2 with ⟨rfl, _⟩ | ⟨g, cap, cur, rfl, _, _, hnc, _⟩
    · exact ⟨none, 0, rfl, by simp, by simp, fun h => absurd rfl h⟩
    · exact ⟨_, cap, rfl, by simp, by simp, fun h => absurd rfl h⟩
  · obtain ⟨g, cap, rfl, hg, hnc, hrow⟩ := rowsBlk_of_own h hsz hpos
    refine ⟨_, cap, by simp, by simpa using hnc, hsz, fun _ => ⟨g, 0, rfl, rfl, fun i j r u hr hu => ?_⟩⟩
    rw [Nat.zero_add]
    exact hrow.cell hr hu
theorem spV_append (a b : List (Int × Int)) : spV (a ++ b) = spV a ++ spV b := by simp [spV]
theorem info2 : (Tryd.prog.info? 43).map (fun i => (i.zero, i.size, i.bytes)) = some (some (.agg #[.int .i64 0, .int .i64 0]), 2, 16) := by kernel_rfl

set_option maxRecDepth 100000 in
set_option maxHeartbeats 4000000 in
theorem Live_bad (p : LP) (Ab Ao : Option Addr) (nb cb no co : Nat) (w : World) (hp : ProgAt w (fun k => k < w.heap.size) [.int .i64 p.regs, .slice Ab nb cb, .slice Ao no co] p) (h0 : (checkF p 64).2 ≠ 0) :
    Calls Tryd.prog 20 #[.agg #[.int .i64 p.regs, .slice Ab nb cb, .slice Ao no co]] w fun e w' => e = .returned (.slice none 0 0) ∧ Below w.heap.size w w' := by
  obtain ⟨W, hW, hbW, hzW, hl_, hr_⟩ := boxed w #[.int .i64 p.regs, .slice Ab nb cb, .slice Ao no co] 25
  have c0 : W.cell? ⟨w.heap.size, 0, none⟩ = some (.int .i64 p.regs) := by rw [hl_]; rfl
  have c1 : W.cell? ⟨w.heap.size, 1, none⟩ = some (.slice Ab nb cb) := by rw [hl_]; rfl
  have c2 : W.cell? ⟨w.heap.size, 2, none⟩ = some (.slice Ao no co) := by rw [hl_]; rfl
  have HC := Lib.hid (check_any p Ab Ao nb cb no co W (prog_next hp hbW))
  have HW := Lib.hid hW
  have HB := Lib.hid hbW
  obtain ⟨x, hx⟩ : ∃ x, (checkF p 64).1 = x := ⟨_, rfl⟩
  obtain ⟨y, hy⟩ : ∃ x, (checkF p 64).2 = x := ⟨_, rfl⟩
  rw [hx, hy] at HC
  rw [hy] at h0
  have d0 : (y != 0) = true := by simpa using h0
  clear hW hbW hzW hl_ hr_ hp hx hy h0
  go_enter Tryd.func20, Tryd.ntmps20
  go_upto_region 1 with fail
  rw [← HW.out]
  go_wp2_with ((with_reducible refine (HC.out).mono ?_); rintro e w1 ⟨rfl, hb1⟩)
  go_ret
  exact ⟨rfl, HB.out.trans (hb1.mono HB.out.size)⟩

set_option maxRecDepth 100000 in
set_option maxHeartbeats 4000000 in
theorem Live_ok (p : LP) (Ab Ao : Option Addr) (nb cb no co n : Nat) (w : World) (hp : ProgAt w (fun k => k < w.heap.size) [.int .i64 p.regs, .slice Ab nb cb, .slice Ao no co] p) (h0 : (checkF p 64).2 = 0) (hn : p.regs = n) :
    Calls Tryd.prog 20 #[.agg #[.int .i64 p.regs, .slice Ab nb cb, .slice Ao no co]] w fun e w' => ∃ A c, e = .returned (.slice A n c) ∧ Below w.heap.size w w' ∧ Rows w' (New w w') 2 (.slice A n c) ((spansF p).map spanRow) := by
  obtain ⟨W, hW, hbW, hzW, hl_, hr_⟩ := boxed w #[.int .i64 p.regs, .slice Ab nb cb, .slice Ao no co] 25
  have c0 : W.cell? ⟨w.heap.size, 0, none⟩ = some (.int .i64 p.regs) := by rw [hl_]; rfl
  have c1 : W.cell? ⟨w.heap.size, 1, none⟩ = some (.slice Ab nb cb) := by rw [hl_]; rfl
  have c2 : W.cell? ⟨w.heap.size, 2, none⟩ = some (.slice Ao no co) := by rw [hl_]; rfl
  have hp1 := prog_next hp hbW
  have HC := Lib.hid (check_any p Ab Ao nb cb no co W hp1)
  have HSP := Lib.hid (fun wr (hb : Below W.heap.size W wr) => spans_any p Ab Ao nb cb no co n wr (prog_next hp1 hb) h0 hn)
  have HW := Lib.hid hW
  have HB := Lib.hid hbW
  have hn64 : n ≤ 64 := by have := (head_ok (check_run h0).1).1; omega
  have HLEN := Lib.hid (show (spansF p).length = n by rw [spans_len, hn]; rfl)
  obtain ⟨x, hx⟩ : ∃ x, (checkF p 64).1 = x := ⟨_, rfl⟩
  rw [hx, h0] at HC
  have hlt : w.heap.size < W.heap.size := by omega
  clear hW hbW hzW hl_ hr_ hp hp1 hx h0 hn
  go_enter Tryd.func20, Tryd.ntmps20
  go_upto_region 1 with fail
  rw [← HW.out]
  go_upto_region 5 with ((with_reducible refine (HC.out).mono ?_); rintro e w1 ⟨rfl, hb1⟩)
  have HSP1 := Lib.hid (HSP.out w1 hb1)
  have e0 := (hb1.cell (p := ⟨w.heap.size, 0, none⟩) hlt).trans c0
  have e1 := (hb1.cell (p := ⟨w.heap.size, 1, none⟩) hlt).trans c1
  have e2 := (hb1.cell (p := ⟨w.heap.size, 2, none⟩) hlt).trans c2
  have HB1 := Lib.hid hb1
  clear c0 c1 c2 hb1
  go_wp2_with ((with_reducible refine (HSP1.out).mono ?_); rintro e w2 ⟨gs, rfl, hgs, hsp, hb2⟩; have HS0 := Lib.hid hsp; have HGS := Lib.hid hgs; have HB2 := Lib.hid hb2; clear hsp hgs hb2 e0 e1 e2)
  have HBW := Lib.hid (show Below w.heap.size w w2 from HB.out.trans ((HB1.out.trans (HB2.out.mono HB1.out.size)).mono HB.out.size))
  obtain ⟨j0, hie, hy0, hy1, hy2⟩ := info_parts info2
  go_loopw [5, 18] (fun v i wr => ∃ (k : Nat) (A : Option Addr) (c : Nat), k ≤ n ∧ i = .int .i64 k ∧ v = .slice A k c ∧ wr.ownsRow w.heap.size 43 2 (.slice A k c) k (spV ((spansF p).take k)) ∧ (Value.slice A k c).ownBlock ≠ some gs ∧ SpansAt wr gs (spansF p) ∧ Below w.heap.size w wr) (fun _ i _ => n - (intOf i).toNat)
  case atStart => exact ⟨0, none, 0, by omega, rfl, rfl, World.ownsRow_nil _ _ _ _, (fun e => by cases e), HS0.out, HBW.out⟩
  case round =>
    obtain ⟨k, A, c, hk, rfl, rfl, hown, hne, hsp, hbl⟩ := hrel
    have HOWN := Lib.hid hown
    have HNE := Lib.hid hne
    have HS := Lib.hid hsp
    have HBL := Lib.hid hbl
    clear hown hne hsp hbl
    by_cases hlt2 : k < n
    · obtain ⟨s, hs⟩ : ∃ s, (spansF p)[k]? = some s := ⟨_, List.getElem?_eq_getElem (by rw [HLEN.out]; exact hlt2)⟩
      have y0 := (HS.out.cells hs).1
      have y1 := (HS.out.cells hs).2
      have HTK := Lib.hid (show spV ((spansF p).take (k + 1)) = spV ((spansF p).take k) ++ [Value.int .i64 s.1, Value.int .i64 s.2] by rw [List.take_add_one, hs, spV_append]; rfl)
      obtain ⟨W5, hW5⟩ : ∃ q, q = wr.alloc (.cells #[.int .i64 s.1, .int .i64 s.2] 68) := ⟨_, rfl⟩
      have hb5 : Below wr.heap.size wr W5 := by rw [hW5]; exact (Below.refl _ _).alloc (Nat.le_refl _) _
      have h5 : W5.heap[wr.heap.size]? = some (.cells #[.int .i64 s.1, .int .i64 s.2] 68 (0, 0)) := by rw [hW5]; exact heap_alloc_new wr _
      have z0 : W5.cell? ⟨wr.heap.size, 0, none⟩ = some (.int .i64 s.1) := by simp only [World.cell?, h5]; rfl
      have z1 : W5.cell? ⟨wr.heap.size, 1, none⟩ = some (.int .i64 s.2) := by simp only [World.cell?, h5]; rfl
      have HB5 := Lib.hid (HBL.out.trans (hb5.mono HBL.out.size))
      have HOWN5 := Lib.hid (row_keep (fun g hg => hb5.block g (own_lt HOWN.out g hg).1) HOWN.out)
      have HS5 := Lib.hid (HS.out.next hb5)
      have HW5 := Lib.hid hW5
      have i0 : (0 : Int) ≤ (k : Int) := by omega
      have i1 : (k : Int) < (n : Int) := by omega
      clear hs hW5 hb5 h5
      go_upto_region 8 with fail
      rw [← HW5.out]
      clear y0 y1
      go_wp2_with ((at_builtin; refine wpList_append_own_at _ rfl _ _ 39 rfl w.heap.size 43 j0 (.agg #[.int .i64 0, .int .i64 0]) 2 16 Tryd.underlying39 hie hy0 hy1 hy2 rfl (by decide) _ k _ rfl (HOWN5.out.alloc _) ⟨W5.heap.size, 0, none⟩ 1 1 [.int .i64 s.1, .int .i64 s.2] rfl (by simp) (World.news_of_block (cs := #[.int .i64 s.1, .int .i64 s.2]) (t := 43) (fr := (0, 0)) (heap_alloc_new W5 _)) (by simp [Value.oneCell']) (by unfold maxLen; omega) (by omega) (by have := HB5.out.size; simp; omega) ?_); intro v w6 hown6 hg6 _ hwh6; have HOWN6 := Lib.hid hown6; have HG6 := Lib.hid hg6; have HWH6 := Lib.hid hwh6; clear hown6 hg6 hwh6)
      obtain ⟨A6, c6, rfl⟩ := own_form HOWN6.out
      have hb6 : Below W5.heap.size W5 (W5.alloc (.cells #[.int .i64 s.1, .int .i64 s.2] 43)) := (Below.refl _ _).alloc (Nat.le_refl _) _
      have hz6 : (W5.alloc (.cells #[.int .i64 s.1, .int .i64 s.2] 43)).heap.size = W5.heap.size + 1 := by simp
      have hgl := lt_of_block HS5.out
      have hne6 : (Value.slice A6 (k + 1) c6).ownBlock ≠ some gs := fun e => by
        rcases HWH6.out with h | h
        · exact HNE.out (h ▸ e)
        · rw [e] at h
          have h2 := Option.some.inj h
          omega
      have hsp6 : SpansAt w6 gs (spansF p) := by
        show w6.heap[gs]? = _
        rw [HG6.out.block gs (by omega) (fun e => HNE.out e.symm), hb6.block gs hgl]
        exact HS5.out
      have hbel6 : Below w.heap.size w w6 := (HB5.out.trans (hb6.mono HB5.out.size)).grown HG6.out (by have := HB5.out.size; omega) (fun k hk => (own_lt HOWN5.out k hk).2)
      have hown6 := HOWN6.out
      rw [← HTK.out] at hown6
      go_roundw
      case rel => exact ⟨k + 1, A6, c6, by omega, by go_num, rfl, hown6, hne6, hsp6, hbel6⟩
      case measure => simp [intOf]; omega
    · have hkn : k = n := by omega
      have hown := HOWN.out
      rw [List.take_of_length_le (by rw [HLEN.out]; omega), hkn] at hown
      have hr := rows_own (rows := (spansF p).map spanRow) (by rw [List.length_map, HLEN.out]; exact hown) (by intro r hr; obtain ⟨x, _, rfl⟩ := List.mem_map.1 hr; rfl)
      have HR := Lib.hid (hr.mono (G := New w wr) fun j hj => ⟨(own_lt hown j hj).2, (own_lt hown j hj).1⟩)
      clear hown hr hkn
      go_wp2
      go_ret
      exact ⟨A, c, by rw [show k = n by omega]; rfl, HBL.out, HR.out⟩


/-- A Bool is told, in a world where all that stood stands. -/
def Tells (w : World) (e : Ending) (w' : World) : Prop := ∃ b : Bool, e = .returned (.bool b) ∧ Below w.heap.size w w'
theorem tells_of {w w' : World} (b : Bool) (h : Below w.heap.size w w') : Tells w (.returned (.bool b)) w' := ⟨b, rfl, h⟩
set_option maxRecDepth 100000 in
set_option maxHeartbeats 4000000 in
/-- It tells something, and returns. -/
theorem LightProg_any (p : LP) (Ab Ao : Option Addr) (nb cb no co : Nat) (most : Int) (w : World) (hp : ProgAt w (fun k => k < w.heap.size) [.int .i64 p.regs, .slice Ab nb cb, .slice Ao no co] p) :
    Calls Tryd.prog 9 #[.agg #[.int .i64 p.regs, .slice Ab nb cb, .slice Ao no co], .int .i64 most] w (Tells w) := by
  obtain ⟨W, hW, hbW, hzW, hl_, hr_⟩ := boxed w #[.int .i64 p.regs, .slice Ab nb cb, .slice Ao no co] 25
  have c0 : W.cell? ⟨w.heap.size, 0, none⟩ = some (.int .i64 p.regs) := by rw [hl_]; rfl
  have c1 : W.cell? ⟨w.heap.size, 1, none⟩ = some (.slice Ab nb cb) := by rw [hl_]; rfl
  have c2 : W.cell? ⟨w.heap.size, 2, none⟩ = some (.slice Ao no co) := by rw [hl_]; rfl
  have hBuf : BufsAt W (fun k => k < W.heap.size) (.slice Ab nb cb) p.bufs := by
    obtain ⟨vb, vo, h, h1, h2⟩ := (prog_next hp hbW).row
    simp only [List.cons.injEq] at h
    rw [h.2.1]; exact h1
  have hnb : p.bufs.length = nb := by obtain ⟨A, c, hv, _⟩ := rows_form hBuf; cases hv; rfl
  have HNB := Lib.hid hnb
  have HBUF := Lib.hid hBuf
  have HW := Lib.hid hW
  have HB := Lib.hid hbW
  obtain ⟨r, hr⟩ : ∃ r, p.regs = r := ⟨_, rfl⟩
  rw [hr] at c0 HW
  rw [hr]
  clear hW hbW hzW hl_ hr_ hp hr hBuf hnb
  go_enter Tryd.func9, Tryd.ntmps9
  go_upto_region 1 with fail
  rw [← HW.out]
  go_wp2
  go_loop [5, 6] (fun z i => ∃ (y : Int) (k : Nat), k ≤ nb ∧ k ≤ 41 ∧ z = .int .i64 y ∧ i = .int .i64 k) (fun _ i => 41 - (intOf i).toNat)
  case atStart => exact ⟨0, 0, by omega, by omega, rfl, rfl⟩
  case round =>
    obtain ⟨y, k, hk, hk41, rfl, rfl⟩ := hrel
    have i0 : (0 : Int) ≤ (k : Int) := by omega
    by_cases hlt : k < nb ∧ k ≤ 40
    · obtain ⟨h1, h2⟩ := hlt
      obtain ⟨x, hx⟩ : ∃ x, p.bufs[k]? = some x := ⟨_, List.getElem?_eq_getElem (by rw [HNB.out]; exact h1)⟩
      obtain ⟨b, o, rfl, _, y0, _⟩ := HBUF.out.at_ hx
      obtain ⟨sz, hsz⟩ : ∃ q, x.size = q := ⟨_, rfl⟩
      rw [hsz] at y0
      have i1 : (k : Int) < (nb : Int) := by omega
      have d1 : decide (k < nb) = true := decide_eq_true h1
      have d2 : decide ((k : Int) ≤ 40) = true := decide_eq_true (by omega)
      clear hx hsz
      cases d3 : decide ((0 : Int) < sz)
      · go_wp2
        go_round
        case rel => exact ⟨y, k + 1, by omega, by omega, rfl, by go_num⟩
        case measure => simp [intOf]; omega
      · cases d4 : decide (sz ≤ (65536 : Int))
        · go_wp2
          go_round
          case rel => exact ⟨y, k + 1, by omega, by omega, rfl, by go_num⟩
          case measure => simp [intOf]; omega
        · go_wp2
          go_round
          case rel => exact ⟨_, k + 1, by omega, by omega, rfl, by go_num⟩
          case measure => simp [intOf]; omega
    · have hex : (decide (k < nb) && decide ((k : Int) ≤ 40)) = false := by
        rw [Bool.and_eq_false_iff, decide_eq_false_iff_not, decide_eq_false_iff_not]; omega
      cases e1 : decide (k < nb)
      · clear hex hlt
        cases d1 : decide (r ≤ (100 : Int))
        · go_wp2
          go_ret
          exact tells_of _ HB.out
        cases d2 : decide ((nb : Int) ≤ 40)
        · go_wp2
          go_ret
          exact tells_of _ HB.out
        cases d3 : decide ((no : Int) ≤ most)
        · go_wp2
          go_ret
          exact tells_of _ HB.out
        cases d4 : decide (y ≤ (600 : Int))
        · go_wp2
          go_ret
          exact tells_of _ HB.out
        · go_wp2
          go_ret
          exact tells_of _ HB.out
      · rw [e1] at hex
        have e2 : decide ((k : Int) ≤ 40) = false := by simpa using hex
        clear hex hlt
        cases d1 : decide (r ≤ (100 : Int))
        · go_wp2
          go_ret
          exact tells_of _ HB.out
        cases d2 : decide ((nb : Int) ≤ 40)
        · go_wp2
          go_ret
          exact tells_of _ HB.out
        cases d3 : decide ((no : Int) ≤ most)
        · go_wp2
          go_ret
          exact tells_of _ HB.out
        cases d4 : decide (y ≤ (600 : Int))
        · go_wp2
          go_ret
          exact tells_of _ HB.out
        · go_wp2
          go_ret
          exact tells_of _ HB.out
end Go.Proofs.YtppoiahhaclleaaDoor
