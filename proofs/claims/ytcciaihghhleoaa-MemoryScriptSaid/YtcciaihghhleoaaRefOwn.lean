/- keysmithref04.own: as memory.own. -/
import Derived.Test.YtcciaihghhleoaaKitOwn
import Derived.Test.YtcciaihghhleoaaMem
import Derived.Deep.DeepCutAuto
import Derived.Outline
namespace Go.Proofs.Ytcciaihghhleoaa
open Go.RowKit

/-- So many cells are in a block. -/
def SizeAt (w : World) (g m : Nat) : Prop := ∃ cur e fr, w.heap[g]? = some (.cells cur e fr) ∧ cur.size = m
theorem SizeAt.keep {w w' : World} {g m : Nat} (h : SizeAt w g m) (hk : w'.heap[g]? = w.heap[g]?) : SizeAt w' g m := by
  obtain ⟨cur, e, fr, h1, h2⟩ := h
  exact ⟨cur, e, fr, hk.trans h1, h2⟩
theorem SizeAt.setCell {w : World} {g m : Nat} (h : SizeAt w g m) (p : Nat) (u : Value) : SizeAt (w.setCell ⟨g, p, none⟩ u) g m := by
  obtain ⟨cur, e, fr, h1, h2⟩ := h
  exact ⟨cur.setIfInBounds p u, e, fr, by simp [World.setCell, Array.getElem?_modify, h1], by simpa using h2⟩
theorem SizeAt.drew {w : World} {g m : Nat} (h : SizeAt w g m) : SizeAt w.drew g m := h

theorem flat_split {α : Type} {sz : Nat} (hsz : 0 < sz) (rows : List (List α)) (h : ∀ r ∈ rows, r.length = sz) : ∀ (j : Nat) (u : α), rows.flatten[j]? = some u → ∃ r, rows[j / sz]? = some r ∧ r[j % sz]? = some u := by
  induction rows with
  | nil => intro j u h; simp at h
  | cons q qs ih =>
    intro j u hj
    have hql := h q (List.mem_cons_self ..)
    rw [List.flatten_cons] at hj
    rcases Nat.lt_or_ge j sz with h1 | h1
    · rw [List.getElem?_append_left (by omega)] at hj
      exact ⟨q, by rw [Nat.div_eq_of_lt h1]; rfl, by rw [Nat.mod_eq_of_lt h1]; exact hj⟩
    · rw [List.getElem?_append_right (by omega), hql] at hj
      obtain ⟨r, h2, h3⟩ := ih (fun r hr => h r (List.mem_cons_of_mem _ hr)) (j - sz) u hj
      refine ⟨r, ?_, ?_⟩
      · rw [show j / sz = (j - sz) / sz + 1 from by rw [Nat.div_eq_sub_div hsz h1]]
        simpa using h2
      · rw [Nat.mod_eq_sub_mod h1]; exact h3
theorem flat_len {α : Type} {sz : Nat} (rows : List (List α)) (h : ∀ r ∈ rows, r.length = sz) : rows.flatten.length = rows.length * sz := by
  induction rows with
  | nil => simp
  | cons q qs ih => rw [List.flatten_cons, List.length_append, ih (fun r hr => h r (List.mem_cons_of_mem _ hr)), h q (List.mem_cons_self ..), List.length_cons, Nat.succ_mul]; omega

/-- A block of rows is a row of the call's own again. -/
theorem own_of_rowsBlk {w : World} {base e sz g cap n : Nat} {rows : List (List Value)} (h : RowsBlk w g e sz rows) (hn : rows.length = n) (hs : SizeAt w g (cap * sz)) (hg : base ≤ g) (hnc : n ≤ cap) (hcm : cap ≤ maxLen) (hsz : 0 < sz) :
    w.ownsRow base e sz (.slice (some ⟨g, 0, none⟩) n cap) n rows.flatten := by
  obtain ⟨cur, h1, h2, h3⟩ := h
  obtain ⟨cur', e', fr, h4, h5⟩ := hs
  rw [h1] at h4
  cases h4
  have hl := flat_len rows h3
  rw [hn] at hl
  refine ⟨hl, .inr ⟨g, cap, cur, rfl, hg, h1, hnc, hcm, h5, ?_⟩⟩
  have hle : n * sz ≤ cap * sz := Nat.mul_le_mul_right _ hnc
  refine List.ext_getElem? fun j => ?_
  rw [List.getElem?_take]
  split
  · rename_i hj
    have hjl : j < rows.flatten.length := by omega
    obtain ⟨r, hr, hu⟩ := flat_split hsz rows h3 j _ (List.getElem?_eq_getElem hjl)
    have := h2 _ _ r _ hr hu
    rw [show j / sz * sz + j % sz = j from by rw [Nat.mul_comm]; exact Nat.div_add_mod j sz] at this
    rw [List.getElem?_eq_getElem hjl, Array.getElem?_toList, this]
  · rw [List.getElem?_eq_none (by omega)]

theorem size_of_own {w : World} {base e sz n g cap : Nat} {xs : List Value} (h : w.ownsRow base e sz (.slice (some ⟨g, 0, none⟩) n cap) n xs) : SizeAt w g (cap * sz) ∧ cap ≤ maxLen := by
  rcases h.2 with ⟨h1, _⟩ | ⟨g', cap', cur, hv, hg, hh, hnc, hcm, hcs, htk⟩
  · cases h1
  · cases hv
    exact ⟨⟨cur, _, _, hh, hcs⟩, hcm⟩

theorem sort_take (l : List Reg) {k : Nat} {r : Reg} (hr : l[k]? = some r) : sortBy Reg.base (l.take (k + 1)) = (insBy Reg.base (sortBy Reg.base (l.take k)).reverse r).reverse := by
  obtain ⟨hk, rfl⟩ := List.getElem?_eq_some_iff.1 hr
  rw [List.take_succ_eq_append_getElem hk, sortBy, List.foldl_append, sortBy, List.reverse_reverse]
  rfl

theorem own_form {w : World} {base e sz n : Nat} {v : Value} {xs : List Value} (h : w.ownsRow base e sz v n xs) : ∃ A c, v = .slice A n c := by
  rcases h.2 with ⟨h1, h2⟩ | ⟨g', cap', cur, hv, _⟩
  · exact ⟨none, 0, by rw [h1, h2]⟩
  · exact ⟨_, _, hv⟩
theorem own_from {w : World} {base e sz n : Nat} {v : Value} {xs : List Value} (h : w.ownsRow base e sz v n xs) : ∀ k, v.ownBlock = some k → base ≤ k := fun k hk => by
  rcases h.2 with ⟨rfl, _⟩ | ⟨g, cap, cur, rfl, hg, _⟩
  · cases hk
  · cases hk; exact hg
theorem own_keep {w w' : World} {base e sz n : Nat} {v : Value} {xs : List Value} (h : w.ownsRow base e sz v n xs) (hb : Below w.heap.size w w') : w'.ownsRow base e sz v n xs := by
  rcases h.2 with ⟨h1, h2⟩ | ⟨g', cap', cur, hv, hg, hh, hr⟩
  · exact ⟨h.1, .inl ⟨h1, h2⟩⟩
  · exact ⟨h.1, .inr ⟨g', cap', cur, hv, hg, (hb.block g' (lt_of_block hh)).trans hh, hr⟩⟩

theorem swap_rows2 (A : List Ent) (p x : Ent) (B : List Ent) {q : Nat} (h : A.length = q) :
    (((A.concat p ++ x :: B).map entRow).set q (entRow x)).set (q + 1) (entRow p) = (A ++ x :: p :: B).map entRow := by
  rw [List.set_comm _ _ (by omega)]
  exact swap_rows A p x B h

/-- A row that grew leaves bytes alone. -/
theorem own_other {w w' : World} {base n : Nat} {v : Value} {xs : List Value} (h : w.ownsRow base 36 3 v n xs) (hg : w.grownBy w' v.ownBlock) {bb : Nat} {rows : List (List Value)} (hr : RowsBlk w bb 5 1 rows) : w'.heap[bb]? = w.heap[bb]? := by
  refine hg.block bb hr.lt (fun e => ?_)
  obtain ⟨cur, h1, _⟩ := hr
  rcases h.2 with ⟨rfl, _⟩ | ⟨g, cap, cur2, rfl, _, h2, _⟩
  · cases e
  · cases e
    rw [h1] at h2
    injection h2 with h2
    injection h2 with _ h2
    exact absurd h2 (by decide)

/-- The copy of one region, made: its struct at X, its bytes at bb. -/
structure Copied (wr wx : World) (X bb cap : Nat) (r : Reg) : Prop where
  c0 : wx.cell? ⟨X, 0, none⟩ = some (.int .u64 r.base)
  c1 : wx.cell? ⟨X, 1, none⟩ = some (.slice (some ⟨bb, 0, none⟩) r.bytes.length cap)
  c2 : wx.cell? ⟨X, 2, none⟩ = some (.bool r.write)
  lt : X < wx.heap.size
  hbb : wr.heap.size ≤ bb
  hcap : r.bytes.length ≤ cap
  rows : RowsBlk wx bb 5 1 (byteRows r.bytes)
  below : Below wr.heap.size wr wx
def CopiedAt (wr : World) (X : Nat) (r : Reg) (wx : World) : Prop := ∃ bb cap, Copied wr wx X bb cap r

set_option maxRecDepth 100000 in
set_option maxHeartbeats 1600000 in
theorem RefOwn_any (v : Value) (w : World) (F : Nat → Prop) (l : List Reg) (hl : RegsAt w F v l) (hF : ∀ k, F k → k < w.heap.size) (h8 : l.length ≤ 12) (hb : ∀ r ∈ l, r.bytes ≠ [] ∧ r.bytes.length ≤ 1048576) :
    Calls Try.prog 31 #[v] w fun e w' => ∃ v', e = .returned v' ∧ RegsOwn w' (seg w.heap.size w'.heap.size) v' (sortBy Reg.base l) ∧ Below w.heap.size w w' := by
  obtain ⟨A, c, rfl, hlc⟩ := hl.form
  have HL := Lib.hid hl
  have HF := Lib.hid hF
  have HB := Lib.hid hb
  clear hl hF hb
  generalize hln : l.length = n at *
  have HN := Lib.hid hln
  clear hln
  obtain ⟨i0, hi, hz0, hz1, hz2⟩ := info_parts infoU8
  obtain ⟨i1, hi1, hz10, hz11, hz12⟩ := info_parts infoReg
  go_enter Try.func31, Try.ntmps31
  go_wp2
  go_loopg [3, 4] n (fun gg out i wr => ∃ (k : Nat) (E : List (Reg × Ent)), k ≤ n ∧ gg = n - k ∧ i = .int .i64 k ∧ E.map (·.1) = sortBy Reg.base (l.take k) ∧ Below w.heap.size w wr ∧ wr.ownsRow w.heap.size 36 3 out k (E.map fun x => entRow x.2).flatten ∧
      (∀ x ∈ E, EntOwn wr (seg w.heap.size wr.heap.size) x.1 x.2) ∧ (E.map (·.2.ad)).Nodup)
  case atStart => exact ⟨0, [], by omega, rfl, rfl, rfl, Below.refl _ _, ⟨by simp, .inl ⟨rfl, rfl⟩⟩, by simp, by simp⟩
  case round =>
    obtain ⟨k, E, hk, hgg, rfl, hfst, hbl, hrow, hown, hnd⟩ := hrel
    have hg1 := Nat.le_of_eq hgg
    have hg2 := Nat.le_of_eq hgg.symm
    obtain ⟨A3, c3, rfl⟩ := own_form hrow
    have HFST := Lib.hid hfst
    have HBL := Lib.hid hbl
    have HROW := Lib.hid hrow
    have HOWN := Lib.hid hown
    have HND := Lib.hid hnd
    clear hgg hfst hbl hrow hown hnd
    by_cases hlt : k < n
    · obtain ⟨r, hr⟩ : ∃ r, l[k]? = some r := ⟨_, List.getElem?_eq_getElem (by have := HN.out; omega)⟩
      have hrb := HB.out r (List.mem_of_getElem? hr)
      have hrb2 := hrb.2
      obtain ⟨b, off, A', c', rfl, hFb, h0, h1, h2, hby, hb64, _⟩ := (HL.out.below HBL.out HF.out).at_ hr
      obtain ⟨sb, so, rfl⟩ : ∃ sb so, A' = some ⟨sb, so, none⟩ := by
        obtain ⟨x, xs, hx⟩ := List.exists_cons_of_ne_nil hrb.1
        obtain ⟨b3, o3, h3, _⟩ := hby.get (q := 0) (x := x) (by rw [hx]; rfl)
        exact ⟨b3, o3, h3⟩
      have hb := Nat.lt_of_lt_of_le (HF.out b hFb) HBL.out.size
      have j0 : (0 : Int) ≤ (k : Int) := by omega
      have j1 : (k : Int) < (n : Int) := by omega
      have HR := Lib.hid hr
      have HBY := Lib.hid hby
      clear hr hby hrb
      obtain ⟨W1, hW1, hbw, hsz, hnew, _⟩ := boxed wr #[.int .u64 r.base, .slice (some ⟨sb, so, none⟩) r.bytes.length c', .bool r.write] 36
      have n0 := hnew 0
      have n1 := hnew 1
      have n2 := hnew 2
      have m0 : wr.heap.size < W1.heap.size := by omega
      have hf1 : W1.frozen? ⟨wr.heap.size, 1, none⟩ = false := by rw [hW1]; simp
      have HW1 := Lib.hid hW1
      have HBW := Lib.hid hbw
      have hflat := Rows.flat (HBY.out.keep (SameOn.of_below hbw (fun k hk => by have := HF.out k hk; have := HBL.out.size; omega))) (by decide)
      rw [show (r.bytes.map fun x => [byteV x]) = byteRows r.bytes from rfl] at hflat
      have HCE : Hid (∀ (j : Nat) (u : Value), (byteRows r.bytes).flatten[j]? = some u → (W1.alloc (.cells #[] 5)).cell? (Addr.add ⟨sb, so, none⟩ j) = some u) := Lib.hid (fun j u hu => by
        have := hflat.2 j u hu
        rw [World.cell?_alloc_lt _ _ _ (World.block_lt_of_cell? _ _ this)]; exact this)
      have HLE := Lib.hid hflat.1
      clear hnew hsz hW1 hbw hflat
      go_upto_region 6 with (fail)
      rw [← HW1.out]
      go_cut [] (fun wx => CopiedAt wr wr.heap.size r wx)
      case first =>
        go_wp2_with ((at_builtin; refine wpList_append_own_at _ rfl _ _ 34 rfl W1.heap.size 5 i0 (.int .u8 0) 1 1 Try.underlying34 hi hz0 hz1 hz2 rfl (by decide) _ 0 [] rfl (own_zero W1 _ _) ⟨sb, so, none⟩ r.bytes.length c' (byteRows r.bytes).flatten rfl HLE.out HCE.out (byteRows_one _) (by unfold maxLen; omega) (by omega) (by simp) ?_); intro v w3 hown hg hnn _; obtain ⟨bb, cap, rfl, hgb, hcp, hrows⟩ := rowsBlk_of_own0 (by simpa using hown) (byteRows_len _) (fun e => (nomatch ((hnn.1 e).1))); have hb3 := ((Below.refl W1.heap.size W1).alloc (Nat.le_refl _) _).grown hg (by simp) (fun k hk => Nat.le_of_eq (Option.some.inj hk)); have d0 := (hb3.cell (p := ⟨wr.heap.size, 0, none⟩) m0).trans n0; have d1 := (hb3.cell (p := ⟨wr.heap.size, 1, none⟩) m0).trans n1; have d2 := (hb3.cell (p := ⟨wr.heap.size, 2, none⟩) m0).trans n2; have f1 := (hb3.frozen (p := ⟨wr.heap.size, 1, none⟩) m0).trans hf1; have HB3 := Lib.hid hb3; have HRO := Lib.hid hrows; have HGB := Lib.hid (And.intro hgb hcp); clear hown hg hnn hb3 hrows n0 n1 n2 hf1 hgb hcp)
        go_meet
        have hne : bb ≠ wr.heap.size := by have := HGB.out.1; omega
        refine ⟨bb, cap, ⟨by go_simp, by go_simp, by go_simp, by have := HB3.out.size; simp [World.setCell]; omega, by have := HGB.out.1; omega, HGB.out.2, HRO.out.keep (Below.heap_setCell _ _ _ _ hne), ((HBW.out.trans (HB3.out.mono HBW.out.size)).setCell (Nat.le_refl _) _)⟩⟩
      case rest =>
        obtain ⟨bb, cap, hcp⟩ := hcut
        have d0 := hcp.c0
        have d1 := hcp.c1
        have d2 := hcp.c2
        have dl := hcp.lt
        have HCP := Lib.hid hcp
        have hro2 := own_keep HROW.out hcp.below
        have HRO2 := Lib.hid hro2
        have HSZ := Lib.hid hcp.below.size
        clear n0 n1 n2 m0 hf1 h0 h1 h2 HCE HLE hcp hro2
        go_wp2_with ((at_builtin; refine wpList_append_own_at _ rfl _ _ 22 rfl w.heap.size 36 i1 (.agg #[.int .u64 0, .slice none 0 0, .bool false]) 3 40 Try.underlying22 hi1 hz10 hz11 hz12 rfl (by decide) _ k _ rfl (HRO2.out.alloc _) ⟨wc.heap.size, 0, none⟩ 1 1 [.int .u64 r.base, .slice (some ⟨bb, 0, none⟩) r.bytes.length cap, .bool r.write] rfl (by simp) (World.news_of_block (cs := #[.int .u64 r.base, .slice (some ⟨bb, 0, none⟩) r.bytes.length cap, .bool r.write]) (t := 36) (fr := (0, 0)) (heap_alloc_new wc _)) (by simp [Value.oneCell']) (by unfold maxLen; omega) (by omega) (by have := HBL.out.size; have := HSZ.out; simp; omega) ?_); intro bk2 w5 hown5 hg5 _ _; have HO5 := Lib.hid hown5; have HG5 := Lib.hid hg5; clear hown5 hg5)
        have hlen : E.length = k := by have := congrArg List.length HFST.out; rw [sortBy_length] at this; have := HN.out; simp at *; omega
        have hrow5 : w5.ownsRow w.heap.size 36 3 bk2 (k + 1) (((E.map (·.2)) ++ [(⟨r.base, some ⟨bb, 0, none⟩, r.bytes.length, cap, r.write⟩ : Ent)]).map entRow).flatten := by
          have h1 := HO5.out
          rw [List.map_append, List.flatten_append, List.map_map]
          exact h1
        have helen : ∀ x ∈ ((E.map (·.2)) ++ [(⟨r.base, some ⟨bb, 0, none⟩, r.bytes.length, cap, r.write⟩ : Ent)]).map entRow, x.length = 3 := by
          intro x hx; obtain ⟨y, _, rfl⟩ := List.mem_map.1 hx; rfl
        obtain ⟨g, cap5, rfl, hg0, hcap5, hrb5⟩ := rowsBlk_of_own hrow5 helen (by omega)
        obtain ⟨hsz5, hcm5⟩ := size_of_own hrow5
        -- what stays
        have hro2 : (wc.alloc (.cells #[.int .u64 r.base, .slice (some ⟨bb, 0, none⟩) r.bytes.length cap, .bool r.write] 36)).ownsRow w.heap.size 36 3 (.slice A3 k c3) k _ := HRO2.out.alloc _
        have hkeep : ∀ (q : Nat) (rows : List (List Value)), RowsBlk wc q 5 1 rows → RowsBlk w5 q 5 1 rows := fun q rows hq => by
          have h1 : RowsBlk (wc.alloc (.cells #[.int .u64 r.base, .slice (some ⟨bb, 0, none⟩) r.bytes.length cap, .bool r.write] 36)) q 5 1 rows := hq.keep (Below.heap_alloc _ _ _ hq.lt)
          exact h1.keep (own_other hro2 HG5.out h1)
        have hbl5 : Below w.heap.size w w5 := ((HBL.out.trans (HCP.out.below.mono HBL.out.size)).alloc (by have := HBL.out.size; have := HSZ.out; omega) _).grown HG5.out (by have := HBL.out.size; have := HSZ.out; simp; omega) (own_from HROW.out)
        have hsz05 : wc.heap.size ≤ w5.heap.size := by have := HG5.out.size; simp at this; omega
        have hent : ∀ x ∈ E ++ [(r, (⟨r.base, some ⟨bb, 0, none⟩, r.bytes.length, cap, r.write⟩ : Ent))], EntOwn w5 (seg w.heap.size w5.heap.size) x.1 x.2 := by
          intro x hx
          rcases List.mem_append.1 hx with hx | hx
          · have he := HOWN.out x hx
            obtain ⟨b1, e1, e2, e3⟩ := he.blk
            exact ⟨he.key, he.n, he.wr, he.cap, b1, e1, ⟨e2.1, by have := e3.lt; have := HSZ.out; omega⟩, hkeep b1 _ (e3.keep (HCP.out.below.block b1 e3.lt))⟩
          · simp only [List.mem_singleton] at hx
            subst hx
            exact ⟨rfl, rfl, rfl, HCP.out.hcap, bb, rfl, ⟨by have := HCP.out.hbb; have := HBL.out.size; omega, by have := HCP.out.rows.lt; omega⟩, hkeep bb _ HCP.out.rows⟩
        have hnd5 : ((E ++ [(r, (⟨r.base, some ⟨bb, 0, none⟩, r.bytes.length, cap, r.write⟩ : Ent))]).map (·.2.ad)).Nodup := ad_new HOWN.out HND.out HCP.out.hbb _ rfl
        have hdone : ∀ (A B : List Ent) (wx : World), Chg (· = g) w5 wx → RowsBlk wx g 36 3 ((A ++ ⟨r.base, some ⟨bb, 0, none⟩, r.bytes.length, cap, r.write⟩ :: B).map entRow) → SizeAt wx g (cap5 * 3) →
            A ++ ⟨r.base, some ⟨bb, 0, none⟩, r.bytes.length, cap, r.write⟩ :: B = (insBy Ent.key (E.map (·.2)).reverse ⟨r.base, some ⟨bb, 0, none⟩, r.bytes.length, cap, r.write⟩).reverse →
            ∃ E' : List (Reg × Ent), E'.map (·.1) = sortBy Reg.base (l.take (k + 1)) ∧ Below w.heap.size w wx ∧ wx.ownsRow w.heap.size 36 3 (.slice (some ⟨g, 0, none⟩) (k + 1) cap5) (k + 1) (E'.map fun x => entRow x.2).flatten ∧
              (∀ x ∈ E', EntOwn wx (seg w.heap.size wx.heap.size) x.1 x.2) ∧ (E'.map (·.2.ad)).Nodup := fun A B wx hc hrw hsz he => by
          have hp : (insBy (fun y : Reg × Ent => y.2.key) E.reverse (r, ⟨r.base, some ⟨bb, 0, none⟩, r.bytes.length, cap, r.write⟩)).reverse.Perm (E ++ [(r, (⟨r.base, some ⟨bb, 0, none⟩, r.bytes.length, cap, r.write⟩ : Ent))]) :=
            (List.reverse_perm _).trans ((insBy_perm _ _ _).trans ((List.Perm.cons _ (List.reverse_perm E)).trans (List.perm_append_comm (l₁ := [_]) (l₂ := E))))
          refine ⟨(insBy (fun y : Reg × Ent => y.2.key) E.reverse (r, ⟨r.base, some ⟨bb, 0, none⟩, r.bytes.length, cap, r.write⟩)).reverse, ?_, hbl5.trans (hc.below (fun q hq e => by subst e; omega) hbl5.size), ?_, fun y hy => ?_, (hp.map _).nodup_iff.2 hnd5⟩
          · rw [sort_take l HR.out, ← HFST.out, List.map_reverse, ← List.map_reverse, ← List.map_reverse, insBy_map Reg.base (fun y : Reg × Ent => y.1) E.reverse (r, ⟨r.base, some ⟨bb, 0, none⟩, r.bytes.length, cap, r.write⟩)]
            rw [insBy_congr (k := fun y : Reg × Ent => y.2.key) (k' := fun y : Reg × Ent => y.1.base) E.reverse _ rfl (fun y hy => (hent y (List.mem_append_left _ (by simpa using hy))).key)]
            simp
          · have h1 : ((insBy (fun y : Reg × Ent => y.2.key) E.reverse (r, ⟨r.base, some ⟨bb, 0, none⟩, r.bytes.length, cap, r.write⟩)).reverse.map fun x => entRow x.2) = (A ++ ⟨r.base, some ⟨bb, 0, none⟩, r.bytes.length, cap, r.write⟩ :: B).map entRow := by
              rw [he, ← List.map_reverse, insBy_map Ent.key (fun y : Reg × Ent => y.2) E.reverse (r, ⟨r.base, some ⟨bb, 0, none⟩, r.bytes.length, cap, r.write⟩), ← List.map_reverse, List.map_map]
              rfl
            rw [h1]
            exact own_of_rowsBlk hrw (by rw [← h1]; simp [insBy_length, hlen]) hsz hg0 hcap5 hcm5 (by decide)
          · exact (hent y (hp.mem_iff.1 hy)).keep2 hrb5 (by decide) (fun q hq hne => hc.block q hq hne) (fun q hq hlq => ⟨hq.1, by have := hc.size; have := hq.2; omega⟩)
        have HENT := Lib.hid hent
        have HDONE := Lib.hid hdone
        have HND5 := Lib.hid hnd5
        have HBL5 := Lib.hid hbl5
        have HRB5 := Lib.hid hrb5
        have HSZ5 := Lib.hid hsz5
        have HLEN := Lib.hid hlen
        have HCM5 := Lib.hid hcm5
        have hg0' := hg0
        generalize hx : (⟨r.base, some ⟨bb, 0, none⟩, r.bytes.length, cap, r.write⟩ : Ent) = x at *
        have HX := Lib.hid hx
        clear hdone hrow5 helen hro2 hkeep hbl5 hent hnd5 hrb5 hsz5 hlen hcm5 hx HO5 HG5 HOWN HND HRO2 HROW HBL d0 d1 d2 dl hg0
        go_loopg [6] k (fun gg z wx => ∃ (q : Nat) (A B : List Ent), A.length = q ∧ q ≤ k ∧ gg = q ∧ z = .int .i64 q ∧ Chg (· = g) w5 wx ∧ RowsBlk wx g 36 3 ((A ++ x :: B).map entRow) ∧ SizeAt wx g (cap5 * 3) ∧ (A ++ x :: B).length = k + 1 ∧ (insBy Ent.key A.reverse x).reverse ++ B = (insBy Ent.key (E.map (·.2)).reverse x).reverse)
        case atStart => exact ⟨k, E.map (·.2), [], by have := HLEN.out; simpa using this, by omega, rfl, rfl, Chg.refl _ _, HRB5.out, HSZ5.out, by have := HLEN.out; simp; omega, by simp⟩
        case round =>
          obtain ⟨q, A, B, hA, hq, hgg, rfl, hch, hrw, hsz, hln, hfin⟩ := hrel
          have hg3 := Nat.le_of_eq hgg
          have hg4 := Nat.le_of_eq hgg.symm
          have HFIN := Lib.hid hfin
          have HRW := Lib.hid hrw
          have HCH := Lib.hid hch
          have HSZ6 := Lib.hid hsz
          have HLN := Lib.hid hln
          have HA := Lib.hid hA
          clear hfin hrw hch hA hsz hln hgg
          rcases List.eq_nil_or_concat A with rfl | ⟨A', p, rfl⟩
          · obtain rfl : q = 0 := by have := HA.out; simp at this; omega
            go_wp2
            (refine wp_region_lines (Below wr.heap.size wr) (by kernel_rfl) (by kernel_rfl) (Below.refl _ _).drew ?_)
            have hS := (Below.refl wr.heap.size wr).drew
            (try simp only [])
            repeat (first | (refine runL_no (by rfl) ?_; (try simp only [Act.put, List.setIfInBounds_toArray, List.set_cons_zero, List.set_cons_succ])) | (refine runL_val (v := ?_) (by rfl) ?_ ?_; rotate_left; (focus (intro w_ hw_; have hc_ := bcell hw_; go_simp; (try with_reducible rfl); done)); (try simp only [Act.put, List.setIfInBounds_toArray, List.set_cons_zero, List.set_cons_succ])))
            (refine runL_nil ?_)
            have hst := insRev_stop [] x B (fun p' A'' he => by rw [List.concat_eq_append] at he; exact absurd he.symm (by simp))
            rw [HFIN.out] at hst
            have hd' := HDONE.out _ B wr.drew HCH.out.drew HRW.out HSZ6.out.drew hst.symm
            obtain ⟨E', e1, e2, e3, e4, e5⟩ := hd'
            have HE := Lib.hid (And.intro e1 (And.intro e2 (And.intro e3 (And.intro e4 e5))))
            clear hst e1 e2 e3 e4 e5
            go_wp2
            go_roundg (n - (k + 1))
            case measure => omega
            case rel => exact ⟨k + 1, E', by omega, rfl, by go_num, HE.out⟩
          · obtain ⟨q', rfl⟩ : ∃ q', q = q' + 1 := ⟨A'.length, by have := HA.out; simp at this; omega⟩
            have hA' : A'.length = q' := by have := HA.out; simp at this; omega
            have r1 : ((A'.concat p ++ x :: B).map entRow)[q' + 1]? = some (entRow x) := by rw [← hA']; have := row_at (A'.concat p) x B; rw [List.length_concat] at this; exact this
            have r0 : ((A'.concat p ++ x :: B).map entRow)[q']? = some (entRow p) := by rw [← hA']; have := row_at A' p (x :: B); rw [List.concat_eq_append, List.append_assoc]; exact this
            have c0 := HRW.out.cell r0 (j := 0) (by rfl)
            have c1 := HRW.out.cell r0 (j := 1) (by rfl)
            have c2 := HRW.out.cell r0 (j := 2) (by rfl)
            have d0 := HRW.out.cell r1 (j := 0) (by rfl)
            have d1 := HRW.out.cell r1 (j := 1) (by rfl)
            have d2 := HRW.out.cell r1 (j := 2) (by rfl)
            have hgl := HRW.out.lt
            simp only [Nat.add_zero] at c0 d0
            clear r0 r1
            have i0 : (0 : Int) ≤ (q' : Int) + 1 := by omega
            have i1 : (q' : Int) + 1 < (k : Int) + 1 := by omega
            have i2 : (0 : Int) ≤ (q' : Int) := by omega
            have i3 : (q' : Int) < (k : Int) + 1 := by omega
            have i5 : IntKind.i64.wrap (q' : Int) = (q' : Int) := IntWalk.i64_in _ (by omega)
            by_cases hc : x.key < p.key
            · have hd : decide (x.key < p.key) = true := by simpa using hc
              go_wp2
              (refine wp_region_lines (Below wr.heap.size wr) (by kernel_rfl) (by kernel_rfl) (Below.refl _ _).drew ?_)
              have hS := (Below.refl wr.heap.size wr).drew
              (try simp only [])
              repeat (first | (refine runL_no (by rfl) ?_; (try simp only [Act.put, List.setIfInBounds_toArray, List.set_cons_zero, List.set_cons_succ])) | (refine runL_val (v := ?_) (by rfl) ?_ ?_; rotate_left; (focus (intro w_ hw_; have hc_ := bcell hw_; go_simp; (try with_reducible rfl); done)); (try simp only [Act.put, List.setIfInBounds_toArray, List.set_cons_zero, List.set_cons_succ])))
              (refine runL_nil ?_)
              have hrw : RowsBlk wr.drew g 36 3 ((A'.concat p ++ x :: B).map entRow) := HRW.out.keep (hS.block g hgl)
              have HCH1 := Lib.hid HCH.out.drew
              have HSZ7 := Lib.hid HSZ6.out.drew
              replace c0 : wr.drew.cell? ⟨g, q' * 3, none⟩ = _ := c0
              replace c1 : wr.drew.cell? ⟨g, q' * 3 + 1, none⟩ = _ := c1
              replace c2 : wr.drew.cell? ⟨g, q' * 3 + 2, none⟩ = _ := c2
              replace d0 : wr.drew.cell? ⟨g, (q' + 1) * 3, none⟩ = _ := d0
              replace d1 : wr.drew.cell? ⟨g, (q' + 1) * 3 + 1, none⟩ = _ := d1
              replace d2 : wr.drew.cell? ⟨g, (q' + 1) * 3 + 2, none⟩ = _ := d2
              clear HCH HSZ6 HRW hS
              generalize wr.drew = w1 at *
              have f0 := hrw.frozen
              have hlen : ((A'.concat p ++ x :: B).map entRow).length = A'.length + 2 + B.length := by simp; omega
              obtain ⟨_, ⟨t1, k1⟩, ⟨t2, k2⟩⟩ := hrw.mid3 (i := q') (by omega) (.int .u64 x.key) (.slice x.ad x.n x.c)
              have hr2 := hrw.set3 (i := q') (by omega) (.int .u64 x.key) (.slice x.ad x.n x.c) (.bool x.wr)
              obtain ⟨⟨t3, k3⟩, ⟨t4, k4⟩, ⟨t5, k5⟩⟩ := hr2.mid3 (i := q' + 1) (by simp; omega) (.int .u64 p.key) (.slice p.ad p.n p.c)
              have hr3 := hr2.set3 (i := q' + 1) (by simp; omega) (.int .u64 p.key) (.slice p.ad p.n p.c) (.bool p.wr)
              have HR3 := Lib.hid hr3
              have HA' := Lib.hid hA'
              clear hlen hA' hr2 hr3 hrw hd
              go_wp2
              go_region
              go_wp2
              go_roundg q'
              case measure => omega
              case rel => exact ⟨q', A', p :: B, HA'.out, by omega, rfl, by go_num, (((((((HCH1.out.setCell (.inl rfl) _).setCell (.inl rfl) _).setCell (.inl rfl) _).setCell (.inl rfl) _).setCell (.inl rfl) _).setCell (.inl rfl) _).drew), (by rw [← swap_rows2 A' p x B HA'.out]; exact (RowsBlk.drew HR3.out)), (((((((HSZ7.out.setCell _ _).setCell _ _).setCell _ _).setCell _ _).setCell _ _).setCell _ _).drew), by have := HLN.out; simp at this ⊢; omega, by rw [← insRev_step A' p x B hc]; exact HFIN.out⟩
            · have hd : decide (x.key < p.key) = false := by simpa using hc
              clear hA'
              go_wp2
              (refine wp_region_lines (Below wr.heap.size wr) (by kernel_rfl) (by kernel_rfl) (Below.refl _ _).drew ?_)
              have hS := (Below.refl wr.heap.size wr).drew
              (try simp only [])
              repeat (first | (refine runL_no (by rfl) ?_; (try simp only [Act.put, List.setIfInBounds_toArray, List.set_cons_zero, List.set_cons_succ])) | (refine runL_val (v := ?_) (by rfl) ?_ ?_; rotate_left; (focus (intro w_ hw_; have hc_ := bcell hw_; go_simp; (try with_reducible rfl); done)); (try simp only [Act.put, List.setIfInBounds_toArray, List.set_cons_zero, List.set_cons_succ])))
              (refine runL_nil ?_)
              have hst := insRev_stop (A'.concat p) x B (fun p' A'' he => by rw [List.concat_eq_append, List.concat_eq_append] at he; obtain ⟨_, h2⟩ := List.append_inj' he rfl; cases h2; exact hc)
              rw [HFIN.out] at hst
              have hd' := HDONE.out _ B wr.drew HCH.out.drew HRW.out HSZ6.out.drew hst.symm
              obtain ⟨E', e1, e2, e3, e4, e5⟩ := hd'
              have HE := Lib.hid (And.intro e1 (And.intro e2 (And.intro e3 (And.intro e4 e5))))
              clear hst e1 e2 e3 e4 e5
              go_wp2
              go_roundg (n - (k + 1))
              case measure => omega
              case rel => exact ⟨k + 1, E', by omega, rfl, by go_num, HE.out⟩
    · obtain rfl : n = k := by omega
      go_wp2
      go_ret
      have h1 := HFST.out
      have h2 := HN.out
      rw [List.take_of_length_le (by omega)] at h1
      have h3 : (sortBy Reg.base l).length = n := by rw [sortBy_length]; exact h2
      have h4 : E.length = n := by have := congrArg List.length h1; simpa [h3] using this
      have h5 : n ≤ c3 := by
        rcases HROW.out.2 with ⟨h1, h2⟩ | ⟨g', cap', cur, hv, _, _, hh, _⟩
        · omega
        · cases hv; exact hh
      refine ⟨.slice A3 n c3, rfl, ⟨A3, c3, E, by rw [h3], by rw [h3]; exact h5, h1, HOWN.out, HND.out, fun hne => ?_⟩, HBL.out⟩
      have hpos : 0 < n := by rw [← h3]; exact List.length_pos_iff.2 hne
      obtain ⟨g, cap, hv, hg, _, hrb⟩ := rowsBlk_of_own HROW.out (entRows_len E) hpos
      cases hv
      exact ⟨g, rfl, ⟨hg, hrb.lt⟩, hrb⟩
end Go.Proofs.Ytcciaihghhleoaa
