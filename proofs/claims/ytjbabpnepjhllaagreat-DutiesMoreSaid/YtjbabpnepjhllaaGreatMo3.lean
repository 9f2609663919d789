/- Of any kernel, an operation, facts, and facts more: the law DutiesMore tells true, and what was handed in reads as it did. No conditions. -/
import Derived.Test.YtjbabpnepjhllaaGreatMo2
import Derived.Test.YtjbabpnepjhllaaGreatWords21
import Derived.Deep.Slices
import Derived.ProofKit
import Derived.Test.YtjbabpnepjhllaaGreatRows
import Derived.OpenShut
namespace Go.Proofs.YtjbabpnepjhllaaGreat
open Go.RowKit

/-- The product, with mod in place of mont. -/
def exK2 : Krn := { exK with ops := [⟨9, 2, -1, 0, -1, 0, 0⟩] }
theorem ex_check : checkK exK = true ∧ checkK exK2 = true := by constructor <;> kernel_rfl
theorem ex_ahead : AheadIs exK [startF exK] := by
  unfold AheadIs
  rw [if_pos ex_check.1]
  exact ⟨_, .op (show 0 < 1 by decide) rfl (by decide) (.done (Nat.le_refl _))⟩
theorem ex_ahead2 : AheadIs exK2 [startF exK2] := by
  unfold AheadIs
  rw [if_pos ex_check.2]
  exact ⟨_, .op (show 0 < 1 by decide) rfl (by decide) (.done (Nat.le_refl _))⟩
theorem ex_miss : missF exK [startF exK] 0 = false ∧ missF exK2 [startF exK2] 0 = true := by constructor <;> kernel_rfl
theorem ex_is {at_ e : Int} (h : DChk exK [startF exK] at_ e) : at_ = 1 ∧ e = 0 := by
  rcases h with h | ⟨_, h | ⟨i, h1, h2, h3, h4, _⟩⟩
  · rw [ex_check.1] at h; exact absurd h.1 (by decide)
  · exact ⟨h.2.1, h.1⟩
  · have : i = 0 := by have : exK.ops.length = 1 := rfl; omega
    subst this
    rw [ex_miss.1] at h4; exact absurd h4 (by decide)
theorem ex_is2 {at_ e : Int} (h : DChk exK2 [startF exK2] at_ e) : at_ = 0 ∧ e = 9 := by
  rcases h with h | ⟨_, h | ⟨i, h1, h2, h3, h4, _⟩⟩
  · rw [ex_check.2] at h; exact absurd h.1 (by decide)
  · have := h.2.2 0 (by decide)
    rw [ex_miss.2] at this; exact absurd this (by decide)
  · have : i = 0 := by have : exK2.ops.length = 1 := rfl; omega
    subst this
    exact ⟨h3, h2⟩
theorem small64 {x : Int} (h : -100 ≤ x ∧ x ≤ 100) : In64 x := by unfold In64; omega
def smallOp (o : KOp) : Bool := [o.kind, o.d, o.e, o.a, o.b, o.c].all (fun x => decide (-100 ≤ x) && decide (x ≤ 100)) && decide (o.imm ≤ 100)
theorem small_ok {o : KOp} (h : smallOp o = true) : KOpOk o := by
  unfold smallOp at h
  simp only [List.all_cons, List.all_nil, Bool.and_eq_true, decide_eq_true_eq, Bool.and_true] at h
  obtain ⟨⟨h1, h2, h3, h4, h5, h6⟩, h7⟩ := h
  exact ⟨small64 h1, small64 h2, small64 h3, small64 h4, small64 h5, small64 h6, by omega⟩
/-- Rows, off cells. -/
theorem flat_at {rows : List (List Value)} {sz : Nat} (hs : ∀ r ∈ rows, r.length = sz) {i j : Nat} {r : List Value} {u : Value} (hr : rows[i]? = some r) (hu : r[j]? = some u) : rows.flatten.toArray[i * sz + j]? = some u := by
  rw [List.getElem?_toArray]
  induction rows generalizing i with
  | nil => cases hr
  | cons a l ih =>
    have ha := hs a (by simp)
    cases i with
    | zero =>
      simp only [List.getElem?_cons_zero, Option.some.injEq] at hr
      subst hr
      rw [List.flatten_cons, Nat.zero_mul, Nat.zero_add, List.getElem?_append_left (List.getElem?_eq_some_iff.1 hu).1]
      exact hu
    | succ i =>
      rw [List.getElem?_cons_succ] at hr
      have h := ih (fun r h => hs r (by simp [h])) hr
      rw [List.flatten_cons, List.getElem?_append_right (by rw [ha, Nat.succ_mul]; omega), ha, show (i + 1) * sz + j - sz = i * sz + j by rw [Nat.succ_mul]; omega]
      exact h
theorem rows_block {w : World} {g sz t n cap : Nat} {fr : Nat × Nat} {rows : List (List Value)} (h : w.heap[g]? = some (.cells rows.flatten.toArray t fr)) (hs : ∀ r ∈ rows, r.length = sz) (hn : rows.length = n) (hcap : n ≤ cap) : Rows w (fun k => k = g) sz (.slice (some ⟨g, 0, none⟩) n cap) rows :=
  row_block h (fun _ _ _ _ hr hu => flat_at hs hr hu) hs hn hcap
theorem ex_kern {w : World} {b1 b2 b3 : Nat} {oc : Array Value} (k : Krn) (hv : k.vars = exK.vars) (hq : k.reqs = exK.reqs) (hl : k.ops.length = 1) (ho : ∀ o ∈ k.ops, smallOp o = true) (hoc : oc = (k.ops.map kopRow).flatten.toArray)
    (h1 : w.heap[b1]? = some (.cells vCells 60 (0, 0))) (h2 : w.heap[b2]? = some (.cells oc 43 (0, 0))) (h3 : w.heap[b3]? = some (.cells rCells 43 (0, 0))) :
    KernAt w (fun q => q < w.heap.size) [.slice (some ⟨b1, 0, none⟩) 3 3, .slice (some ⟨b2, 0, none⟩) 1 1, .slice (some ⟨b3, 0, none⟩) 2 2] k := by
  have g1 := lt_of_block h1
  have g2 := lt_of_block h2
  have g3 := lt_of_block h3
  have r1 : KVarsAt w (fun q => q < w.heap.size) (.slice (some ⟨b1, 0, none⟩) 3 3) k.vars := by
    rw [hv]
    exact Rows.mono (rows_block (rows := exK.vars.map kvarRow) h1 (fun r hr => by obtain ⟨x, _, rfl⟩ := List.mem_map.1 hr; rfl) rfl (by decide)) fun q hq => by subst hq; exact g1
  have r2 : KOpsAt w (fun q => q < w.heap.size) (.slice (some ⟨b2, 0, none⟩) 1 1) k.ops :=
    Rows.mono (rows_block (rows := k.ops.map kopRow) (hoc ▸ h2) (fun r hr => by obtain ⟨x, _, rfl⟩ := List.mem_map.1 hr; rfl) (by rw [List.length_map]; exact hl) (by decide)) fun q hq => by subst hq; exact g2
  have r3 : KOpsAt w (fun q => q < w.heap.size) (.slice (some ⟨b3, 0, none⟩) 2 2) k.reqs := by
    rw [hq]
    exact Rows.mono (rows_block (rows := exK.reqs.map kopRow) h3 (fun r hr => by obtain ⟨x, _, rfl⟩ := List.mem_map.1 hr; rfl) rfl (by decide)) fun q hq => by subst hq; exact g3
  refine ⟨⟨_, _, _, rfl, r1, r2, r3⟩, by rw [hv]; decide, by rw [hl]; decide, by rw [hq]; decide, ?_, fun o h => small_ok (ho o h), ?_⟩
  · rw [hv]
    intro v h
    have : v.limbs = 1 ∧ (v.mode = 2 ∨ v.mode = 3) := by
      simp only [exK, List.mem_cons, List.not_mem_nil, or_false] at h
      rcases h with rfl | rfl | rfl <;> simp
    unfold In64; omega
  · rw [hq]
    intro o h
    exact small_ok (by
      simp only [exK, List.mem_cons, List.not_mem_nil, or_false] at h
      rcases h with rfl | rfl <;> rfl)
set_option maxRecDepth 100000 in
set_option maxHeartbeats 8000000 in
/-- lives. -/
theorem lives_any (w : World) : Calls Tryz.prog 8 #[] w fun e w' => e = .returned (.bool true) ∧ Below w.heap.size w w' := by
  have HEX := Lib.hid (example_any w)
  go_enter Tryz.func8, Tryz.ntmps8
  go_upto_region 2 with (first | ((with_reducible refine HEX.out.mono ?_); rintro e w1 ⟨b1, b2, b3, rfl, g1, g2, g3, h1, h2, h3, hb1⟩) | go_in)
  obtain ⟨W, hW⟩ : ∃ W, W = w1.alloc (.cells #[.slice (some ⟨b1, 0, none⟩) 3 3, .slice (some ⟨b2, 0, none⟩) 1 1, .slice (some ⟨b3, 0, none⟩) 2 2] 25) := ⟨_, rfl⟩
  rw [← hW]
  have hbW : Below w1.heap.size w1 W := by rw [hW]; exact (Below.refl _ _).alloc (Nat.le_refl _) _
  have hbox : W.heap[w1.heap.size]? = some (.cells #[.slice (some ⟨b1, 0, none⟩) 3 3, .slice (some ⟨b2, 0, none⟩) 1 1, .slice (some ⟨b3, 0, none⟩) 2 2] 25 (0, 0)) := by rw [hW]; exact heap_alloc_new w1 _
  have h1' := keep_blk h1 hbW
  have h2' := keep_blk h2 hbW
  have h3' := keep_blk h3 hbW
  have hk := ex_kern exK rfl rfl rfl (by intro o h; simp only [exK, List.mem_cons, List.not_mem_nil, or_false] at h; subst h; rfl) rfl h1' h2' h3'
  have HC1 := Lib.hid (DCheck_any (some ⟨b1, 0, none⟩) (some ⟨b2, 0, none⟩) (some ⟨b3, 0, none⟩) 3 3 1 1 2 2 exK [startF exK] W _ hk (fun k hk => hk) (by decide) ex_ahead)
  have c0 : W.cell? ⟨w1.heap.size, 0, none⟩ = some (.slice (some ⟨b1, 0, none⟩) 3 3) := by simp [World.cell?, hbox]
  have c1 : W.cell? ⟨w1.heap.size, 1, none⟩ = some (.slice (some ⟨b2, 0, none⟩) 1 1) := by simp [World.cell?, hbox]
  have c2 : W.cell? ⟨w1.heap.size, 2, none⟩ = some (.slice (some ⟨b3, 0, none⟩) 2 2) := by simp [World.cell?, hbox]
  have HBX := Lib.hid hbox
  have HK1 := Lib.hid h1'
  have HK2 := Lib.hid h2'
  have HK3 := Lib.hid h3'
  have hsz : w1.heap.size < W.heap.size := lt_of_block hbox
  have HL := Lib.hid (And.intro (lt_of_block h1) (And.intro (lt_of_block h2) (lt_of_block h3)))
  have HBW := Lib.hid (hb1.trans (hbW.mono hb1.size))
  have HGE := Lib.hid g2
  obtain ⟨B, hB⟩ : ∃ b, b = w1.heap.size := ⟨_, rfl⟩
  rw [← hB] at c0 c1 c2 HBX HL hsz ⊢
  have HSZ := Lib.hid hsz
  clear hW hbW hbox h1' h2' h3' hk h1 h2 h3 g1 g2 g3 hb1 hB hsz
  go_upto_region 3 with (first | ((with_reducible refine HC1.out.mono ?_); rintro e w2 ⟨a1, e1, rfl, hd, hb⟩; obtain ⟨rfl, rfl⟩ := ex_is hd; have HB2 := Lib.hid hb; clear hd hb) | go_in)
  clear c0 c1 c2
  have HCB := Lib.hid (show ∀ w_, Below w2.heap.size w2 w_ → w_.cell? ⟨B, 0, none⟩ = some (.slice (some ⟨b1, 0, none⟩) 3 3) ∧ w_.cell? ⟨B, 1, none⟩ = some (.slice (some ⟨b2, 0, none⟩) 1 1) ∧ w_.cell? ⟨B, 2, none⟩ = some (.slice (some ⟨b3, 0, none⟩) 2 2) from fun w_ h_ => by
    have h := keep_blk (keep_blk HBX.out HB2.out) h_
    refine ⟨?_, ?_, ?_⟩ <;> simp [World.cell?, h])
  have HM := Lib.hid (show ∀ w_, Below w2.heap.size w2 w_ → w_.heap[b2]? = some (.cells oCells 43 (0, 0)) from fun w_ h_ => keep_blk (keep_blk HK2.out HB2.out) h_)
  have hS := (Below.refl w2.heap.size w2).drew
  (refine wp_region_lines (Below w2.heap.size w2) (by kernel_rfl) (by kernel_rfl) ((Below.refl w2.heap.size w2).drew) ?_)
  (try simp only [])
  repeat (first | (refine runL_no (by rfl) ?_; (try simp only [Act.put, List.setIfInBounds_toArray, List.set_cons_zero, List.set_cons_succ])) | (refine runL_val (v := ?_) (by rfl) ?_ ?_; rotate_left; (focus (intro w_ hw_; have f0_ := (HCB.out w_ hw_).1; have f1_ := (HCB.out w_ hw_).2.1; have f2_ := (HCB.out w_ hw_).2.2; go_simp; (try with_reducible rfl); done)); (try simp only [Act.put, List.setIfInBounds_toArray, List.set_cons_zero, List.set_cons_succ])) | (refine runL_call (f := ?_) (args := ?_) (w1 := ?_) (by rfl) (by rfl) ?_ ?_; rotate_left 3; (focus (go_simp; refine ⟨⟨?_, ?_⟩, ?_⟩ <;> with_reducible rfl)); (with_reducible refine (op_any _ _ _ _ _ _ _).mono ?_); rintro e_ w3 ⟨rfl, hb3⟩; replace hS := hS.trans (hb3.mono hS.size); clear hb3; refine ⟨_, rfl, .inr hS, ?_⟩; (try simp only [Act.put, List.setIfInBounds_toArray, List.set_cons_zero, List.set_cons_succ])) | (refine runL_skip (w1 := w3.setRow b2 #[.int .i64 9, .int .i64 2, .int .i64 (-1), .int .i64 0, .int .i64 (-1), .int .i64 0, .int .u64 0]) (by rfl) (by rfl) (sep_store 43 _ _ rfl b2 #[.int .i64 9, .int .i64 2, .int .i64 (-1), .int .i64 0, .int .i64 (-1), .int .i64 0, .int .u64 0] rfl rfl 43 oCells (HM.out w3 hS) (by kernel_rfl) (by rfl) (by kernel_rfl)) (.inl ⟨rfl, by kernel_rfl⟩) ?_; (try simp only [Act.put])))
  (refine runL_nil ?_)
  obtain ⟨w4, hw4⟩ : ∃ q, q = w3.setRow b2 #[.int .i64 9, .int .i64 2, .int .i64 (-1), .int .i64 0, .int .i64 (-1), .int .i64 0, .int .u64 0] := ⟨_, rfl⟩
  have h24 : w4.heap[b2]? = some (.cells #[.int .i64 9, .int .i64 2, .int .i64 (-1), .int .i64 0, .int .i64 (-1), .int .i64 0, .int .u64 0] 43 (0, 0)) := by rw [hw4]; exact setRow_heap _ _ _ _ _ _ (HM.out w3 hS)
  have hoth : ∀ g, g ≠ b2 → w4.heap[g]? = w3.heap[g]? := fun g hg => by rw [hw4]; exact setRow_other _ _ _ _ hg
  have hne1 : b1 ≠ b2 := fun e => by
    have h1 := HK1.out
    rw [e, HK2.out] at h1
    simp [oCells, vCells] at h1
  have hne3 : b3 ≠ b2 := fun e => by
    have h1 := HK3.out
    rw [e, HK2.out] at h1
    simp [oCells, rCells] at h1
  have h14 := (hoth b1 hne1).trans (keep_blk (keep_blk HK1.out HB2.out) hS)
  have h34 := (hoth b3 hne3).trans (keep_blk (keep_blk HK3.out HB2.out) hS)
  have hbx4 := (hoth B (by have := HL.out.2.1; omega)).trans (keep_blk (keep_blk HBX.out HB2.out) hS)
  have HB4 := Lib.hid (show Below w.heap.size w w4 by
    have h := (HBW.out.trans ((HB2.out.trans (hS.mono HB2.out.size)).mono HBW.out.size))
    rw [hw4]
    exact below_setRow h HGE.out _)
  have c0 : w4.cell? ⟨B, 0, none⟩ = some (.slice (some ⟨b1, 0, none⟩) 3 3) := by simp [World.cell?, hbx4]
  have c1 : w4.cell? ⟨B, 1, none⟩ = some (.slice (some ⟨b2, 0, none⟩) 1 1) := by simp [World.cell?, hbx4]
  have c2 : w4.cell? ⟨B, 2, none⟩ = some (.slice (some ⟨b3, 0, none⟩) 2 2) := by simp [World.cell?, hbx4]
  have hk := ex_kern exK2 rfl rfl rfl (by intro o h; simp only [exK2, List.mem_cons, List.not_mem_nil, or_false] at h; subst h; rfl) rfl h14 h24 h34
  have HC2 := Lib.hid (DCheck_any (some ⟨b1, 0, none⟩) (some ⟨b2, 0, none⟩) (some ⟨b3, 0, none⟩) 3 3 1 1 2 2 exK2 [startF exK2] w4 _ hk (fun k hk => hk) (by decide) ex_ahead2)
  rw [← hw4]
  clear hw4 h24 hoth hne1 hne3 h14 h34 hbx4 hk hS
  go_wp2_with (first | ((with_reducible refine HC2.out.mono ?_); rintro e w5 ⟨a2, e2, rfl, hd, hb⟩; obtain ⟨rfl, rfl⟩ := ex_is2 hd; have HB5 := Lib.hid hb; clear hd hb) | go_in)
  go_ret
  exact ⟨rfl, HB4.out.trans (HB5.out.mono HB4.out.size)⟩
end Go.Proofs.YtjbabpnepjhllaaGreat

/- keysmithkit.Own, of facts; facts onto facts; the law of more facts. -/
namespace Go.Proofs.YtjbabpnepjhllaaGreat
open Go.RowKit

theorem append_none {P : Program} (w : World) (t ty e : TypeId) (i : TypeInfo) (ht : P.underlying t = some (.slice e)) (hi : P.info? e = some i) (a : Addr) (n cap c : Nat) (hn : n ≤ cap) :
    (Builtin.append_ #[t, t] ty #[.slice (some a) n cap, .slice none 0 c]).run P w = .ok (.slice (some a) n cap) w := by
  simp [Builtin.append_, run_underlying ht, sizeOf, typeInfo, hi, Builtin.lenOf, Builtin.firstCells, storeCells, hn]
set_option maxHeartbeats 400000 in
theorem OwnF_nil (c : Nat) (w : World) :
    Calls Tryz.prog 31 #[.slice none 0 c] w fun e w' => e = .returned (.slice (some ⟨w.heap.size, 0, none⟩) 0 0) ∧ w' = w.alloc (.cells #[] 45) := by
  obtain ⟨i0, hi, hz0, hz1, hz2⟩ := info_parts infoFact
  have h0 := fun (w : World) (a : Addr) => append_none (P := Tryz.prog) w 39 39 45 i0 Tryz.underlying39 hi a 0 0 c (Nat.le_refl _)
  clear hz0 hz1 hz2
  go_enter Tryz.func31, Tryz.ntmps31
  go_wp2
  go_ret
  exact ⟨rfl, rfl⟩
set_option maxHeartbeats 400000 in
theorem OwnF_some (ad : Addr) (n c : Nat) (w : World) (news : List Value) (hl : news.length = n * 3) (hc : ∀ (j : Nat) (u : Value), news[j]? = some u → w.cell? (ad.add j) = some u) (h1 : ∀ u ∈ news, u.oneCell' = true) (hn : n ≤ 3518437208000) :
    Calls Tryz.prog 31 #[.slice (some ad) n c] w fun e w' => ∃ v, e = .returned v ∧ w'.ownsRow w.heap.size 45 3 v n news ∧ v ≠ .slice none 0 0 ∧ Below w.heap.size w w' := by
  obtain ⟨i0, hi, hz0, hz1, hz2⟩ := info_parts infoFact
  have hc2 : ∀ (j : Nat) (u : Value), news[j]? = some u → (w.alloc (.cells #[] 45)).cell? (ad.add j) = some u := fun j u hu => by
    have := hc j u hu
    rw [World.cell?_alloc_lt _ _ _ (World.block_lt_of_cell? w _ this)]; exact this
  have HC := Lib.hid hc2
  have HL := Lib.hid hl
  have H1 := Lib.hid h1
  clear hc hc2 hl h1
  go_enter Tryz.func31, Tryz.ntmps31
  go_wp2_with ((at_builtin; refine wpList_append_own_at _ rfl _ _ 39 rfl w.heap.size 45 i0 (.agg #[.int .i64 0, .int .i64 0, .int .i64 0]) 3 24 Tryz.underlying39 hi hz0 hz1 hz2 rfl (by decide) _ 0 [] rfl (own_zero w _ _) ad n c news rfl HL.out HC.out H1.out (by unfold maxLen; omega) (by omega) (by simp) ?_); intro v w1 hown hg hnn _; have HNN := Lib.hid hnn; clear hnn)
  go_ret
  exact ⟨v, rfl, by simpa using hown, fun e => (nomatch ((HNN.out.1 e).1)), ((Below.refl _ _).alloc (Nat.le_refl _) _).grown hg (by simp) (fun k hk => Nat.le_of_eq (Option.some.inj hk))⟩
theorem fact_one (l : List Fct) : ∀ u ∈ (l.map factRow).flatten, u.oneCell' = true := fun u hu => by
  obtain ⟨r, hr, hu2⟩ := List.mem_flatten.1 hu
  obtain ⟨x, _, rfl⟩ := List.mem_map.1 hr
  simp only [factRow, List.mem_cons, List.not_mem_nil, or_false] at hu2
  rcases hu2 with rfl | rfl | rfl <;> rfl
theorem cellsF_eq (l : List Fct) : cellsOfF l = (l.map factRow).flatten := rfl
theorem OwnF_any (v : Value) (l : List Fct) (w : World) (F : Nat → Prop) (hl : FactsAt w F v l) (hn : l.length ≤ 1000000) :
    Calls Tryz.prog 31 #[v] w fun e w' => ∃ g cap, e = .returned (.slice (some ⟨g, 0, none⟩) l.length cap) ∧ w'.ownsRow w.heap.size 45 3 (.slice (some ⟨g, 0, none⟩) l.length cap) l.length (cellsOfF l) ∧ l.length ≤ cap ∧ Below w.heap.size w w' := by
  have hr' := hl
  obtain ⟨A, c, rfl, hc, hsz, hne⟩ := hr'
  rw [List.length_map] at *
  cases A with
  | none =>
    have h0 : l = [] := by
      rcases l with _ | ⟨r, rs⟩
      · rfl
      · obtain ⟨b, off, hA, _⟩ := hne (by simp); cases hA
    subst h0
    refine (OwnF_nil c w).mono ?_
    rintro e w' ⟨rfl, rfl⟩
    exact ⟨_, 0, rfl, own_zero w _ _, Nat.le_refl _, (Below.refl _ _).alloc (Nat.le_refl _) _⟩
  | some ad =>
    have hl2 : Rows w F 3 (.slice (some ad) l.length c) (l.map factRow) := hl
    obtain ⟨hfl, hfc⟩ := hl2.flat (by decide)
    refine (OwnF_some ad l.length c w (l.map factRow).flatten (by rw [hfl]) hfc (fact_one l) (by omega)).mono ?_
    rintro e w' ⟨v, rfl, hown, hnn, hb⟩
    have hown2 : w'.ownsRow w.heap.size 45 3 v l.length (cellsOfF l) := hown
    rcases hown.2 with ⟨h1, _⟩ | ⟨g, cap, cur, hv, hg, hh, hnc, _⟩
    · exact absurd h1 hnn
    · subst hv
      exact ⟨g, cap, rfl, hown2, hnc, hb⟩
theorem exec_appendFs {o : Oper} {a : Act} {w : World} {base g n cap m c : Nat} {A : Option Addr} {F : Nat → Prop} {xs more : List Fct} (s x : Operand) (ho : o.op = .call { callee := .builtin .append, args := #[s, x], argTypes := #[39, 39] })
    (hs : a.eval s = .slice (some ⟨g, 0, none⟩) n cap) (hown : w.ownsRow base 45 3 (.slice (some ⟨g, 0, none⟩) n cap) n (cellsOfF xs)) (hcap : n ≤ cap) (hx : a.eval x = .slice A m c) (hm : FactsAt w F (.slice A m c) more) (h63 : n + m ≤ 1000000) (hbase : base ≤ w.heap.size) :
    ∃ A' c' w', (execOp a.eval o).run Tryz.prog w = .ok (.value (.slice A' (n + m) c')) w' ∧ w'.ownsRow base 45 3 (.slice A' (n + m) c') (n + m) (cellsOfF (xs ++ more)) ∧ Below base w w' := by
  obtain ⟨j0, hie, hy0, hy1, hy2⟩ := info_parts infoFact
  have hml := (rows_len hm).1
  have hcells : cellsOfF (xs ++ more) = cellsOfF xs ++ (more.map factRow).flatten := by rw [cellsF_eq, cellsF_eq, List.map_append, List.flatten_append]
  cases A with
  | none =>
    have h0 : more = [] := by
      obtain ⟨A', c', hv, _, _, hne⟩ := hm
      cases hv
      rcases more with _ | ⟨r, rs⟩
      · rfl
      · obtain ⟨b, off, hA, _⟩ := hne (by simp); cases hA
    subst h0
    have hm0 : m = 0 := hml
    subst hm0
    refine ⟨some ⟨g, 0, none⟩, cap, w, ?_, by rw [List.append_nil, Nat.add_zero]; exact hown, Below.refl _ _⟩
    unfold execOp
    simp only [ho, resolve, invoke, builtin, hs, hx, List.map_toArray, List.map_cons, List.map_nil, Sem.run_bind, append_none (P := Tryz.prog) w 39 o.type 45 j0 Tryz.underlying39 hie ⟨g, 0, none⟩ n cap c hcap, Result.andThen_ok, Sem.run_pure, Nat.add_zero]
  | some ad =>
    have hl2 : Rows w F 3 (.slice (some ad) m c) (more.map factRow) := hm
    obtain ⟨hfl, hfc⟩ := hl2.flat (by decide)
    obtain ⟨v', w', h1, h2, h3, _, h5⟩ := run_append_own_at (P := Tryz.prog) w base 39 o.type 45 j0 (.agg #[.int .i64 0, .int .i64 0, .int .i64 0]) 3 24 Tryz.underlying39 hie hy0 hy1 hy2 rfl (by decide) (.slice (some ⟨g, 0, none⟩) n cap) n (cellsOfF xs) hown ad m c (more.map factRow).flatten (by rw [hfl]) hfc (fact_one more) (by unfold maxLen; omega) (by omega) hbase
    obtain ⟨A', c', rfl⟩ := own_form h2
    refine ⟨A', c', w', ?_, by rw [hcells]; exact h2, (Below.refl base w).grown h3 hbase (fun k hk => (own_lt hown k hk).2)⟩
    unfold execOp
    simp only [ho, resolve, invoke, builtin, hs, hx, List.map_toArray, List.map_cons, List.map_nil, Sem.run_bind, h1, Result.andThen_ok, Sem.run_pure]
theorem runL_appendFs {ops : Array Oper} {Q : Act → World → Prop} {S : World → Prop} {o : Oper} {l : List Oper} {a : Act} {w : World} (hT : isT o = true) (hw : Region.wanted o (yielded ops a.tmps) = true) {base g n cap m c : Nat} {A : Option Addr} {F : Nat → Prop} {xs more : List Fct}
    (s x : Operand) (ho : o.op = .call { callee := .builtin .append, args := #[s, x], argTypes := #[39, 39] }) (hs : a.eval s = .slice (some ⟨g, 0, none⟩) n cap) (hown : w.ownsRow base 45 3 (.slice (some ⟨g, 0, none⟩) n cap) n (cellsOfF xs)) (hcap : n ≤ cap) (hx : a.eval x = .slice A m c) (hm : FactsAt w F (.slice A m c) more) (h63 : n + m ≤ 1000000) (hbase : base ≤ w.heap.size)
    (k : ∀ A' c' w', w'.ownsRow base 45 3 (.slice A' (n + m) c') (n + m) (cellsOfF (xs ++ more)) → Below base w w' → S w' ∧ runL Tryz.prog ops S Q l (a.put o.dst (.slice A' (n + m) c')) w') : runL Tryz.prog ops S Q (o :: l) a w := by
  obtain ⟨A', c', w', h1, h2, h3⟩ := exec_appendFs s x ho hs hown hcap hx hm h63 hbase
  obtain ⟨k1, k2⟩ := k A' c' w' h2 h3
  exact runL_op hT hw h1 (.inr k1) k2

/- The plain law. -/
theorem after_sub {k : Krn} {at_ : Int} {l m : List Fct} (h : ∀ x ∈ l, x ∈ m) : ∀ f ∈ after_at k at_ l, f ∈ after_at k at_ m := fun f hf => by
  unfold after_at at *
  split at hf
  · rename_i hc
    rw [if_pos hc]
    exact afterF_mono (fun x hx => mem_sortF.2 ⟨h x (mem_sortF.1 hx).1, (mem_sortF.1 hx).2⟩) hf
  · simp at hf
theorem after_ord (k : Krn) (at_ : Int) (l : List Fct) : OrdF (after_at k at_ l) := by
  unfold after_at
  split
  · exact ord_afterF (ord_sortF l)
  · exact List.Pairwise.nil
theorem after_len {k : Krn} {at_ : Int} {l : List Fct} (hv : k.vars.length ≤ 1000) (hl : l.length ≤ 1000) : (after_at k at_ l).length ≤ 90000 := by
  have hnd := ord_nodup (after_ord k at_ l)
  unfold after_at at *
  split
  · rename_i hc
    rw [if_pos hc] at hnd
    have hsl : (sortF l).length ≤ l.length := by
      have h1 := ord_nodup (ord_sortF l)
      exact List.Nodup.length_le_of_subset h1 fun f hf => (mem_sortF.1 hf).1
    by_cases h2 : (k.ops.getD at_.toNat ⟨0, 0, 0, 0, 0, 0, 0⟩).kind = 2 ∧ (k.ops.getD at_.toNat ⟨0, 0, 0, 0, 0, 0, 0⟩).d = (k.ops.getD at_.toNat ⟨0, 0, 0, 0, 0, 0, 0⟩).a
    · unfold afterF
      rw [if_pos h2]
      omega
    · have h := List.Nodup.length_le_of_subset hnd (l₂ := newsF k.vars (k.ops.getD at_.toNat ⟨0, 0, 0, 0, 0, 0, 0⟩) (sortF l) ++ sortF l) fun f hf => by
        rcases ((mem_afterF h2 f).1 hf).2 with h | h
        · exact List.mem_append.2 (.inl h)
        · exact List.mem_append.2 (.inr h.1)
      rw [List.length_append] at h
      have := newsF_len k.vars (k.ops.getD at_.toNat ⟨0, 0, 0, 0, 0, 0, 0⟩) (sortF l)
      omega
  · simp
theorem common_len (a b : List Fct) : (commonF a b).length ≤ a.length := List.Nodup.length_le_of_subset (ord_nodup (ord_sortF _)) fun _ hf => (mem_commonF.1 hf).1
theorem ord_ne {l : List Fct} (h : OrdF l) {i : Nat} {x y : Fct} (hx : l[i]? = some x) (hy : l[i + 1]? = some y) : y ≠ x := fun e => by
  subst e
  have hnd := ord_nodup h
  obtain ⟨h1, e1⟩ := List.getElem?_eq_some_iff.1 hx
  obtain ⟨h2, e2⟩ := List.getElem?_eq_some_iff.1 hy
  exact (List.pairwise_iff_getElem.1 hnd) i (i + 1) h1 h2 (by omega) (e1.trans e2.symm)
end Go.Proofs.YtjbabpnepjhllaaGreat

/- law21: DutiesMore, the walk. -/
namespace Go.Proofs.YtjbabpnepjhllaaGreat
open Go.RowKit

theorem more_facts {w : World} {base n : Nat} {v : Value} {l : List Fct} (h : w.ownsRow base 45 3 v n (cellsOfF l)) (hn : n = l.length) : FactsAt w (fun q => q < w.heap.size) v l := by
  subst hn
  exact Rows.mono (facts_own h) fun q hq => (own_lt h q hq).1
theorem light_parts {k : Krn} (h : lightK k = true) : k.vars.length ≤ 16 ∧ k.ops.length ≤ 40 ∧ k.reqs.length ≤ 40 := by
  unfold lightK at h
  simp only [Bool.and_eq_true, decide_eq_true_eq] at h
  exact h.2
set_option maxRecDepth 100000 in
set_option maxHeartbeats 20000000 in
/-- DutiesMore. -/
theorem more_any (Av Ao Ar Al Am : Option Addr) (nv cv no co nr cr nl cl nm cm : Nat) (k : Krn) (at_ : Int) (l m : List Fct) (w : World) (hk : KernAt w (fun q => q < w.heap.size) [.slice Av nv cv, .slice Ao no co, .slice Ar nr cr] k)
    (hl : FactsAt w (fun q => q < w.heap.size) (.slice Al nl cl) l) (hm : FactsAt w (fun q => q < w.heap.size) (.slice Am nm cm) m) (hokl : ∀ f ∈ l, FctOk f) (hokm : ∀ f ∈ m, FctOk f) :
    Calls Tryz.prog 7 #[.agg #[.slice Av nv cv, .slice Ao no co, .slice Ar nr cr], .int .i64 at_, .slice Al nl cl, .slice Am nm cm] w fun e w' => e = .returned (.bool true) ∧ Below w.heap.size w w' := by
  obtain ⟨W, hW⟩ : ∃ W, W = w.alloc (.cells #[.slice Av nv cv, .slice Ao no co, .slice Ar nr cr] 25) := ⟨_, rfl⟩
  have hb : Below w.heap.size w W := by rw [hW]; exact (Below.refl _ _).alloc (Nat.le_refl _) _
  have hbox : W.heap[w.heap.size]? = some (.cells #[.slice Av nv cv, .slice Ao no co, .slice Ar nr cr] 25 (0, 0)) := by rw [hW]; exact heap_alloc_new w _
  have hk2 : KernAt W (fun k => k < W.heap.size) [.slice Av nv cv, .slice Ao no co, .slice Ar nr cr] k := (hk.keep (SameOn.of_below hb fun q hq => hq)).mono fun j hj => by have := hb.size; omega
  have hkb := kbox_of hbox hk2
  have HW := Lib.hid hW
  have HB := Lib.hid hb
  have HK := Lib.hid hkb
  have HLV := Lib.hid (lives_any W)
  have HLK := Lib.hid (fun (w1 : World) (h1 : Below W.heap.size W w1) => light_any Av Ao Ar nv cv no co nr cr k w1 _ (kern_next hk2 h1) (fun k hk => hk))
  have HL1 := Lib.hid (LightFacts_any Al nl cl)
  have HL2 := Lib.hid (LightFacts_any Am nm cm)
  have c0 := hkb.c0
  have c1 := hkb.c1
  have c2 := hkb.c2
  cases hL : lightK k
  · rw [hL] at HLK
    clear hW hb hbox hk2 hkb hk hl hm hokl hokm hL c0 c1 c2
    go_enter Tryz.func7, Tryz.ntmps7
    go_upto_region 1 with (first | go_in)
    rw [← HW.out]
    clear HW
    go_upto_region 3 with (first | ((with_reducible refine HLV.out.mono ?_); rintro e w1 ⟨rfl, hb1⟩; have HB1 := Lib.hid hb1; clear hb1) | go_in)
    have c0 := (HK.out.next HB1.out).c0
    have c1 := (HK.out.next HB1.out).c1
    have c2 := (HK.out.next HB1.out).c2
    go_wp2_with (first | ((with_reducible refine (HLK.out _ HB1.out).mono ?_); rintro e w2 ⟨rfl, hb2⟩; have HB2 := Lib.hid (HB1.out.trans (hb2.mono HB1.out.size)); clear hb2) | ((with_reducible refine (HL1.out _).mono ?_); rintro e w2 ⟨rfl, hw_⟩; subst hw_) | ((with_reducible refine (HL2.out _).mono ?_); rintro e w2 ⟨rfl, hw_⟩; subst hw_) | go_in)
    go_ret
    exact ⟨rfl, HB.out.trans (HB2.out.mono HB.out.size)⟩
  rw [hL] at HLK
  by_cases h1 : nl ≤ 40
  rotate_left
  · rw [decide_eq_false h1] at HL1
    clear hW hb hbox hk2 hkb hk hl hm hokl hokm hL h1 c0 c1 c2
    go_enter Tryz.func7, Tryz.ntmps7
    go_upto_region 1 with (first | go_in)
    rw [← HW.out]
    clear HW
    go_upto_region 3 with (first | ((with_reducible refine HLV.out.mono ?_); rintro e w1 ⟨rfl, hb1⟩; have HB1 := Lib.hid hb1; clear hb1) | go_in)
    have c0 := (HK.out.next HB1.out).c0
    have c1 := (HK.out.next HB1.out).c1
    have c2 := (HK.out.next HB1.out).c2
    go_wp2_with (first | ((with_reducible refine (HLK.out _ HB1.out).mono ?_); rintro e w2 ⟨rfl, hb2⟩; have HB2 := Lib.hid (HB1.out.trans (hb2.mono HB1.out.size)); clear hb2) | ((with_reducible refine (HL1.out _).mono ?_); rintro e w2 ⟨rfl, hw_⟩; subst hw_) | ((with_reducible refine (HL2.out _).mono ?_); rintro e w2 ⟨rfl, hw_⟩; subst hw_) | go_in)
    go_ret
    exact ⟨rfl, HB.out.trans (HB2.out.mono HB.out.size)⟩
  rw [decide_eq_true h1] at HL1
  by_cases h2 : nm ≤ 40
  rotate_left
  · rw [decide_eq_false h2] at HL2
    clear hW hb hbox hk2 hkb hk hl hm hokl hokm hL h1 h2 c0 c1 c2
    go_enter Tryz.func7, Tryz.ntmps7
    go_upto_region 1 with (first | go_in)
    rw [← HW.out]
    clear HW
    go_upto_region 3 with (first | ((with_reducible refine HLV.out.mono ?_); rintro e w1 ⟨rfl, hb1⟩; have HB1 := Lib.hid hb1; clear hb1) | go_in)
    have c0 := (HK.out.next HB1.out).c0
    have c1 := (HK.out.next HB1.out).c1
    have c2 := (HK.out.next HB1.out).c2
    go_wp2_with (first | ((with_reducible refine (HLK.out _ HB1.out).mono ?_); rintro e w2 ⟨rfl, hb2⟩; have HB2 := Lib.hid (HB1.out.trans (hb2.mono HB1.out.size)); clear hb2) | ((with_reducible refine (HL1.out _).mono ?_); rintro e w2 ⟨rfl, hw_⟩; subst hw_) | ((with_reducible refine (HL2.out _).mono ?_); rintro e w2 ⟨rfl, hw_⟩; subst hw_) | go_in)
    go_ret
    exact ⟨rfl, HB.out.trans (HB2.out.mono HB.out.size)⟩
  rw [decide_eq_true h2] at HL2
  obtain ⟨hv16, _, _⟩ := light_parts hL
  have hnl := (rows_len hl).1
  have hnm := (rows_len hm).1
  have hlW : FactsAt W (fun q => q < W.heap.size) (.slice Al nl cl) l := rows_next hl hb
  have hmW : FactsAt W (fun q => q < W.heap.size) (.slice Am nm cm) m := rows_next hm hb
  have HA1 := Lib.hid (fun (w3 : World) (h3 : Below W.heap.size W w3) => After_any Av Ao Ar Al nv cv no co nr cr nl cl k at_ l w3 _ (kern_next hk2 h3) (fun k hk => hk) (by omega) (rows_next hlW h3) hokl (by omega))
  have HA2 := Lib.hid (fun (w3 : World) (A : Option Addr) (c : Nat) (h3 : Below W.heap.size W w3) (h4 : FactsAt w3 (fun q => q < w3.heap.size) (.slice A (l.length + nm) c) (l ++ m)) => After_any Av Ao Ar A nv cv no co nr cr (l.length + nm) c k at_ (l ++ m) w3 _ (kern_next hk2 h3) (fun k hk => hk) (by omega) h4 (fun f hf => by rcases List.mem_append.1 hf with h | h; exact hokl f h; exact hokm f h) (by rw [List.length_append]; omega))
  have HOW := Lib.hid (fun (w3 : World) (h3 : Below W.heap.size W w3) => OwnF_any (.slice Al nl cl) l w3 _ (rows_next hlW h3) (by omega))
  have HCO := Lib.hid (fun (w3 : World) (h3 : Below W.heap.size W w3) => Common_any Al Am nl cl nm cm l m w3 _ (rows_next hlW h3) (rows_next hmW h3) (fun k hk => hk) hokl (by omega) (by omega))
  have HLW := Lib.hid hlW
  have HMW := Lib.hid hmW
  have HN := Lib.hid (And.intro hnl hnm)
  have HSUB := Lib.hid (after_sub (k := k) (at_ := at_) (l := l) (m := l ++ m) fun x hx => List.mem_append.2 (.inl hx))
  have HLEN := Lib.hid (show (after_at k at_ l).length ≤ 90000 ∧ (after_at k at_ (l ++ m)).length ≤ 90000 from ⟨after_len (by omega) (by omega), after_len (by omega) (by rw [List.length_append]; omega)⟩)
  have HCL := Lib.hid (show (commonF l m).length ≤ 90000 from Nat.le_trans (common_len l m) (by omega))
  have HORD := Lib.hid (after_ord k at_ l)
  have HSZ := Lib.hid (And.intro h1 h2)
  obtain ⟨a, ha⟩ : ∃ a, a = after_at k at_ l := ⟨_, rfl⟩
  obtain ⟨b, hbb⟩ : ∃ b, b = after_at k at_ (l ++ m) := ⟨_, rfl⟩
  obtain ⟨c, hcc⟩ : ∃ c, c = commonF l m := ⟨_, rfl⟩
  have HCM := Lib.hid (show ∀ f ∈ c, f ∈ l ∧ f ∈ m from fun f hf => by rw [hcc] at hf; exact ⟨(mem_commonF.1 hf).1, (mem_commonF.1 hf).2.1⟩)
  rw [← ha] at HA1 HSUB HLEN HORD
  rw [← hbb] at HSUB HLEN
  rw [← hcc] at HCO HCL
  simp only [← hbb] at HA2
  clear hW hb hbox hk2 hkb hk hl hm hokl hokm hL h1 h2 c0 c1 c2 hv16 hnl hnm hlW hmW ha hbb hcc
  go_enter Tryz.func7, Tryz.ntmps7
  go_upto_region 1 with (first | go_in)
  rw [← HW.out]
  clear HW
  go_upto_region 3 with (first | ((with_reducible refine HLV.out.mono ?_); rintro e w1 ⟨rfl, hb1⟩; have HB1 := Lib.hid hb1; clear hb1) | go_in)
  have c0 := (HK.out.next HB1.out).c0
  have c1 := (HK.out.next HB1.out).c1
  have c2 := (HK.out.next HB1.out).c2
  go_upto_region 5 with (first | ((with_reducible refine (HLK.out _ HB1.out).mono ?_); rintro e w2 ⟨rfl, hb2⟩; have HB2 := Lib.hid (HB1.out.trans (hb2.mono HB1.out.size)); clear hb2) | ((with_reducible refine (HL1.out _).mono ?_); rintro e w2 ⟨rfl, hw_⟩; subst hw_) | ((with_reducible refine (HL2.out _).mono ?_); rintro e w2 ⟨rfl, hw_⟩; subst hw_) | go_in)
  clear c0 c1 c2 HLV HLK HL1 HL2
  have HKB := Lib.hid (show ∀ w_, Below w2.heap.size w2 w_ → w_.cell? ⟨w.heap.size, 0, none⟩ = some (.slice Av nv cv) ∧ w_.cell? ⟨w.heap.size, 1, none⟩ = some (.slice Ao no co) ∧ w_.cell? ⟨w.heap.size, 2, none⟩ = some (.slice Ar nr cr) from fun w_ h_ => by
    have h := HK.out.next (HB2.out.trans (h_.mono HB2.out.size))
    exact ⟨h.c0, h.c1, h.c2⟩)
  have hS := (Below.refl w2.heap.size w2).drew
  have up : ∀ {w_}, Below w2.heap.size w2 w_ → Below W.heap.size W w_ := fun h => HB2.out.trans (h.mono HB2.out.size)
  (refine wp_region_lines (Below w2.heap.size w2) (by kernel_rfl) (by kernel_rfl) ((Below.refl w2.heap.size w2).drew) ?_)
  (try simp only [])
  repeat (first | (refine runL_no (by rfl) ?_; (try simp only [Act.put, List.setIfInBounds_toArray, List.set_cons_zero, List.set_cons_succ])) | (refine runL_val (v := ?_) (by rfl) ?_ ?_; rotate_left; (focus (intro w_ hw_; have f0_ := (HKB.out w_ hw_).1; have f1_ := (HKB.out w_ hw_).2.1; have f2_ := (HKB.out w_ hw_).2.2; go_simp; (try with_reducible rfl); done)); (try simp only [Act.put, List.setIfInBounds_toArray, List.set_cons_zero, List.set_cons_succ])) | (refine runL_call (f := ?_) (args := ?_) (w1 := ?_) (by rfl) (by rfl) ?_ ?_; rotate_left 3; (focus (go_simp; refine ⟨⟨?_, ?_⟩, ?_⟩ <;> with_reducible rfl)); (with_reducible refine (HA1.out _ (up hS)).mono ?_); rintro e_ w3 ⟨A5, n5, c5, rfl, hf5, hb3⟩; have HF5 := Lib.hid hf5; replace hS := hS.trans (hb3.mono hS.size); have HS3 := Lib.hid hS.size; clear hf5 hb3; refine ⟨_, rfl, .inr hS, ?_⟩; (try simp only [Act.put, List.setIfInBounds_toArray, List.set_cons_zero, List.set_cons_succ])) | (refine runL_call (f := ?_) (args := ?_) (w1 := ?_) (by rfl) (by rfl) ?_ ?_; rotate_left 3; (focus (go_simp; refine ⟨⟨?_, ?_⟩, ?_⟩ <;> with_reducible rfl)); (with_reducible refine (HOW.out w3 (up hS)).mono ?_); rintro e_ w4 ⟨g4, cap4, rfl, ho4, hc4, hb4⟩; have HO4 := Lib.hid ho4; have HC4 := Lib.hid hc4; have HB4 := Lib.hid hb4; replace hS := hS.trans (hb4.mono hS.size); clear ho4 hc4 hb4; refine ⟨_, rfl, .inr hS, ?_⟩; (try simp only [Act.put, List.setIfInBounds_toArray, List.set_cons_zero, List.set_cons_succ])) | (refine runL_call (f := ?_) (args := ?_) (w1 := ?_) (by rfl) (by rfl) ?_ ?_; rotate_left 3; (focus (go_simp; refine ⟨⟨?_, ?_⟩, ?_⟩ <;> with_reducible rfl)); (with_reducible refine (HA2.out w6 A6 c6 (up hS) HF6.out).mono ?_); rintro e_ w7 ⟨A7, n7, c7, rfl, hf7, hb7⟩; have HF7 := Lib.hid hf7; have HB7 := Lib.hid hb7; replace hS := hS.trans (hb7.mono hS.size); clear hf7 hb7; refine ⟨_, rfl, .inr hS, ?_⟩; (try simp only [Act.put, List.setIfInBounds_toArray, List.set_cons_zero, List.set_cons_succ])) | (refine runL_appendFs (base := w3.heap.size) (F := fun q => q < w4.heap.size) (xs := l) (more := m) (by rfl) (by rfl) _ _ rfl (by rfl) HO4.out HC4.out (by rfl) (rows_next HMW.out (up hS)) (by have := HN.out.1; have := HSZ.out; omega) HB4.out.size ?_; intro A6 c6 w6 ho6 hb6; have HF6 := Lib.hid (more_facts ho6 (by rw [List.length_append, ← HN.out.2])); have HB6 := Lib.hid (HB4.out.trans hb6); replace hS := hS.trans (hb6.mono HS3.out); clear ho6 hb6; refine ⟨hS, ?_⟩; (try simp only [Act.put, List.setIfInBounds_toArray, List.set_cons_zero, List.set_cons_succ])))
  (refine runL_nil ?_)
  have HS := Lib.hid (up hS)
  have HFA := Lib.hid (show FactsAt w7 (fun q => q < w7.heap.size) (.slice A5 n5 c5) a from rows_next HF5.out (HB6.out.trans (HB7.out.mono HB6.out.size)))
  have n5a := (rows_len HF5.out).1
  have HN5 := Lib.hid n5a
  have hn5 : n5 ≤ 90000 := by have := HLEN.out.1; omega
  clear hS up HF5 HO4 HC4 HF6 HB6 HB7 HB4 HS3 HKB HA1 HA2 HOW n5a
  go_wp2
  go_loopw [8, 11] (fun _ s11 wr => ∃ j : Nat, j ≤ n5 ∧ s11 = .int .i64 (j : Nat) ∧ Below w7.heap.size w7 wr) (fun _ s11 _ => n5 - (intOf s11).toNat)
  case atStart => exact ⟨0, Nat.zero_le _, rfl, Below.refl _ _⟩
  case round =>
    obtain ⟨j, hj, rfl, hbr⟩ := hrel
    have HBR := Lib.hid hbr
    by_cases hlt : j < n5
    · have d1 : decide (j < n5) = true := decide_eq_true hlt
      obtain ⟨x, hx⟩ : ∃ v, a[j]? = some v := ⟨_, List.getElem?_eq_getElem (by have := HN5.out; omega)⟩
      have hxa := List.mem_of_getElem? hx
      have HX := Lib.hid hx
      have HK1 := Lib.hid (fun (w_ : World) (h : Below wr.heap.size wr w_) => Knows_any (.slice A7 n7 c7) x b w_ _ (rows_next HF7.out (hbr.trans (h.mono hbr.size))) (fun k hk => hk) (by have := HLEN.out.2; omega))
      have HK2 := Lib.hid (fun (w_ : World) (h : Below wr.heap.size wr w_) => Knows_any (.slice A5 n5 c5) x a w_ _ (rows_next HFA.out (hbr.trans (h.mono hbr.size))) (fun k hk => hk) (by have := HLEN.out.1; omega))
      rw [knowsF_mem (HSUB.out x hxa)] at HK1
      rw [knowsF_mem hxa] at HK2
      have hat := rows_next HFA.out hbr
      obtain ⟨g, off, hA, hg, z0, z1, z2⟩ := FactsAt.at_ hat hx
      have HFC := Lib.hid (show ∀ w_, Below wr.heap.size wr w_ → w_.cell? ⟨g, off + j * 3, none⟩ = some (.int .i64 x.kind) ∧ w_.cell? ⟨g, off + j * 3 + 1, none⟩ = some (.int .i64 x.a) ∧ w_.cell? ⟨g, off + j * 3 + 2, none⟩ = some (.int .i64 x.b) from fun w_ h => ⟨(h.cell (p := ⟨g, off + j * 3, none⟩) hg).trans z0, (h.cell (p := ⟨g, off + j * 3 + 1, none⟩) hg).trans z1, (h.cell (p := ⟨g, off + j * 3 + 2, none⟩) hg).trans z2⟩)
      have i0 : (0 : Int) ≤ (j : Int) := by omega
      have i1 : (j : Int) < (n5 : Int) := by omega
      have i2 : IntKind.i64.wrap (j : Int) = j := by rw [IntKind.wrap_i64]; omega
      clear hx hxa z0 z1 z2
      by_cases h0 : j = 0
      · have d3 : decide (0 < j) = false := decide_eq_false (by omega)
        have d4 : decide ((0 : Int) < (j : Int)) = false := decide_eq_false (by omega)
        subst hA
        clear h0 hat hbr hg
        go_upto_region 9 with (first | go_in)
        have hS := (Below.refl wr.heap.size wr).drew
        (refine wp_region_lines (Below wr.heap.size wr) (by kernel_rfl) (by kernel_rfl) ((Below.refl wr.heap.size wr).drew) ?_)
        (try simp only [])
        repeat (first | (refine runL_no (by rfl) ?_; (try simp only [Act.put, List.setIfInBounds_toArray, List.set_cons_zero, List.set_cons_succ])) | (refine runL_val (v := ?_) (by rfl) ?_ ?_; rotate_left; (focus (intro w_ hw_; obtain ⟨f0_, f1_, f2_⟩ := HFC.out w_ hw_; go_simp; (try with_reducible rfl); done)); (try simp only [Act.put, List.setIfInBounds_toArray, List.set_cons_zero, List.set_cons_succ])) | (refine runL_call (f := ?_) (args := ?_) (w1 := ?_) (by rfl) (by rfl) ?_ ?_; rotate_left 3; (focus (go_simp; refine ⟨⟨?_, ?_⟩, ?_⟩ <;> with_reducible rfl)); (first | with_reducible refine (HK1.out _ hS).mono ?_ | with_reducible refine (HK2.out _ hS).mono ?_); rintro e_ w8 ⟨rfl, hb8⟩; replace hS := hS.trans (hb8.mono hS.size); clear hb8; refine ⟨_, rfl, .inr hS, ?_⟩; (try simp only [Act.put, List.setIfInBounds_toArray, List.set_cons_zero, List.set_cons_succ])))
        (refine runL_nil ?_)
        have HS8 := Lib.hid hS
        clear hS
        go_wp2
        go_roundw
        case rel => exact ⟨j + 1, hlt, by go_num, HBR.out.trans (HS8.out.mono HBR.out.size)⟩
        case measure => simp [intOf]; omega
      · obtain ⟨i, hi⟩ : ∃ i, j = i + 1 := ⟨j - 1, by omega⟩
        have d3 : decide (0 < j) = true := decide_eq_true (by omega)
        have d4 : decide ((0 : Int) < (j : Int)) = true := decide_eq_true (by omega)
        obtain ⟨y, hy⟩ : ∃ v, a[i]? = some v := ⟨_, List.getElem?_eq_getElem (by have := HN5.out; omega)⟩
        obtain ⟨g', off', hA', hg', z0, z1, z2⟩ := FactsAt.at_ hat hy
        have hAe := hA.symm.trans hA'
        simp only [Option.some.injEq, Addr.mk.injEq, and_true] at hAe
        obtain ⟨e1, e2⟩ := hAe
        subst e1; subst e2
        have HFD := Lib.hid (show ∀ w_, Below wr.heap.size wr w_ → w_.cell? ⟨g, off + i * 3, none⟩ = some (.int .i64 y.kind) ∧ w_.cell? ⟨g, off + i * 3 + 1, none⟩ = some (.int .i64 y.a) ∧ w_.cell? ⟨g, off + i * 3 + 2, none⟩ = some (.int .i64 y.b) from fun w_ h => ⟨(h.cell (p := ⟨g, off + i * 3, none⟩) hg).trans z0, (h.cell (p := ⟨g, off + i * 3 + 1, none⟩) hg).trans z1, (h.cell (p := ⟨g, off + i * 3 + 2, none⟩) hg).trans z2⟩)
        have hqe := fun w_ => eq_fact x y w_
        rw [show (x == y) = false from beq_eq_false_iff_ne.2 (ord_ne HORD.out hy (hi ▸ HX.out))] at hqe
        have i9 : IntKind.i64.wrap ((j : Int) - 1) = (i : Int) := by rw [IntKind.wrap_i64]; omega
        have i7 : (0 : Int) ≤ (i : Int) := by omega
        have i8 : (i : Int) < (n5 : Int) := by omega
        have i6 : IntKind.i64.wrap (i : Int) = i := by rw [IntKind.wrap_i64]; omega
        have HI := Lib.hid hi
        subst hA
        clear h0 hat hbr hg hg' hA' hy z0 z1 z2 hi
        go_upto_region 9 with (first | go_in)
        have hS := (Below.refl wr.heap.size wr).drew
        (refine wp_region_lines (Below wr.heap.size wr) (by kernel_rfl) (by kernel_rfl) ((Below.refl wr.heap.size wr).drew) ?_)
        (try simp only [])
        repeat (first | (refine runL_no (by rfl) ?_; (try simp only [Act.put, List.setIfInBounds_toArray, List.set_cons_zero, List.set_cons_succ])) | (refine runL_val (v := ?_) (by rfl) ?_ ?_; rotate_left; (focus (intro w_ hw_; obtain ⟨f0_, f1_, f2_⟩ := HFC.out w_ hw_; obtain ⟨f3_, f4_, f5_⟩ := HFD.out w_ hw_; have f6_ := hqe w_; go_simp; (try with_reducible rfl); done)); (try simp only [Act.put, List.setIfInBounds_toArray, List.set_cons_zero, List.set_cons_succ])) | (refine runL_call (f := ?_) (args := ?_) (w1 := ?_) (by rfl) (by rfl) ?_ ?_; rotate_left 3; (focus (go_simp; refine ⟨⟨?_, ?_⟩, ?_⟩ <;> with_reducible rfl)); (first | with_reducible refine (HK1.out _ hS).mono ?_ | with_reducible refine (HK2.out _ hS).mono ?_); rintro e_ w8 ⟨rfl, hb8⟩; replace hS := hS.trans (hb8.mono hS.size); clear hb8; refine ⟨_, rfl, .inr hS, ?_⟩; (try simp only [Act.put, List.setIfInBounds_toArray, List.set_cons_zero, List.set_cons_succ])))
        (refine runL_nil ?_)
        have HS8 := Lib.hid hS
        clear hS hqe
        go_wp2
        go_roundw
        case rel => exact ⟨j + 1, hlt, by go_num, HBR.out.trans (HS8.out.mono HBR.out.size)⟩
        case measure => simp [intOf]; omega
    · have d1 : decide (j < n5) = false := decide_eq_false hlt
      have HB8 := Lib.hid (HS.out.trans (hbr.mono HS.out.size))
      clear hbr
      go_upto_region 12 with (first | ((with_reducible refine (HCO.out _ HB8.out).mono ?_); rintro e w8 ⟨A8, n8, c8, rfl, hf8, hb8⟩; have HF8 := Lib.hid hf8; have HB9 := Lib.hid (HB8.out.trans (hb8.mono HB8.out.size)); clear hf8 hb8) | go_in)
      have n8a := (rows_len HF8.out).1
      have HN8 := Lib.hid n8a
      have hn8 : n8 ≤ 90000 := by have := HCL.out; omega
      clear n8a HBR HFA HF7
      go_wp2
      go_loopw [8, 13] (fun _ s13 wr => ∃ j : Nat, j ≤ n8 ∧ s13 = .int .i64 (j : Nat) ∧ Below w8.heap.size w8 wr) (fun _ s13 _ => n8 - (intOf s13).toNat)
      case atStart => exact ⟨0, Nat.zero_le _, rfl, Below.refl _ _⟩
      case round =>
        obtain ⟨i, hi, rfl, hbr⟩ := hrel
        have HBR := Lib.hid hbr
        by_cases hlt2 : i < n8
        · have d2 : decide (i < n8) = true := decide_eq_true hlt2
          obtain ⟨x, hx⟩ : ∃ v, c[i]? = some v := ⟨_, List.getElem?_eq_getElem (by have := HN8.out; omega)⟩
          have hxc := HCM.out x (List.mem_of_getElem? hx)
          have hup := HB9.out.trans (hbr.mono HB9.out.size)
          have HK1 := Lib.hid (fun (w_ : World) (h : Below wr.heap.size wr w_) => Knows_any (.slice Al nl cl) x l w_ _ (rows_next HLW.out (hup.trans (h.mono hup.size))) (fun k hk => hk) (by have := HSZ.out; have := HN.out; omega))
          have HK2 := Lib.hid (fun (w_ : World) (h : Below wr.heap.size wr w_) => Knows_any (.slice Am nm cm) x m w_ _ (rows_next HMW.out (hup.trans (h.mono hup.size))) (fun k hk => hk) (by have := HSZ.out; have := HN.out; omega))
          rw [knowsF_mem hxc.1] at HK1
          rw [knowsF_mem hxc.2] at HK2
          obtain ⟨g, off, rfl, hg, z0, z1, z2⟩ := FactsAt.at_ (rows_next HF8.out hbr) hx
          have HFC := Lib.hid (show ∀ w_, Below wr.heap.size wr w_ → w_.cell? ⟨g, off + i * 3, none⟩ = some (.int .i64 x.kind) ∧ w_.cell? ⟨g, off + i * 3 + 1, none⟩ = some (.int .i64 x.a) ∧ w_.cell? ⟨g, off + i * 3 + 2, none⟩ = some (.int .i64 x.b) from fun w_ h => ⟨(h.cell (p := ⟨g, off + i * 3, none⟩) hg).trans z0, (h.cell (p := ⟨g, off + i * 3 + 1, none⟩) hg).trans z1, (h.cell (p := ⟨g, off + i * 3 + 2, none⟩) hg).trans z2⟩)
          have i0 : (0 : Int) ≤ (i : Int) := by omega
          have i1 : (i : Int) < (n8 : Int) := by omega
          have i2 : IntKind.i64.wrap (i : Int) = i := by rw [IntKind.wrap_i64]; omega
          clear hx hxc hup hg hbr
          go_wp2_with (first | ((with_reducible refine (HK1.out _ (Below.refl _ _)).mono ?_); rintro e_ w10 ⟨rfl, hb10⟩; have HB10 := Lib.hid hb10; obtain ⟨z0, z1, z2⟩ := HFC.out _ hb10; clear hb10) | ((with_reducible refine (HK2.out _ HB10.out).mono ?_); rintro e_ w11 ⟨rfl, hb11⟩; have HB11 := Lib.hid (HB10.out.trans (hb11.mono HB10.out.size)); clear hb11) | go_in)
          go_roundw
          case rel => exact ⟨i + 1, hlt2, by go_num, HBR.out.trans (HB11.out.mono HBR.out.size)⟩
          case measure => simp [intOf]; omega
        · have d2 : decide (i < n8) = false := decide_eq_false hlt2
          clear hbr
          go_wp2
          go_ret
          exact ⟨rfl, HB.out.trans ((HB9.out.trans (HBR.out.mono HB9.out.size)).mono HB.out.size)⟩
end Go.Proofs.YtjbabpnepjhllaaGreat

/- Arguments of the types Kern, Fact, []Fact, opened. -/
namespace Go.Proofs.YtjbabpnepjhllaaGreat
open Go.ChangeShapes Go.WideShapes Go.Deep Go.RowKit

theorem list_of_all {α : Type} (Q : Nat → α → Prop) : ∀ n, (∀ i, i < n → ∃ x, Q i x) → ∃ L : List α, L.length = n ∧ ∀ (i : Nat) (x : α), L[i]? = some x → Q i x
  | 0, _ => ⟨[], rfl, fun i x h => by simp at h⟩
  | n + 1, h => by
    obtain ⟨L, hl, hq⟩ := list_of_all Q n (fun i hi => h i (by omega))
    obtain ⟨x, hx⟩ := h n (by omega)
    refine ⟨L ++ [x], by simp [hl], fun i y hy => ?_⟩
    rcases Nat.lt_or_ge i n with hi | hi
    · rw [List.getElem?_append_left (by omega)] at hy; exact hq i y hy
    · rw [List.getElem?_append_right (by omega)] at hy
      have : i - L.length = 0 := by
        rcases Nat.eq_zero_or_pos (i - L.length) with h | h
        · exact h
        · rw [List.getElem?_eq_none (by simp; omega)] at hy; cases hy
      rw [this] at hy
      simp at hy
      subst hy
      rw [show i = n from by omega]; exact hx

theorem plain_addr {w : World} {a : Addr} {k : Nat} {v : Value} (h : w.cell? (a.add k) = some v) (h0 : ∃ u, w.cell? a = some u) : a = ⟨a.block, a.off, none⟩ ∧ a.block < w.heap.size ∧ a.add k = ⟨a.block, a.off + k, none⟩ := by
  obtain ⟨u, hu⟩ := h0
  have hb := World.block_lt_of_cell? w a hu
  have hs : a.spot = none := by
    cases hsp : a.spot with
    | none => rfl
    | some s =>
      unfold World.cell? at hu
      split at hu
      · simp [hsp] at hu
      · cases hu
  have ha : a = ⟨a.block, a.off, none⟩ := by cases a; simp_all
  refine ⟨ha, hb, ?_⟩
  unfold Addr.add
  split
  · rename_i hk; subst hk; simpa using ha
  · rfl

section
variable {H : Type} {enc : TypeId × Value → H} {w : World}

theorem open_rows {α : Type} {T St sz : Nat} (row : α → List Value) (Q : α → Prop) (hT : Tryz.prog.underlying T = some (.slice St)) (hC : Tryz.prog.cellsOf St = sz) (h0 : 0 < sz) (hrow : ∀ x, (row x).length = sz)
    (each : ∀ fuel cs y, DataW.trod enc Tryz.prog w 0 (fun _ => true) true fuel St cs = some y → cs.length = sz → ∃ x, cs = row x ∧ Q x)
    {A : Option Addr} {n c : Nat} {d : DataW H} {ps : List MemPlace} (h : DataW.Trod enc Tryz.prog w 0 (fun _ => true) true T (.slice A n c) d ps) :
    ∃ l : List α, Rows w (fun k => k < w.heap.size) sz (.slice A n c) (l.map row) ∧ (∀ x ∈ l, Q x) ∧ l.length ≤ 9223372036854775807 := by
  obtain ⟨fuel, hf⟩ := h
  rcases open_slice hT hf with ⟨hcs, _⟩ | ⟨a, len, cap, m, q, D, Pl, hcs, _, hl, hm, hmm, _, hi⟩
  · simp [Value.cells] at hcs
    obtain ⟨rfl, rfl, rfl⟩ := hcs
    exact ⟨[], ⟨none, 0, rfl, by simp, by simp, fun h => absurd rfl h⟩, by simp, by simp⟩
  · simp [Value.cells] at hcs
    obtain ⟨rfl, rfl, rfl⟩ := hcs
    simp only [if_true] at hmm
    have ech : ∀ i, i < n → ∃ x : α, Q x ∧ ∀ (j : Nat) (u : Value), (row x)[j]? = some u → w.cell? (a.add (i * sz + j)) = some u := fun i hin => by
      obtain ⟨cs', hc, ht⟩ := hi i (by omega)
      rw [hC] at hc
      obtain ⟨_, hlen, hat⟩ := World.cells?_some hc
      obtain ⟨x, rfl, hq⟩ := each _ _ _ ht hlen
      refine ⟨x, hq, fun j u hu => ?_⟩
      have := hat j (by rw [← hlen]; exact (List.getElem?_eq_some_iff.1 hu).1)
      rw [← add_add, this, hu]
    obtain ⟨L, hL, hq⟩ := list_of_all _ n ech
    refine ⟨L, ⟨some a, c, by simp [hL], by simp [hL]; omega, fun r hr => by obtain ⟨x, _, rfl⟩ := List.mem_map.1 hr; exact hrow x, fun hne => ?_⟩, fun x hx => ?_, by rw [hL]; unfold maxLen at hm; omega⟩
    · have hpos : 0 < L.length := by
        cases L with
        | nil => simp at hne
        | cons => simp
      have hl0 := hrow L[0]
      obtain ⟨u0, hu0⟩ : ∃ u, (row L[0])[0]? = some u := by
        cases hx : row L[0] with
        | nil => rw [hx] at hl0; simp at hl0; omega
        | cons u us => exact ⟨u, rfl⟩
      have hp0 := (hq 0 L[0] (List.getElem?_eq_getElem hpos)).2 0 u0 hu0
      have h00 : ∃ u, w.cell? a = some u := ⟨_, by simpa [Addr.add] using hp0⟩
      obtain ⟨ha, hb, _⟩ := plain_addr hp0 h00
      refine ⟨a.block, a.off, by rw [← ha], hb, fun i j r u hr hu => ?_⟩
      rw [List.getElem?_map] at hr
      cases hpi : L[i]? with
      | none => rw [hpi] at hr; cases hr
      | some x =>
        rw [hpi] at hr
        cases hr
        have hc := (hq i x hpi).2 j u hu
        obtain ⟨_, _, hadd⟩ := plain_addr hc h00
        rw [hadd] at hc
        rw [show a.off + i * sz + j = a.off + (i * sz + j) from by omega]
        exact hc
    · obtain ⟨i, hi⟩ := List.mem_iff_getElem?.1 hx
      exact (hq i x hi).1

theorem trod_u64 {fuel : Nat} {cs : List Value} {y : DataW H × List MemPlace} (h : DataW.trod enc Tryz.prog w 0 (fun _ => true) true fuel 41 cs = some y) : ∃ n : Nat, cs = [.int .u64 n] ∧ n < 18446744073709551616 := by
  obtain ⟨z, hz, _, hwf⟩ := DataW.trod_int Tryz.underlying41 h
  have hzb : 0 ≤ z ∧ z ≤ 18446744073709551615 := by simpa [Lit.wf, IntKind.min, IntKind.max, IntKind.bits, IntKind.signed] using hwf
  exact ⟨z.toNat, by rw [hz]; congr 2; omega, by omega⟩
theorem trod_i64 {fuel : Nat} {cs : List Value} {y : DataW H × List MemPlace} (h : DataW.trod enc Tryz.prog w 0 (fun _ => true) true fuel 3 cs = some y) : ∃ z : Int, cs = [.int .i64 z] ∧ -9223372036854775808 ≤ z ∧ z ≤ 9223372036854775807 := by
  obtain ⟨z, hz, _, hwf⟩ := DataW.trod_int Tryz.underlying3 h
  have hzb : -9223372036854775808 ≤ z ∧ z ≤ 9223372036854775807 := by simpa [Lit.wf, IntKind.min, IntKind.max, IntKind.bits, IntKind.signed] using hwf
  exact ⟨z, hz, hzb⟩
end
section
variable {H : Type} {enc : TypeId × Value → H} {w : World}
theorem trod_bool1 {fuel : Nat} {cs : List Value} {y : DataW H × List MemPlace} (h : DataW.trod enc Tryz.prog w 0 (fun _ => true) true fuel 4 cs = some y) : ∃ b, cs = [.bool b] := by
  obtain ⟨b, hb, _⟩ := DataW.trod_bool Tryz.underlying4 h
  exact ⟨b, hb⟩
theorem trod_form {T St fuel : Nat} {c : Value} {y : DataW H × List MemPlace} (hT : Tryz.prog.underlying T = some (.slice St)) (h : DataW.trod enc Tryz.prog w 0 (fun _ => true) true fuel T [c] = some y) : ∃ A n k, c = .slice A n k := by
  rcases open_slice hT h with ⟨hcs, _⟩ | ⟨a, len, cap, m, q, D, Pl, hcs, _⟩
  · cases hcs; exact ⟨_, _, _, rfl⟩
  · cases hcs; exact ⟨_, _, _, rfl⟩
set_option maxRecDepth 100000 in
theorem open_kvar (fuel : Nat) (cs : List Value) (y : DataW H × List MemPlace) (h : DataW.trod enc Tryz.prog w 0 (fun _ => true) true fuel 60 cs = some y) (hl : cs.length = 3) : ∃ x : KVar, cs = kvarRow x ∧ (In64 x.limbs ∧ In64 x.mode) := by
  obtain ⟨xs, f, _, _, hlen, hxl, hfs⟩ := DataW.trod_struct Tryz.underlying60 h
  match cs, hl with
  | [c0, c1, c2], _ =>
    match xs, hxl with
    | [y0, y1, y2], _ =>
      have k_bool : Tryz.prog.cellsOf 4 = 1 := by kernel_rfl
      have k_int : Tryz.prog.cellsOf 3 = 1 := by kernel_rfl
      have t0 : DataW.trod enc Tryz.prog w 0 (fun _ => true) true f 3 (([c0, c1, c2].drop 0).take (Tryz.prog.cellsOf 3)) = some y0 := hfs 0 _ rfl
      have t1 : DataW.trod enc Tryz.prog w 0 (fun _ => true) true f 4 (([c0, c1, c2].drop 1).take (Tryz.prog.cellsOf 4)) = some y1 := hfs 1 _ rfl
      have t2 : DataW.trod enc Tryz.prog w 0 (fun _ => true) true f 3 (([c0, c1, c2].drop 2).take (Tryz.prog.cellsOf 3)) = some y2 := hfs 2 _ rfl
      rw [k_bool] at t1
      rw [k_int] at t0 t2
      simp only [List.drop_zero, List.drop_succ_cons, List.take_succ_cons, List.take_zero] at t0 t1 t2
      obtain ⟨a0, h0, b0⟩ := trod_i64 t0
      obtain ⟨a1, h1⟩ := trod_bool1 t1
      obtain ⟨a2, h2, b2⟩ := trod_i64 t2
      cases h0; cases h1; cases h2
      exact ⟨⟨a0, a1, a2⟩, rfl, ⟨b0, b2⟩⟩
set_option maxRecDepth 100000 in
theorem open_kop (fuel : Nat) (cs : List Value) (y : DataW H × List MemPlace) (h : DataW.trod enc Tryz.prog w 0 (fun _ => true) true fuel 43 cs = some y) (hl : cs.length = 7) : ∃ x : KOp, cs = kopRow x ∧ KOpOk x := by
  obtain ⟨xs, f, _, _, hlen, hxl, hfs⟩ := DataW.trod_struct Tryz.underlying43 h
  match cs, hl with
  | [c0, c1, c2, c3, c4, c5, c6], _ =>
    match xs, hxl with
    | [y0, y1, y2, y3, y4, y5, y6], _ =>
      have k_int : Tryz.prog.cellsOf 3 = 1 := by kernel_rfl
      have k_uint64 : Tryz.prog.cellsOf 41 = 1 := by kernel_rfl
      have t0 : DataW.trod enc Tryz.prog w 0 (fun _ => true) true f 3 (([c0, c1, c2, c3, c4, c5, c6].drop 0).take (Tryz.prog.cellsOf 3)) = some y0 := hfs 0 _ rfl
      have t1 : DataW.trod enc Tryz.prog w 0 (fun _ => true) true f 3 (([c0, c1, c2, c3, c4, c5, c6].drop 1).take (Tryz.prog.cellsOf 3)) = some y1 := hfs 1 _ rfl
      have t2 : DataW.trod enc Tryz.prog w 0 (fun _ => true) true f 3 (([c0, c1, c2, c3, c4, c5, c6].drop 2).take (Tryz.prog.cellsOf 3)) = some y2 := hfs 2 _ rfl
      have t3 : DataW.trod enc Tryz.prog w 0 (fun _ => true) true f 3 (([c0, c1, c2, c3, c4, c5, c6].drop 3).take (Tryz.prog.cellsOf 3)) = some y3 := hfs 3 _ rfl
      have t4 : DataW.trod enc Tryz.prog w 0 (fun _ => true) true f 3 (([c0, c1, c2, c3, c4, c5, c6].drop 4).take (Tryz.prog.cellsOf 3)) = some y4 := hfs 4 _ rfl
      have t5 : DataW.trod enc Tryz.prog w 0 (fun _ => true) true f 3 (([c0, c1, c2, c3, c4, c5, c6].drop 5).take (Tryz.prog.cellsOf 3)) = some y5 := hfs 5 _ rfl
      have t6 : DataW.trod enc Tryz.prog w 0 (fun _ => true) true f 41 (([c0, c1, c2, c3, c4, c5, c6].drop 6).take (Tryz.prog.cellsOf 41)) = some y6 := hfs 6 _ rfl
      rw [k_int] at t0 t1 t2 t3 t4 t5
      rw [k_uint64] at t6
      simp only [List.drop_zero, List.drop_succ_cons, List.take_succ_cons, List.take_zero] at t0 t1 t2 t3 t4 t5 t6
      obtain ⟨a0, h0, b0⟩ := trod_i64 t0
      obtain ⟨a1, h1, b1⟩ := trod_i64 t1
      obtain ⟨a2, h2, b2⟩ := trod_i64 t2
      obtain ⟨a3, h3, b3⟩ := trod_i64 t3
      obtain ⟨a4, h4, b4⟩ := trod_i64 t4
      obtain ⟨a5, h5, b5⟩ := trod_i64 t5
      obtain ⟨a6, h6, b6⟩ := trod_u64 t6
      cases h0; cases h1; cases h2; cases h3; cases h4; cases h5; cases h6
      exact ⟨⟨a0, a1, a2, a3, a4, a5, a6⟩, rfl, ⟨b0, b1, b2, b3, b4, b5, b6⟩⟩
set_option maxRecDepth 100000 in
theorem open_fct (fuel : Nat) (cs : List Value) (y : DataW H × List MemPlace) (h : DataW.trod enc Tryz.prog w 0 (fun _ => true) true fuel 45 cs = some y) (hl : cs.length = 3) : ∃ x : Fct, cs = factRow x ∧ FctOk x := by
  obtain ⟨xs, f, _, _, hlen, hxl, hfs⟩ := DataW.trod_struct Tryz.underlying45 h
  match cs, hl with
  | [c0, c1, c2], _ =>
    match xs, hxl with
    | [y0, y1, y2], _ =>
      have k_int : Tryz.prog.cellsOf 3 = 1 := by kernel_rfl
      have t0 : DataW.trod enc Tryz.prog w 0 (fun _ => true) true f 3 (([c0, c1, c2].drop 0).take (Tryz.prog.cellsOf 3)) = some y0 := hfs 0 _ rfl
      have t1 : DataW.trod enc Tryz.prog w 0 (fun _ => true) true f 3 (([c0, c1, c2].drop 1).take (Tryz.prog.cellsOf 3)) = some y1 := hfs 1 _ rfl
      have t2 : DataW.trod enc Tryz.prog w 0 (fun _ => true) true f 3 (([c0, c1, c2].drop 2).take (Tryz.prog.cellsOf 3)) = some y2 := hfs 2 _ rfl
      rw [k_int] at t0 t1 t2
      simp only [List.drop_zero, List.drop_succ_cons, List.take_succ_cons, List.take_zero] at t0 t1 t2
      obtain ⟨a0, h0, b0⟩ := trod_i64 t0
      obtain ⟨a1, h1, b1⟩ := trod_i64 t1
      obtain ⟨a2, h2, b2⟩ := trod_i64 t2
      cases h0; cases h1; cases h2
      exact ⟨⟨a0, a1, a2⟩, rfl, ⟨b0, b1, b2⟩⟩
theorem open_facts {A : Option Addr} {n c : Nat} {d : DataW H} {ps : List MemPlace} (h : DataW.Trod enc Tryz.prog w 0 (fun _ => true) true 39 (.slice A n c) d ps) :
    ∃ l : List Fct, FactsAt w (fun k => k < w.heap.size) (.slice A n c) l ∧ (∀ x ∈ l, FctOk x) ∧ l.length ≤ 9223372036854775807 :=
  open_rows factRow FctOk Tryz.underlying39 (by kernel_rfl) (by decide) (fun _ => rfl) open_fct h
theorem open_fact {cs : Array Value} {d : DataW H} {ps : List MemPlace} (h : DataW.Trod enc Tryz.prog w 0 (fun _ => true) true 45 (.agg cs) d ps) : ∃ f : Fct, cs = (factRow f).toArray ∧ FctOk f := by
  obtain ⟨fuel, hf⟩ := h
  obtain ⟨xs, f, _, _, hlen, hxl, hfs⟩ := DataW.trod_struct Tryz.underlying45 hf
  have hC : Tryz.prog.cellsOf 45 = 3 := by kernel_rfl
  rw [hC] at hlen
  obtain ⟨x, hx, hq⟩ := open_fct fuel cs.toList (d, ps) hf hlen
  exact ⟨x, by rw [← hx], hq⟩
set_option maxRecDepth 100000 in
theorem open_kern {cs : Array Value} {d : DataW H} {ps : List MemPlace} (h : DataW.Trod enc Tryz.prog w 0 (fun _ => true) true 25 (.agg cs) d ps) :
    ∃ (k : Krn) (Av Ao Ar : Option Addr) (nv cv no co nr cr : Nat), cs = #[.slice Av nv cv, .slice Ao no co, .slice Ar nr cr] ∧ KernAt w (fun k => k < w.heap.size) [.slice Av nv cv, .slice Ao no co, .slice Ar nr cr] k := by
  obtain ⟨fuel, hf⟩ := h
  obtain ⟨xs, f, _, _, hlen, hxl, hfs⟩ := DataW.trod_struct Tryz.underlying25 hf
  have hC : Tryz.prog.cellsOf 25 = 3 := by kernel_rfl
  rw [hC] at hlen
  have hcs : (Value.agg cs).cells.toList = cs.toList := rfl
  rw [hcs] at hlen hfs
  obtain ⟨l⟩ := cs
  simp only [] at hlen hfs
  match l, hlen with
  | [c0, c1, c2], _ =>
    match xs, hxl with
    | [y0, y1, y2], _ =>
      have t0 : DataW.trod enc Tryz.prog w 0 (fun _ => true) true f 22 (([c0, c1, c2].drop 0).take (Tryz.prog.cellsOf 22)) = some y0 := hfs 0 _ rfl
      have t1 : DataW.trod enc Tryz.prog w 0 (fun _ => true) true f 23 (([c0, c1, c2].drop 1).take (Tryz.prog.cellsOf 23)) = some y1 := hfs 1 _ rfl
      have t2 : DataW.trod enc Tryz.prog w 0 (fun _ => true) true f 23 (([c0, c1, c2].drop 2).take (Tryz.prog.cellsOf 23)) = some y2 := hfs 2 _ rfl
      have k0 : Tryz.prog.cellsOf 22 = 1 := by kernel_rfl
      have k1 : Tryz.prog.cellsOf 23 = 1 := by kernel_rfl
      rw [k0] at t0
      rw [k1] at t1 t2
      simp only [List.drop_zero, List.drop_succ_cons, List.take_succ_cons, List.take_zero] at t0 t1 t2
      obtain ⟨Av, nv, cv, rfl⟩ := trod_form Tryz.underlying22 t0
      obtain ⟨Ao, no, co, rfl⟩ := trod_form Tryz.underlying23 t1
      obtain ⟨Ar, nr, cr, rfl⟩ := trod_form Tryz.underlying23 t2
      obtain ⟨lv, hv, hvq, hvl⟩ := open_rows kvarRow (fun x : KVar => In64 x.limbs ∧ In64 x.mode) Tryz.underlying22 (by kernel_rfl) (by decide) (fun _ => rfl) open_kvar (d := y0.1) (ps := y0.2) ⟨f, t0⟩
      obtain ⟨lo, ho, hoq, hol⟩ := open_rows kopRow KOpOk Tryz.underlying23 (by kernel_rfl) (by decide) (fun _ => rfl) open_kop (d := y1.1) (ps := y1.2) ⟨f, t1⟩
      obtain ⟨lr, hr, hrq, hrl⟩ := open_rows kopRow KOpOk Tryz.underlying23 (by kernel_rfl) (by decide) (fun _ => rfl) open_kop (d := y2.1) (ps := y2.2) ⟨f, t2⟩
      exact ⟨⟨lv, lo, lr⟩, Av, Ao, Ar, nv, cv, no, co, nr, cr, rfl, ⟨⟨_, _, _, rfl, hv, ho, hr⟩, hvl, hol, hrl, hvq, hoq, hrq⟩⟩
end
end Go.Proofs.YtjbabpnepjhllaaGreat

/- Of any kernel, an operation, facts, and facts more: the law DutiesMore tells true, and what was handed in reads as it did. No conditions. -/
namespace Go.Proofs.YtjbabpnepjhllaaGreat.dutiesMore
open Go.ChangeShapes Go.WideShapes Go.ChangeAt Go.RowKit

theorem own : ownKnob Tryz.prog.godebug = none := by kernel_rfl
theorem laidOut : laidOutB Tryz.prog = true := by kernel_rfl

set_option maxRecDepth 100000 in
theorem lifted (os : Os) (started : os.Started) (H : Type) (enc : TypeId × Value → H) :
    ReturnsInHanded {} Tryz.checked os 7 .any (Rows.dutiesMoreSpec.pre6 enc Tryz.prog Tryz.f7 Rows.dutiesMoreRow.domain false) (Rows.dutiesMoreSpec.post enc Tryz.prog Tryz.f7 false true false false) := by
  refine returnsInHanded_of_change (C := Tryz.checked) own started (by kernel_rfl) Tryz.func7
    (ChangeSpec.witness6 (enc := enc) (C := Tryz.checked) false ⟨#[], #[.agg #[.slice none 0 0, .slice none 0 0, .slice none 0 0], .int .i64 0, .slice none 0 0, .slice none 0 0], []⟩ 8 (by kernel_rfl) (by kernel_rfl) (by kernel_rfl) (by kernel_rfl)) ?_
  intro W base args ds gs before hval0 hW hcnd _
  have hval : ∀ (j : Nat) t v, Tryz.f7.params[j]? = some t → args[j]? = some v → Value.okWide Tryz.prog W .any base t v := hval0
  have hW' := hW
  obtain ⟨p, q, hA0, hV, rfl, hfz, hnd⟩ := hW
  have hA : DataW.TrodAll enc Tryz.prog W 0 (fun _ => true) true Tryz.f7.params.toList args.toList ds p := hA0
  rw [Tryz.params7] at hA hval
  obtain ⟨v0, vs0, d0, ds0, p0, q0, hargs, rfl, rfl, h0, r0⟩ := trodAll_cons hA
  obtain ⟨v1, vs1, d1, ds1, p1, q1, rfl, rfl, rfl, h1, r1⟩ := trodAll_cons r0
  obtain ⟨v2, vs2, d2, ds2, p2, q2, rfl, rfl, rfl, h2, r2⟩ := trodAll_cons r1
  obtain ⟨v3, vs3, d3, ds3, p3, q3, rfl, rfl, rfl, h3, r3⟩ := trodAll_cons r2
  obtain ⟨rfl, rfl, rfl⟩ := trodAll_nil r3
  obtain rfl : args = #[v0, v1, v2, v3] := by cases args; simp_all
  obtain ⟨rfl, rfl⟩ := trodVars_none hV
  have k0 := h0
  have lt0 : ∀ x ∈ p0, x.block < W.heap.size := by obtain ⟨m, hm⟩ := k0; exact DataW.trod_lt m _ _ _ hm
  obtain ⟨cs0, rfl, hcs0⟩ := okWide_struct Tryz.underlying25 (hval 0 25 v0 rfl rfl)
  obtain ⟨K0, Av0, Ao0, Ar0, nv0, cv0, no0, co0, nr0, cr0, rfl, hk0⟩ := open_kern h0
  obtain ⟨a1, rfl, rfl, rfl, w1⟩ := open_int Tryz.underlying3 (hval 1 3 v1 rfl rfl) h1
  obtain ⟨A2, len2, cap2, rfl⟩ := okWide_slice Tryz.underlying39 (hval 2 39 v2 rfl rfl)
  have k2 := h2
  have lt2 : ∀ x ∈ p2, x.block < W.heap.size := by obtain ⟨m, hm⟩ := k2; exact DataW.trod_lt m _ _ _ hm
  obtain ⟨l2, hl2, hq2, hn2⟩ := open_facts h2
  obtain ⟨A3, len3, cap3, rfl⟩ := okWide_slice Tryz.underlying39 (hval 3 39 v3 rfl rfl)
  have k3 := h3
  have lt3 : ∀ x ∈ p3, x.block < W.heap.size := by obtain ⟨m, hm⟩ := k3; exact DataW.trod_lt m _ _ _ hm
  obtain ⟨l3, hl3, hq3, hn3⟩ := open_facts h3
  clear hA0 hval0
  refine (more_any Av0 Ao0 Ar0 A2 A3 nv0 cv0 no0 co0 nr0 cr0 len2 cap2 len3 cap3 K0 a1 l2 l3 W hk0 hl2 hl3 hq2 hq3).mono fun e W' ⟨he, bel⟩ => ?_
  subst he
  exact ⟨_, rfl, _, _, _, [], _, [], hW', trodAll_mk1 (shut_bool Tryz.underlying4 _), (trodAll_cons_mk (Below.trod laidOut (by kernel_rfl) (of_decide_eq_true (by kernel_rfl)) k0 bel lt0) (trodAll_cons_mk (shut_int Tryz.underlying3 w1) (trodAll_cons_mk (Below.trod laidOut (by kernel_rfl) (of_decide_eq_true (by kernel_rfl)) k2 bel lt2) (trodAll_cons_mk (Below.trod laidOut (by kernel_rfl) (of_decide_eq_true (by kernel_rfl)) k3 bel lt3) trodAll_mk0)))), rfl, bel.frame _, fun h => by cases h⟩

theorem over : Rows.dutiesMoreRow.holds Tryz.pinned (OpenSpec.ofChange Rows.dutiesMoreSpec) :=
  OpenClaim.holds_of_wide 7 Tryz.f7 rfl rfl rfl rfl rfl rfl rfl ⟨rfl, rfl, rfl, rfl, rfl⟩ rfl rfl rfl rfl rfl (by kernel_rfl) Tryz.func7 (by kernel_rfl)
    (of_decide_eq_true (by kernel_rfl)) (by unfold Func.isWrapper; first | (rw [if_pos (by decide +kernel)]; kernel_rfl) | (rw [if_neg (by decide +kernel)]; exact ⟨rfl, rfl⟩))
    (fun os started H enc _ => lifted os started H enc)

theorem proved : Rows.DutiesMoreSaid := over
#print axioms proved
end Go.Proofs.YtjbabpnepjhllaaGreat.dutiesMore
