
/- The keeper of places: free when nothing goes, take. -/
import Derived.Test.YtppoiahhaclleaaDoorTz14
import Derived.Test.YtppoiahhaclleaaDoorAllocD
namespace Go.Proofs.YtppoiahhaclleaaDoor
open Go.RowKit

def KeepAt (w : World) (k pool slots : Nat) (v : Value) : Prop := w.heap[k]? = some (.cells [Value.int .u64 pool, .int .u64 slots, v].toArray 73 (0, 0))
theorem KeepAt.cells {w : World} {k pool slots : Nat} {v : Value} (h : KeepAt w k pool slots v) : w.cell? ⟨k, 0, none⟩ = some (.int .u64 pool) ∧ w.cell? ⟨k, 1, none⟩ = some (.int .u64 slots) ∧ w.cell? ⟨k, 2, none⟩ = some v :=
  ⟨cell_row h rfl, cell_row h rfl, cell_row h rfl⟩
theorem KeepAt.drew {w : World} {k pool slots : Nat} {v : Value} (h : KeepAt w k pool slots v) : KeepAt w.drew k pool slots v := h
theorem KeepAt.next {w w' : World} {k pool slots : Nat} {v : Value} (h : KeepAt w k pool slots v) (hb : Below w.heap.size w w') : KeepAt w' k pool slots v := (hb.block k (lt_of_block h)).trans h
theorem KeepAt.grown {w w' : World} {k pool slots : Nat} {v : Value} {r : Option Nat} (h : KeepAt w k pool slots v) (hb : w.grownBy w' r) (hr : some k ≠ r) : KeepAt w' k pool slots v := (hb.block k (lt_of_block h) hr).trans h
theorem KeepAt.set0 {w : World} {k pool slots : Nat} {v : Value} (h : KeepAt w k pool slots v) (p : Nat) : KeepAt (w.setCell ⟨k, 0, none⟩ (.int .u64 p)) k p slots v := setCell_row h 0 _
theorem KeepAt.set1 {w : World} {k pool slots : Nat} {v : Value} (h : KeepAt w k pool slots v) (p : Nat) : KeepAt (w.setCell ⟨k, 1, none⟩ (.int .u64 p)) k pool p v := setCell_row h 1 _
theorem KeepAt.set2 {w : World} {k pool slots : Nat} {v : Value} (h : KeepAt w k pool slots v) (u : Value) : KeepAt (w.setCell ⟨k, 2, none⟩ u) k pool slots u := setCell_row h 2 _
theorem infoS : (Tryd.prog.info? 101).map (fun i => (i.zero, i.size, i.bytes)) = some (some (.agg #[.int .i64 0, .int .i64 0]), 2, 16) := by kernel_rfl

set_option maxRecDepth 100000 in
set_option maxHeartbeats 4000000 in
theorem free_zero {k pool slots c : Nat} {A : Option Addr} (now : Int) (w : World) (hk : KeepAt w k pool slots (.slice A 0 c)) :
    Calls Tryd.prog 37 #[.pointer (some ⟨k, 0, none⟩), .int .i64 now] w fun e w' => e = .returned (.tuple #[]) ∧ Below w.heap.size w w' := by
  have H := Lib.hid (fun f => SortS_one A c 0 f w (by omega))
  have f2 := hk.cells.2.2
  clear hk
  go_enter Tryd.func37, Tryd.ntmps37
  go_wp2_with ((with_reducible refine (H.out _).mono ?_); rintro e w1 ⟨rfl, rfl⟩)
  refine wp_loop_rounds 1 ?_
  rw [rounds_succ]
  go_wp2
  refine bodyPost_end (v := .tuple #[]) (results_none rfl _ _ _) rfl ?_
  exact ⟨rfl, Below.refl _ _⟩
set_option maxRecDepth 100000 in
set_option maxHeartbeats 4000000 in
theorem free_one {k pool slots g c : Nat} (now un : Int) (w : World) (hk : KeepAt w k pool slots (.slice (some ⟨g, 0, none⟩) 1 c)) (hg : w.cell? ⟨g, 1, none⟩ = some (.int .i64 un)) (hu : ¬ un < now) :
    Calls Tryd.prog 37 #[.pointer (some ⟨k, 0, none⟩), .int .i64 now] w fun e w' => e = .returned (.tuple #[]) ∧ Below w.heap.size w w' := by
  have H := Lib.hid (fun f => SortS_one (some ⟨g, 0, none⟩) c 1 f w (by omega))
  have f2 := hk.cells.2.2
  have hd : decide (un < now) = false := decide_eq_false hu
  clear hk hu
  go_enter Tryd.func37, Tryd.ntmps37
  go_wp2_with ((with_reducible refine (H.out _).mono ?_); rintro e w1 ⟨rfl, rfl⟩)
  refine wp_loop_rounds 1 ?_
  rw [rounds_succ]
  go_wp2
  refine bodyPost_end (v := .tuple #[]) (results_none rfl _ _ _) rfl ?_
  exact ⟨rfl, Below.refl _ _⟩

theorem chg_grown {F : Nat → Prop} {w w' : World} {r : Option Nat} (h : w.grownBy w' r) (hr : ∀ j, r = some j → F j) : Chg F w w' := ⟨h.os, h.tape, h.output, h.size, fun j hj hF => h.block j hj fun e => hF (hr j e.symm)⟩
theorem ctz_le (x : Nat) (h : x < 18446744073709551616) : Lib.ctz 64 x ≤ 64 := by
  by_cases h0 : x = 0
  · rw [h0]; decide
  · exact Nat.le_of_lt (Lib.lowest_bit 64 x h0 h).2
def andV (p : Nat) : Int := bits BinOp.and IntKind.u64 (p : Int) (IntKind.u64.wrap ((p : Int) - 1))
/-- What a register or a slot taken leaves behind. -/
structure Taken (base k pool slots n : Nat) (v : Value) (l : List (Int × Int)) (place un : Int) (w : World) (e : Ending) (w' : World) : Prop where
  is : e = .returned (.int .i64 place)
  held : ∃ A c, KeepAt w' k pool slots (.slice A (n + 1) c) ∧ w'.ownsRow base 101 2 (.slice A (n + 1) c) (n + 1) (spV (l ++ [(place, un)])) ∧ (Value.slice A (n + 1) c).ownBlock ≠ some k
  chg : Chg (fun j => j = k ∨ v.ownBlock = some j) w w'

set_option maxRecDepth 100000 in
set_option maxHeartbeats 4000000 in
theorem take_reg {base k pool slots n c p' : Nat} {A : Option Addr} {l : List (Int × Int)} (un : Int) (w : World) (hk : KeepAt w k pool slots (.slice A n c)) (hown : w.ownsRow base 101 2 (.slice A n c) n (spV l)) (hne : (Value.slice A n c).ownBlock ≠ some k)
    (hT : TzAt w) (hp : pool ≠ 0) (hp64 : pool < 18446744073709551616) (hn : n ≤ 1000) (hl : l.length = n) (hb : base ≤ w.heap.size) (hp' : andV pool = (p' : Int)) :
    Calls Tryd.prog 38 #[.pointer (some ⟨k, 0, none⟩), .int .i64 un] w fun e w' => Taken base k p' slots n (.slice A n c) l (Lib.ctz 64 pool : Nat) un w e w' := by
  have H := Lib.hid (tz_any pool hp64 w hT)
  have HKP := Lib.hid hk
  have HNE := Lib.hid hne
  obtain ⟨j0, hie, hy0, hy1, hy2⟩ := info_parts infoS
  have f0 := hk.cells.1
  have d0 : ((pool : Int) != 0) = true := by simp; omega
  obtain ⟨pl, hpl⟩ : ∃ x, (Lib.ctz 64 pool : Nat) = x := ⟨_, rfl⟩
  rw [hpl] at H ⊢
  have HP := Lib.hid hp'
  unfold andV at hp'
  obtain ⟨W3, hW3⟩ : ∃ q, q = w.drew.setCell ⟨k, 0, none⟩ (.int .u64 (p' : Nat)) := ⟨_, rfl⟩
  have hck : Chg (fun j => j = k ∨ (Value.slice A n c).ownBlock = some j) w W3 := by rw [hW3]; exact (Chg.refl _ w).drew.setCell (.inl (.inl rfl)) _
  have HC3 := Lib.hid hck
  have HKP3 := Lib.hid (show KeepAt W3 k p' slots (.slice A n c) by rw [hW3]; exact hk.drew.set0 p')
  have HOWN3 := Lib.hid (show W3.ownsRow base 101 2 (.slice A n c) n (spV l) from row_keep (fun g hg => by
    rw [hW3]; exact Below.heap_setCell _ _ _ _ (fun e => hne (hg.trans (congrArg some e)))) hown)
  have HBZ := Lib.hid (show base ≤ W3.heap.size from Nat.le_trans hb hck.size)
  have HW3 := Lib.hid hW3
  have HL := Lib.hid hl
  clear hk hown hne hT hp hp64 hl hb hW3 hck hpl
  go_enter Tryd.func38, Tryd.ntmps38
  go_wp2_with ((with_reducible refine (H.out).mono ?_); rintro e w1 ⟨rfl, rfl⟩)
  clear f0
  (refine wp_region_lines (fun w_ => KeepAt w_ k pool slots (.slice A n c)) (by kernel_rfl) (by kernel_rfl) HKP.out.drew ?_)
  (try simp only [])
  repeat (first | (refine runL_no (by rfl) ?_; (try simp only [Act.put, List.setIfInBounds_toArray, List.set_cons_zero, List.set_cons_succ])) | (refine runL_val (v := ?_) (by rfl) ?_ ?_; rotate_left; (focus (intro w_ hw_; have f0_ := hw_.cells.1; have f1_ := hw_.cells.2.1; go_simp; (try with_reducible rfl); done)); (try simp only [Act.put, List.setIfInBounds_toArray, List.set_cons_zero, List.set_cons_succ])) | (refine runL_skip (w1 := w1.drew.setCell ⟨k, 0, none⟩ (.int .u64 (p' : Nat))) (by rfl) (by rfl) (exec_store1 45 _ _ rfl k 0 _ rfl rfl (by kernel_rfl) (by show (World.cell? w1 _).isSome = true; rw [HKP.out.cells.1]; rfl) (frozen_row (row := [_, _, _]) HKP.out _) rfl) (.inl ⟨rfl, by kernel_rfl⟩) ?_; (try simp only [Act.put])))
  (refine runL_nil ?_)
  have f2 := HKP3.out.cells.2.2
  rw [← HW3.out]
  go_wp2_with ((at_builtin; refine wpList_append_own_at _ rfl _ _ 71 rfl base 101 j0 (.agg #[.int .i64 0, .int .i64 0]) 2 16 Tryd.underlying71 hie hy0 hy1 hy2 rfl (by decide) _ n _ rfl (HOWN3.out.alloc _) ⟨W3.heap.size, 0, none⟩ 1 1 [.int .i64 (pl : Nat), .int .i64 un] rfl (by simp) (World.news_of_block (cs := #[.int .i64 (pl : Nat), .int .i64 un]) (t := 101) (fr := (0, 0)) (heap_alloc_new W3 _)) (by simp [Value.oneCell']) (by unfold maxLen; omega) (by omega) (by have := HBZ.out; simp; omega) ?_); intro v6 w6 hown6 hg6 _ hwh6; obtain ⟨A6, c6, rfl⟩ := own_form hown6; have HOWN6 := Lib.hid hown6; have HG6 := Lib.hid hg6; have HWH6 := Lib.hid hwh6; clear hown6 hg6 hwh6; have HK6 := Lib.hid ((HKP3.out.next ((Below.refl _ _).alloc (Nat.le_refl _) _)).grown HG6.out (fun e => HNE.out e.symm)); have s2 := HK6.out.cells.2.2; have s3 := frozen_row (row := [_, _, _]) HK6.out 2)
  go_wp2
  go_ret
  have hkz := lt_of_block HKP3.out
  have hne6 : (Value.slice A6 (n + 1) c6).ownBlock ≠ some k := fun e => by
    rcases HWH6.out with h | h
    · exact HNE.out (h ▸ e)
    · rw [e] at h
      have h2 := Option.some.inj h
      simp at h2
      omega
  refine ⟨rfl, ⟨A6, c6, HK6.out.set2 _, ?_, hne6⟩, ?_⟩
  · rw [spV_append]
    exact row_keep (fun g hg => Below.heap_setCell _ _ _ _ (fun e => hne6 (hg.trans (congrArg some e)))) HOWN6.out
  · exact ((HC3.out.alloc _).trans (chg_grown HG6.out fun j hj => .inr hj)).setCell (.inl (.inl rfl)) _
set_option maxRecDepth 100000 in
set_option maxHeartbeats 4000000 in
theorem take_slot {base k pool slots n c p' : Nat} {A : Option Addr} {l : List (Int × Int)} (un : Int) (w : World) (hk : KeepAt w k pool slots (.slice A n c)) (hown : w.ownsRow base 101 2 (.slice A n c) n (spV l)) (hne : (Value.slice A n c).ownBlock ≠ some k)
    (hT : TzAt w) (hp : pool = 0) (hp64 : slots < 18446744073709551616) (hn : n ≤ 1000) (hl : l.length = n) (hb : base ≤ w.heap.size) (hp' : andV slots = (p' : Int)) :
    Calls Tryd.prog 38 #[.pointer (some ⟨k, 0, none⟩), .int .i64 un] w fun e w' => Taken base k pool p' n (.slice A n c) l (-1 - (Lib.ctz 64 slots : Nat)) un w e w' := by
  have H := Lib.hid (tz_any slots hp64 w hT)
  have HKP := Lib.hid hk
  have HNE := Lib.hid hne
  obtain ⟨j0, hie, hy0, hy1, hy2⟩ := info_parts infoS
  have f0 := hk.cells.1
  have f1 := hk.cells.2.1
  have d0 : ((pool : Int) != 0) = false := by subst hp; rfl
  have hz := ctz_le slots hp64
  obtain ⟨pl, hpl⟩ : ∃ x, (Lib.ctz 64 slots : Nat) = x := ⟨_, rfl⟩
  rw [hpl] at H hz ⊢
  have hw : IntKind.i64.wrap (-1 - (pl : Int)) = -1 - pl := by rw [IntKind.wrap_i64]; omega
  have HP := Lib.hid hp'
  unfold andV at hp'
  obtain ⟨W3, hW3⟩ : ∃ q, q = w.drew.setCell ⟨k, 1, none⟩ (.int .u64 (p' : Nat)) := ⟨_, rfl⟩
  have hck : Chg (fun j => j = k ∨ (Value.slice A n c).ownBlock = some j) w W3 := by rw [hW3]; exact (Chg.refl _ w).drew.setCell (.inl (.inl rfl)) _
  have HC3 := Lib.hid hck
  have HKP3 := Lib.hid (show KeepAt W3 k pool p' (.slice A n c) by rw [hW3]; exact hk.drew.set1 p')
  have HOWN3 := Lib.hid (show W3.ownsRow base 101 2 (.slice A n c) n (spV l) from row_keep (fun g hg => by
    rw [hW3]; exact Below.heap_setCell _ _ _ _ (fun e => hne (hg.trans (congrArg some e)))) hown)
  have HBZ := Lib.hid (show base ≤ W3.heap.size from Nat.le_trans hb hck.size)
  have HW3 := Lib.hid hW3
  have HL := Lib.hid hl
  clear hk hown hne hT hp hp64 hl hb hW3 hck hpl
  go_enter Tryd.func38, Tryd.ntmps38
  go_wp2_with ((with_reducible refine (H.out).mono ?_); rintro e w1 ⟨rfl, rfl⟩)
  clear f0 f1
  (refine wp_region_lines (fun w_ => KeepAt w_ k pool slots (.slice A n c)) (by kernel_rfl) (by kernel_rfl) HKP.out.drew ?_)
  (try simp only [])
  repeat (first | (refine runL_no (by rfl) ?_; (try simp only [Act.put, List.setIfInBounds_toArray, List.set_cons_zero, List.set_cons_succ])) | (refine runL_val (v := ?_) (by rfl) ?_ ?_; rotate_left; (focus (intro w_ hw_; have f0_ := hw_.cells.1; have f1_ := hw_.cells.2.1; go_simp; (try with_reducible rfl); done)); (try simp only [Act.put, List.setIfInBounds_toArray, List.set_cons_zero, List.set_cons_succ])) | (refine runL_skip (w1 := w1.drew.setCell ⟨k, 1, none⟩ (.int .u64 (p' : Nat))) (by rfl) (by rfl) (exec_store1 45 _ _ rfl k 1 _ rfl rfl (by kernel_rfl) (by show (World.cell? w1 _).isSome = true; rw [HKP.out.cells.2.1]; rfl) (frozen_row (row := [_, _, _]) HKP.out _) rfl) (.inl ⟨rfl, by kernel_rfl⟩) ?_; (try simp only [Act.put])))
  (refine runL_nil ?_)
  have f2 := HKP3.out.cells.2.2
  rw [← HW3.out]
  go_wp2_with ((at_builtin; refine wpList_append_own_at _ rfl _ _ 71 rfl base 101 j0 (.agg #[.int .i64 0, .int .i64 0]) 2 16 Tryd.underlying71 hie hy0 hy1 hy2 rfl (by decide) _ n _ rfl (HOWN3.out.alloc _) ⟨W3.heap.size, 0, none⟩ 1 1 [.int .i64 (-1 - (pl : Nat)), .int .i64 un] rfl (by simp) (World.news_of_block (cs := #[.int .i64 (-1 - (pl : Nat)), .int .i64 un]) (t := 101) (fr := (0, 0)) (heap_alloc_new W3 _)) (by simp [Value.oneCell']) (by unfold maxLen; omega) (by omega) (by have := HBZ.out; simp; omega) ?_); intro v6 w6 hown6 hg6 _ hwh6; obtain ⟨A6, c6, rfl⟩ := own_form hown6; have HOWN6 := Lib.hid hown6; have HG6 := Lib.hid hg6; have HWH6 := Lib.hid hwh6; clear hown6 hg6 hwh6; have HK6 := Lib.hid ((HKP3.out.next ((Below.refl _ _).alloc (Nat.le_refl _) _)).grown HG6.out (fun e => HNE.out e.symm)); have s2 := HK6.out.cells.2.2; have s3 := frozen_row (row := [_, _, _]) HK6.out 2)
  go_wp2
  go_ret
  have hkz := lt_of_block HKP3.out
  have hne6 : (Value.slice A6 (n + 1) c6).ownBlock ≠ some k := fun e => by
    rcases HWH6.out with h | h
    · exact HNE.out (h ▸ e)
    · rw [e] at h
      have h2 := Option.some.inj h
      simp at h2
      omega
  refine ⟨rfl, ⟨A6, c6, HK6.out.set2 _, ?_, hne6⟩, ?_⟩
  · rw [spV_append]
    exact row_keep (fun g hg => Below.heap_setCell _ _ _ _ (fun e => hne6 (hg.trans (congrArg some e)))) HOWN6.out
  · exact ((HC3.out.alloc _).trans (chg_grown HG6.out fun j hj => .inr hj)).setCell (.inl (.inl rfl)) _
end Go.Proofs.YtppoiahhaclleaaDoor
