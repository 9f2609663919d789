/- alloc.Build, over whatever keeper. -/
import Derived.Test.YtppoiahhaclleaaDoorBuildB
namespace Go.Proofs.YtppoiahhaclleaaDoor
open Go.RowKit

def OF (ord : List Int) (pl : Nat → Int) (m : Nat) : Nat → List Int
  | 0 => List.replicate m 0
  | k + 1 => (OF ord pl m k).set (ord.getD k 0).toNat (pl k)
theorem OF_len {ord : List Int} {pl : Nat → Int} {m k : Nat} : (OF ord pl m k).length = m := by
  induction k with
  | zero => simp [OF]
  | succ k ih => simp [OF, ih]
/-- A keeper that gives these places out. -/
def Keeps (sp : List (Int × Int)) (ord : List Int) (pool : Nat) (pl : Nat → Int) : Prop :=
  ∀ (w : World) (kb gs g gb go B : Nat), KeepAt w kb (2 ^ pool - 1) 18446744073709551615 (.slice none 0 0) → TzAt w → 0 < B → B ≤ w.heap.size → B ≤ kb → (kb ≠ gs ∧ kb ≠ g ∧ kb ≠ gb ∧ kb ≠ go) → (gs < w.heap.size ∧ g < w.heap.size ∧ gb < w.heap.size ∧ go < w.heap.size ∧ B ≤ go) →
    ∃ St : Nat → World → Prop, St 0 w ∧
    (∀ (k q : Nat) (s : Int × Int), ord[k]? = some (q : Int) → sp[q]? = some s → ∀ wr, St k wr → Calls Tryd.prog 37 #[.pointer (some ⟨kb, 0, none⟩), .int .i64 s.1] wr fun e w' => e = .returned (.tuple #[]) ∧ St k w' ∧ Chg (fun j => B ≤ j ∧ j ≠ gs ∧ j ≠ g ∧ j ≠ gb ∧ j ≠ go) wr w') ∧
    (∀ (k q : Nat) (s : Int × Int), ord[k]? = some (q : Int) → sp[q]? = some s → ∀ wr, St k wr → Calls Tryd.prog 38 #[.pointer (some ⟨kb, 0, none⟩), .int .i64 s.2] wr fun e w' => e = .returned (.int .i64 (pl k)) ∧ St (k + 1) w' ∧ Chg (fun j => B ≤ j ∧ j ≠ gs ∧ j ≠ g ∧ j ≠ gb ∧ j ≠ go) wr w') ∧
    (∀ k wr x v, St k wr → St k (wr.setCell ⟨go, x, none⟩ v))
theorem make_none (n : Nat) (hn : n ≤ 65536) (w : World) : (Instr.makeSlice 35 (.int .i64 0) (.int .i64 n)).run Tryd.prog w = .ok (.slice (some ⟨w.heap.size, 0, none⟩) 0 n) (w.alloc (.cells (intV (List.replicate n 0)).toArray 3)) := by
  obtain ⟨i0, hi, hz0, hz1, hz2⟩ := info_parts infoI
  have h := run_make (P := Tryd.prog) w 35 3 i0 (.int .i64 0) Tryd.underlying35 hi hz0 .i64 .i64 (0 : Nat) n (by omega) (by omega) (by rw [hz2]; omega) (by omega)
  rw [hz1] at h
  have e : (Value.int .i64 0).cells = #[.int .i64 0] := rfl
  have e2 : madeCells #[.int .i64 0] n = (intV (List.replicate n 0)).toArray := by
    refine Array.ext (by simp [size_madeCells, intV]) fun i h1 h2 => ?_
    simp [madeCells, Nat.mod_one, intV]
  rw [e] at h
  simp only [Int.toNat_natCast, Nat.mul_one, e2] at h
  exact h

set_option maxRecDepth 100000 in
set_option maxHeartbeats 4000000 in
theorem Build_bad (p : LP) (Ab Ao : Option Addr) (nb cb no co : Nat) (pool : Int) (w : World) (hp : ProgAt w (fun k => k < w.heap.size) [.int .i64 p.regs, .slice Ab nb cb, .slice Ao no co] p) (h0 : (checkF p 64).2 ≠ 0) :
    Calls Tryd.prog 13 #[.agg #[.int .i64 p.regs, .slice Ab nb cb, .slice Ao no co], .int .i64 pool] w fun e w' => e = .returned (.tuple #[.slice none 0 0, .int .i64 (checkF p 64).2]) ∧ Below w.heap.size w w' := by
  obtain ⟨W, hW, hbW, hzW, hl_, hr_⟩ := boxed w #[.int .i64 p.regs, .slice Ab nb cb, .slice Ao no co] 25
  have c0 : W.cell? ⟨w.heap.size, 0, none⟩ = some (.int .i64 p.regs) := by rw [hl_]; rfl
  have c1 : W.cell? ⟨w.heap.size, 1, none⟩ = some (.slice Ab nb cb) := by rw [hl_]; rfl
  have c2 : W.cell? ⟨w.heap.size, 2, none⟩ = some (.slice Ao no co) := by rw [hl_]; rfl
  have HC := Lib.hid (check_any p Ab Ao nb cb no co W (prog_next hp hbW))
  have HW := Lib.hid hW
  have HB := Lib.hid hbW
  obtain ⟨x, hx⟩ : ∃ x, (checkF p 64).1 = x := ⟨_, rfl⟩
  obtain ⟨y, hy⟩ : ∃ x, (checkF p 64).2 = x := ⟨_, rfl⟩
  rw [hx, hy] at HC
  rw [hy] at h0 ⊢
  have d0 : (y != (0 : Int)) = true := by simp; exact h0
  clear hW hbW hzW hl_ hr_ hp hx hy h0
  go_enter Tryd.func13, Tryd.ntmps13
  go_upto_region 1 with fail
  rw [← HW.out]
  go_wp2_with ((with_reducible refine (HC.out).mono ?_); rintro e w1 ⟨rfl, hb1⟩; have HB1 := Lib.hid hb1; clear hb1)
  go_ret2
  exact ⟨rfl, HB.out.trans (HB1.out.mono HB.out.size)⟩

set_option maxRecDepth 100000 in
set_option maxHeartbeats 4000000 in
theorem Build_lo (p : LP) (Ab Ao : Option Addr) (nb cb no co : Nat) (pool : Int) (w : World) (hp : ProgAt w (fun k => k < w.heap.size) [.int .i64 p.regs, .slice Ab nb cb, .slice Ao no co] p) (h0 : (checkF p 64).2 = 0) (hpl : pool < 0) :
    Calls Tryd.prog 13 #[.agg #[.int .i64 p.regs, .slice Ab nb cb, .slice Ao no co], .int .i64 pool] w fun e w' => e = .returned (.tuple #[.slice none 0 0, .int .i64 2]) ∧ Below w.heap.size w w' := by
  obtain ⟨W, hW, hbW, hzW, hl_, hr_⟩ := boxed w #[.int .i64 p.regs, .slice Ab nb cb, .slice Ao no co] 25
  have c0 : W.cell? ⟨w.heap.size, 0, none⟩ = some (.int .i64 p.regs) := by rw [hl_]; rfl
  have c1 : W.cell? ⟨w.heap.size, 1, none⟩ = some (.slice Ab nb cb) := by rw [hl_]; rfl
  have c2 : W.cell? ⟨w.heap.size, 2, none⟩ = some (.slice Ao no co) := by rw [hl_]; rfl
  have HC := Lib.hid (check_any p Ab Ao nb cb no co W (prog_next hp hbW))
  have HW := Lib.hid hW
  have HB := Lib.hid hbW
  obtain ⟨x, hx⟩ : ∃ x, (checkF p 64).1 = x := ⟨_, rfl⟩
  rw [hx, h0] at HC
  have d1 : decide (pool < 0) = true := decide_eq_true hpl
  have d2 : decide ((16 : Int) < pool) = false := decide_eq_false (by omega)
  clear hW hbW hzW hl_ hr_ hp hx h0 hpl
  go_enter Tryd.func13, Tryd.ntmps13
  go_upto_region 1 with fail
  rw [← HW.out]
  go_wp2_with ((with_reducible refine (HC.out).mono ?_); rintro e w1 ⟨rfl, hb1⟩; have HB1 := Lib.hid hb1; clear hb1)
  go_ret2
  exact ⟨rfl, HB.out.trans (HB1.out.mono HB.out.size)⟩

set_option maxRecDepth 100000 in
set_option maxHeartbeats 4000000 in
theorem Build_hi (p : LP) (Ab Ao : Option Addr) (nb cb no co : Nat) (pool : Int) (w : World) (hp : ProgAt w (fun k => k < w.heap.size) [.int .i64 p.regs, .slice Ab nb cb, .slice Ao no co] p) (h0 : (checkF p 64).2 = 0) (hpl : 16 < pool) :
    Calls Tryd.prog 13 #[.agg #[.int .i64 p.regs, .slice Ab nb cb, .slice Ao no co], .int .i64 pool] w fun e w' => e = .returned (.tuple #[.slice none 0 0, .int .i64 2]) ∧ Below w.heap.size w w' := by
  obtain ⟨W, hW, hbW, hzW, hl_, hr_⟩ := boxed w #[.int .i64 p.regs, .slice Ab nb cb, .slice Ao no co] 25
  have c0 : W.cell? ⟨w.heap.size, 0, none⟩ = some (.int .i64 p.regs) := by rw [hl_]; rfl
  have c1 : W.cell? ⟨w.heap.size, 1, none⟩ = some (.slice Ab nb cb) := by rw [hl_]; rfl
  have c2 : W.cell? ⟨w.heap.size, 2, none⟩ = some (.slice Ao no co) := by rw [hl_]; rfl
  have HC := Lib.hid (check_any p Ab Ao nb cb no co W (prog_next hp hbW))
  have HW := Lib.hid hW
  have HB := Lib.hid hbW
  obtain ⟨x, hx⟩ : ∃ x, (checkF p 64).1 = x := ⟨_, rfl⟩
  rw [hx, h0] at HC
  have d1 : decide (pool < 0) = false := decide_eq_false (by omega)
  have d2 : decide ((16 : Int) < pool) = true := decide_eq_true hpl
  clear hW hbW hzW hl_ hr_ hp hx h0 hpl
  go_enter Tryd.func13, Tryd.ntmps13
  go_upto_region 1 with fail
  rw [← HW.out]
  go_wp2_with ((with_reducible refine (HC.out).mono ?_); rintro e w1 ⟨rfl, hb1⟩; have HB1 := Lib.hid hb1; clear hb1)
  go_ret2
  exact ⟨rfl, HB.out.trans (HB1.out.mono HB.out.size)⟩

set_option maxRecDepth 100000 in
set_option maxHeartbeats 4000000 in
theorem build_r16 {pool : Nat} (w : World) (Q : Exit → Act → World → Prop) {u0 u2 u3 u4 u5 u6 u7 u8 u9 u10 u11 u12 u13 u14 u15 u16 u17 u18 u19 u20 u21 u22 u23 u24 u25 u26 u27 u28 u29 u30 u31 u32 u33 u34 u35 u36 u37 u38 u39 u40 u41 u42 u43 u44 u45 u46 u47 u48 u49 u50 u51 u52 u53 u54 u55 u56 u57 u58 u59 u60 u61 u62 u63 u64 u65 u66 u67 u68 u69 u70 u71 u72 u73 u74 u75 u76 u77 u78 u79 u80 u81 u82 u83 u84 : Value} (hp : pool ≤ 16)
    (k : ∀ (v55 v56 v57 v58 v59 : Value) (w' : World), w' = w.alloc (.cells #[.int .u64 ((2 ^ pool - 1 : Nat) : Int), .int .u64 18446744073709551615, .slice none 0 0] 73) → Q .normal ⟨#[u0, .int .i64 (pool : Nat), u2, u3, u4, u5, u6, u7, u8, u9, u10, u11, u12, .pointer (some ⟨w.heap.size, 0, none⟩), u14, u15, u16, u17, u18, u19, u20, u21, u22, u23, u24, u25, u26, u27, u28, u29, u30, u31, u32, u33, u34, u35, u36, u37, u38, u39, u40, u41, u42, u43, u44, u45, u46, u47, u48, u49, u50, u51, u52, u53, u54, v55, v56, v57, v58, v59, u60, u61, u62, u63, u64, u65, u66, u67, u68, u69, u70, u71, u72, u73, u74, u75, u76, u77, u78, u79, u80, u81, u82, u83, u84], []⟩ w') : (partR Tryd.f13 16).wp Tryd.prog Q ⟨#[u0, .int .i64 (pool : Nat), u2, u3, u4, u5, u6, u7, u8, u9, u10, u11, u12, u13, u14, u15, u16, u17, u18, u19, u20, u21, u22, u23, u24, u25, u26, u27, u28, u29, u30, u31, u32, u33, u34, u35, u36, u37, u38, u39, u40, u41, u42, u43, u44, u45, u46, u47, u48, u49, u50, u51, u52, u53, u54, u55, u56, u57, u58, u59, u60, u61, u62, u63, u64, u65, u66, u67, u68, u69, u70, u71, u72, u73, u74, u75, u76, u77, u78, u79, u80, u81, u82, u83, u84], []⟩ w := by
  obtain rfl | rfl | rfl | rfl | rfl | rfl | rfl | rfl | rfl | rfl | rfl | rfl | rfl | rfl | rfl | rfl | rfl : pool = 0 ∨ pool = 1 ∨ pool = 2 ∨ pool = 3 ∨ pool = 4 ∨ pool = 5 ∨ pool = 6 ∨ pool = 7 ∨ pool = 8 ∨ pool = 9 ∨ pool = 10 ∨ pool = 11 ∨ pool = 12 ∨ pool = 13 ∨ pool = 14 ∨ pool = 15 ∨ pool = 16 := by omega
  all_goals
    have HK := Lib.hid k
    clear k
    conv => arg 2; whnf
    go_wp2
    exact HK.out _ _ _ _ _ _ rfl
end Go.Proofs.YtppoiahhaclleaaDoor
