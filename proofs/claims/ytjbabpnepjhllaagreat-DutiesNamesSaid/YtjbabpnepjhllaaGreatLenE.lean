/- lengths.agree. -/
import Derived.Test.YtjbabpnepjhllaaGreatLenD
import Derived.Deep.RegionLaw
namespace Go.Proofs.YtjbabpnepjhllaaGreat
open Go.RowKit

theorem all_any {T : Type} (l : List T) (p : T → Bool) : l.all p = !l.any (fun x => !p x) := by
  induction l with
  | nil => rfl
  | cons x l ih => simp [ih]
theorem agree_head {vs : List KVar} {o : KOp} {h : Int} {r : List Int} (e : alikeK o = h :: r) : agreeK vs o = !(alikeK o).any fun v => (varK vs v).limbs != (varK vs h).limbs := by
  unfold agreeK
  rw [all_any, e]
  rfl
theorem int_wf {k : Int} (h : In64 k) : (Lit.int .i64 k).wf = true := wf64 h
set_option maxRecDepth 100000 in
set_option maxHeartbeats 4000000 in
theorem agree_any (Av : Option Addr) (nv cv : Nat) (vs : List KVar) (o : KOp) (w : World) (F : Nat → Prop) (hv : KVarsAt w F (.slice Av nv cv) vs) (hF : ∀ k, F k → k < w.heap.size) (hok : In64 o.kind) (hn : vs.length ≤ 100000)
    (hin : ∀ v ∈ alikeK o, 0 ≤ v ∧ v < (vs.length : Int)) :
    Calls Tryz.prog 90 #[.slice Av nv cv, .agg #[.int .i64 o.kind, .int .i64 o.d, .int .i64 o.e, .int .i64 o.a, .int .i64 o.b, .int .i64 o.c, .int .u64 o.imm]] w fun e w' => e = .returned (.bool (agreeK vs o)) ∧ Below w.heap.size w w' := by
  obtain ⟨W, hW⟩ : ∃ W, W = (w.alloc (.cells #[.slice Av nv cv] 22)).alloc (.cells #[.int .i64 o.kind, .int .i64 o.d, .int .i64 o.e, .int .i64 o.a, .int .i64 o.b, .int .i64 o.c, .int .u64 o.imm] 43) := ⟨_, rfl⟩
  obtain ⟨hvo, hb, hz⟩ := vo_start w F Av nv cv vs o hv hF
  rw [show (w.alloc (.cells #[.slice Av nv cv] 22)).alloc (.cells (kopRow o).toArray 43) = W from hW.symm] at hvo hb hz
  have HW := Lib.hid hW
  have HV := Lib.hid hvo
  have HB := Lib.hid hb
  have HZ := Lib.hid hz
  have HWF := Lib.hid (int_wf hok)
  have HAL := Lib.hid alike_any
  have HK := Lib.hid (show ∀ w_, Below W.heap.size W w_ → w_.cell? ⟨w.heap.size + 1, 0, none⟩ = some (.int .i64 o.kind) from fun w_ h => (hvo.next h).op.kind)
  clear hW hvo hb hz hv hF hok
  cases hai : alikeIs o.kind
  · have HX := Lib.hid (show agreeK vs o = true by unfold agreeK; rw [alike_none hai]; rfl)
    have HAI := Lib.hid hai
    clear hin hai
    go_enter Tryz.func90, Tryz.ntmps90
    go_upto_region 1 with (first | go_in)
    rw [← HW.out]
    clear HW
    have hS := (Below.refl W.heap.size W).drew
    have c0 := HK.out W (Below.refl _ _)
    go_region_with ((with_reducible refine (HAL.out _).mono ?_); rintro e w1 ⟨rfl, hm1, hb1⟩; obtain ⟨vx, hlx⟩ := look_no HWF.out (show w1.ownsMap Tryz.prog 3 funcE W.heap.size 8 alikeD from hm1) HAI.out; have hb2 := hS.trans (hb1.mono hS.size); have c0 := HK.out w1 hb2; have HS1 := Lib.hid hb2; clear hm1 hb1 hb2)
    all_goals
      go_wp2
      go_ret
      exact ⟨ret_bool HX.out.symm, HB.out.trans (HS1.out.mono HB.out.size)⟩
  · obtain ⟨N, h2, h3, eg, hf⟩ := alike_fn o hai
    obtain ⟨h, r, hl⟩ : ∃ h r, alikeK o = h :: r := by
      have hai' := hai
      unfold alikeIs at hai'
      simp only [Bool.or_eq_true, beq_iff_eq] at hai'
      unfold alikeK
      split; exact ⟨_, _, rfl⟩
      split; exact ⟨_, _, rfl⟩
      split; exact ⟨_, _, rfl⟩
      split; exact ⟨_, _, rfl⟩
      split; exact ⟨_, _, rfl⟩
      split; exact ⟨_, _, rfl⟩
      omega
    obtain ⟨hd, hhd⟩ : ∃ n : Nat, h = n := ⟨h.toNat, by have := hin h (by rw [hl]; exact List.mem_cons_self ..); omega⟩
    have hhl : hd < vs.length := by have := hin h (by rw [hl]; exact List.mem_cons_self ..); omega
    have hx := agree_head (vs := vs) hl
    rw [hhd] at hx
    have HX := Lib.hid hx
    have HLN := Lib.hid (show (alikeK o).length ≤ 4 by unfold alikeK; (repeat' split) <;> simp)
    have H2 := Lib.hid h2
    have H3 := Lib.hid h3
    have HFN := Lib.hid hf
    have HCT := Lib.hid (fun (w2 : World) (A : Option Addr) (n c B : Nat) (hb : Below W.heap.size W w2) (h4 : NumsAt w2 (fun k => k < w2.heap.size) (.slice A n c) (alikeK o)) (h5 : w2.cell? ⟨B, 0, none⟩ = some (.slice A n c)) (h6 : B < w2.heap.size) => ContainsFunc_Int (.slice A n c) 120 #[.pointer (some ⟨w.heap.size, 0, none⟩), .pointer (some ⟨B, 0, none⟩)] w2 (fun k => k < w2.heap.size) (alikeK o) (fun v => (varK vs v).limbs != (varK vs (hd : Int)).limbs) (by have := HLN.out; omega) (enters_of Tryz.func120 (by kernel_rfl) rfl) h4 (fun k hk => hk)
      (fun x hx wr hr => by
        obtain ⟨m, hm⟩ : ∃ m : Nat, x = m := ⟨x.toNat, by have := hin x hx; omega⟩
        have hml : m < vs.length := by have := hin x hx; omega
        subst hm
        have h7 := (HV.out.next hb).next hr
        exact agree1_any m hd (alikeK o) vs Av A nv cv n c w.heap.size B wr h7.hcv ((hr.cell (p := ⟨B, 0, none⟩) h6).trans h5) h7.lv (Nat.lt_of_lt_of_le h6 hr.size) h7.vars (rows_next h4 hr) (by rw [hl, hhd]; rfl) hml hhl hn))
    clear hin hai hhl hx hl hhd h2 h3 hf
    go_enter Tryz.func90, Tryz.ntmps90
    go_upto_region 1 with (first | go_in)
    rw [← HW.out]
    clear HW
    have hS := (Below.refl W.heap.size W).drew
    have c0 := HK.out W (Below.refl _ _)
    go_region_with ((with_reducible refine (HAL.out _).mono ?_); rintro e w1 ⟨rfl, hm1, hb1⟩; have hlx := look_yes HWF.out (show w1.ownsMap Tryz.prog 3 funcE W.heap.size 8 alikeD from hm1) H2.out H3.out; have hb2 := hS.trans (hb1.mono hS.size); have c0 := HK.out w1 hb2; have HS1 := Lib.hid hb2; clear hm1 hb1 hb2)
    all_goals
      have HB1 := HS1
      have h7 := HV.out.next HS1.out
      have c0 := h7.op.kind
      have c1 := h7.op.d
      have c2 := h7.op.e
      have c3 := h7.op.a
      have c4 := h7.op.b
      have c5 := h7.op.c
      have c6 := h7.op.imm
      clear h7
      go_upto_region 5 with (first
        | (go_at_fn N; refine (HFN.out _).mono ?_; rintro e w2 ⟨A2, n2, e2, rfl, hn2, hb2⟩; have HN2 := Lib.hid hn2; have HB2 := Lib.hid (HB1.out.trans (hb2.mono HB1.out.size)); clear hn2 hb2)
        | go_in)
      obtain ⟨W3, hW3⟩ : ∃ W, W = w2.alloc (.cells #[.slice A2 n2 e2] 50) := ⟨_, rfl⟩
      rw [← hW3]
      have hb3 : Below w2.heap.size w2 W3 := by rw [hW3]; exact (Below.refl _ _).alloc (Nat.le_refl _) _
      have hc3 : W3.cell? ⟨w2.heap.size, 0, none⟩ = some (.slice A2 n2 e2) := by rw [hW3]; exact cell_new w2 _ _ rfl
      have hz3 : W3.heap.size = w2.heap.size + 1 := by rw [hW3]; simp
      have HB3 := Lib.hid (HB2.out.trans (hb3.mono HB2.out.size))
      have HC3 := Lib.hid (HCT.out W3 A2 n2 e2 w2.heap.size HB3.out (rows_next HN2.out hb3) hc3 (by omega))
      clear hW3 hb3 hz3
      go_wp2_with (first | ((with_reducible refine HC3.out.mono ?_); rintro e w4 ⟨rfl, hb4⟩; have HB4 := Lib.hid hb4; clear hb4) | go_in)
      go_ret
      refine ⟨ret_bool HX.out.symm, ?_⟩
      have h1 := HB.out.trans (HB3.out.mono HB.out.size)
      exact h1.trans (HB4.out.mono h1.size)
end Go.Proofs.YtjbabpnepjhllaaGreat
