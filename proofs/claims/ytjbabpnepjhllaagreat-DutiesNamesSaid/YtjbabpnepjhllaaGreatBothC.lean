/- duties.both. -/
import Derived.Test.YtjbabpnepjhllaaGreatBothB
namespace Go.Proofs.YtjbabpnepjhllaaGreat
open Go.RowKit

theorem setCell_same {W : World} {B : Nat} {v : Value} {t : TypeId} {fr : Nat × Nat} (h : W.heap[B]? = some (.cells #[v] t fr)) : W.setCell ⟨B, 0, none⟩ v = W := by
  have e : (W.setCell ⟨B, 0, none⟩ v).heap = W.heap := by
    refine Array.ext_getElem? fun k => ?_
    show (W.heap.modify B _)[k]? = _
    rw [Array.getElem?_modify]
    split
    · rename_i e; subst e; rw [h]; rfl
    · rfl
  show { W with heap := (W.setCell ⟨B, 0, none⟩ v).heap } = W
  rw [e]
set_option maxRecDepth 100000 in
set_option maxHeartbeats 4000000 in
theorem both_any (w : World) (F : Nat → Prop) (vo vr : Value) (Av Al At : Option Addr) (nv cv nl cl nt ct : Nat) (l : List Fct) (a b p q : Int) (told : List Int)
    (hf : FactsAt w F (.slice Al nl cl) l) (ht : NumsAt w F (.slice At nt ct) told) (hF : ∀ k, F k → k < w.heap.size) (hn : l.length ≤ 100000) (hv : nv ≤ 1000) (htl : told.length ≤ 2) :
    Calls Tryz.prog 113 #[.agg #[.slice Av nv cv, vo, vr], .slice Al nl cl, .int .i64 a, .int .i64 b, .agg #[.int .i64 p, .int .i64 q], .slice At nt ct] w (SortedSays w.heap.size (bothF nv l a b p q told) w) := by
  obtain ⟨W, hW⟩ : ∃ W, W = (((((((w.alloc (.cells #[.slice Av nv cv, vo, vr] 25)).alloc (.cells #[.slice Al nl cl] 39)).alloc (.cells #[.int .i64 a] 3)).alloc (.cells #[.int .i64 b] 3)).alloc (.cells #[.int .i64 p, .int .i64 q] 135)).alloc (.cells #[.slice At nt ct] 50)).alloc (.cells #[.slice none 0 0] 39)) := ⟨_, rfl⟩
  have h := both_start w F vo vr Av nv cv (.slice Al nl cl) (.slice At nt ct) l a b p q told hf ht hF
  rw [← hW] at h
  have hb : Below w.heap.size w W := by
    rw [hW]
    refine ((((((((Below.refl _ _).alloc ?_ _).alloc ?_ _).alloc ?_ _).alloc ?_ _).alloc ?_ _).alloc ?_ _).alloc ?_ _) <;> simp <;> omega
  have hz : W.heap.size = w.heap.size + 7 := by rw [hW]; simp
  have hnt : nt ≤ 2 := by have := (rows_len ht).1; omega
  have HW := Lib.hid hW
  clear hW hf ht
  go_enter Tryz.func113, Tryz.ntmps113
  go_upto_region 1 with (first | go_in)
  rw [← HW.out]
  clear HW
  have hk : (fun k => k < w.heap.size + 6) w.heap.size ∧ w.heap.size < w.heap.size + 1 := ⟨by simp, by omega⟩
  generalize hK : (fun k => k < w.heap.size + 6) = K at h hk
  obtain ⟨b6, h6⟩ : ∃ x, x = w.heap.size + 1 + 1 + 1 + 1 + 1 + 1 := ⟨_, rfl⟩
  rw [← h6] at h ⊢
  generalize w.heap.size + 1 + 1 + 1 + 1 + 1 = b5 at h ⊢
  generalize w.heap.size + 1 + 1 + 1 + 1 = b4 at h ⊢
  generalize w.heap.size + 1 + 1 + 1 = b3 at h ⊢
  generalize w.heap.size + 1 + 1 = b2 at h ⊢
  generalize w.heap.size + 1 = b1 at h ⊢
  have H := Lib.hid h
  have HB := Lib.hid hb
  have HZ := Lib.hid hz
  have H6 := Lib.hid h6
  have HKK := Lib.hid hK
  have HASK := Lib.hid (fun (g : Nat) (cap : Array Value) (φ : Int → Fct) (W' : World) (K' : Nat → Prop) (Ao : Option Addr) (mo co : Nat) (out : List Fct) (eg : ∀ args w, (callFunc g args).run Tryz.prog w = .ok (.enter g args) w) (h1 : AskAt W' K' b1 b2 b3 b5 (.slice Al nl cl) (.slice At nt ct) l a b told) (h2 : OfOk K' W' g cap φ) (h3 : ¬ K' b6) (h4 : ∀ k, (Value.slice Ao mo co).ownBlock = some k → ¬ K' k ∧ k ≠ b6) (h5 : AskOut b6 w.heap.size (.slice Ao mo co) out W' Ao mo co W') (h7 : w.heap.size ≤ W'.heap.size) (h8 : mo + nt ≤ 100000) => ask_any g cap φ W' K' b1 b2 b3 b5 b6 w.heap.size Al nl cl At nt ct l a b told Ao mo co out eg h1 h2 hn h3 h4 h5 h7 h8)
  have HA2 := Lib.hid (HASK.out 133 #[] (aloneF 1) W K none 0 0 [] (enters_of Tryz.func133 (by kernel_rfl) rfl) h.ask (fun v W' _ => of2_any v W') h.k6 (fun k hk => by cases hk) h.out hb.size (by omega))
  have HA3 := Lib.hid (fun (w1 : World) (A1 : Option Addr) (m1 c1 : Nat) (h1 : AskOut b6 w.heap.size (.slice none 0 0) ([] ++ askF l (aloneF 1) a b told) W A1 m1 c1 w1) => HASK.out 134 #[] (aloneF 3) w1 K A1 m1 c1 _ (enters_of Tryz.func134 (by kernel_rfl) rfl) (h.ask.to (h1.to h.ask.lt h.k6 (fun k hk => by cases hk))) (fun v W' _ => of3_any v W') h.k6 (fun k hk => by
      rcases h1.new k hk with h2 | h2
      · cases h2
      · exact ⟨by rw [← HKK.out]; simp only; omega, by omega⟩) h1.self (Nat.le_trans hb.size h1.chg.size) (by
      have h2 := h1.len
      have h3 := askF_len l (aloneF 1) a b told
      rw [List.nil_append] at h2
      omega))
  clear h hb hz h6 hK
  go_upto_region 4 with (first
    | ((with_reducible refine HA2.out.mono ?_); rintro e w1 ⟨rfl, A1, m1, c1, h1⟩; have HO1 := Lib.hid h1; clear h1)
    | ((with_reducible refine (HA3.out w1 A1 m1 c1 HO1.out).mono ?_); rintro e w2 ⟨rfl, A2, m2, c2, h2⟩; have HO2 := Lib.hid (HO1.out.trans h2); clear h2)
    | go_in)
  have HTO := Lib.hid (fun (A : Option Addr) (m c : Nat) (outs : List Fct) (w' : World) (h : AskOut b6 w.heap.size (.slice none 0 0) outs W A m c w') => h.to H.out.ask.lt H.out.k6 (fun k hk => by cases hk))
  obtain ⟨Ak, ck, hvar⟩ := H.out.vars
  have HVAR := Lib.hid hvar
  clear hvar
  have g0 : w2.cell? ⟨w.heap.size, 0, none⟩ = some (.slice Ak nv ck) := (World.cell?_of_block ((HTO.out _ _ _ _ _ HO2.out).same _ H.out.k0)).trans HVAR.out
  have HO2 := Lib.hid (show AskOut b6 w.heap.size (.slice none 0 0) (bothF 0 l a b p q told) W A2 m2 c2 w2 by rw [both_zero]; exact HO2.out)
  go_wp2
  go_loopw [14, 23] (fun _ j wr => ∃ k : Nat, k ≤ nv ∧ j = .int .i64 k ∧ ∃ (A : Option Addr) (m c : Nat), AskOut b6 w.heap.size (.slice none 0 0) (bothF k l a b p q told) W A m c wr) (fun _ j _ => nv - (intOf j).toNat)
  case atStart => exact ⟨0, by omega, rfl, A2, m2, c2, HO2.out⟩
  case round =>
    obtain ⟨k, hk, rfl, A, m, c, hao⟩ := hrel
    clear g0 HO2 HO1 HA2 HA3
    by_cases hlt : k < nv
    · have d1 : decide (k < nv) = true := decide_eq_true hlt
      have i0 : (0 : Int) ≤ (k : Int) := by omega
      have HAO := Lib.hid hao
      clear hao
      go_upto_region 7 with (first | go_in)
      obtain ⟨WY, hWY⟩ : ∃ WY, wr.alloc (.cells #[.int .i64 (k : Int)] 3) = WY := ⟨_, rfl⟩
      rw [hWY]
      have hby : Below wr.heap.size wr WY := by rw [← hWY]; exact (Below.refl _ _).alloc (Nat.le_refl _) _
      have hao := HAO.out.below hby
      have hto := HTO.out _ _ _ _ _ hao
      have hyc : WY.cell? ⟨wr.heap.size, 0, none⟩ = some (.int .i64 (k : Int)) := by rw [← hWY]; exact (by have h1 := heap_alloc_new wr (.cells #[.int .i64 (k : Int)] 3); simp only [World.cell?, h1]; rfl)
      have hys : WY.heap.size = wr.heap.size + 1 := by rw [← hWY]; simp
      obtain ⟨y, hy⟩ : ∃ y, y = wr.heap.size := ⟨_, rfl⟩
      rw [← hy] at hyc hys ⊢
      have g0 : WY.cell? ⟨b4, 0, none⟩ = some (.int .i64 p) := (World.cell?_of_block (hto.same _ H.out.k4)).trans H.out.p0
      have g1 : WY.cell? ⟨b4, 1, none⟩ = some (.int .i64 q) := (World.cell?_of_block (hto.same _ H.out.k4)).trans H.out.q0
      have HWY := Lib.hid (And.intro hao (And.intro hto (And.intro hys (And.intro hy hyc))))
      clear hWY hby hao hto hys hy
      have HNX := Lib.hid (both_next k l a b p q told)
      cases dp : ((k : Int) == p)
      rotate_left
      · have HS := Lib.hid (show bothF (k + 1) l a b p q told = bothF k l a b p q told by rw [HNX.out, if_pos (.inl (by simpa using dp)), List.append_nil])
        have np : ((k : Int) != p) = false := by rw [bne, dp]; rfl
        go_wp2
        go_roundw
        case rel => exact ⟨k + 1, hlt, by go_num, A, m, c, by rw [HS.out]; exact HWY.out.1⟩
        case measure => simp [intOf]; omega
      have np : ((k : Int) != p) = true := by rw [bne, dp]; rfl
      cases dq : ((k : Int) == q)
      rotate_left
      · have HS := Lib.hid (show bothF (k + 1) l a b p q told = bothF k l a b p q told by rw [HNX.out, if_pos (.inr (by simpa using dq)), List.append_nil])
        have nq : ((k : Int) != q) = false := by rw [bne, dq]; rfl
        go_wp2
        go_roundw
        case rel => exact ⟨k + 1, hlt, by go_num, A, m, c, by rw [HS.out]; exact HWY.out.1⟩
        case measure => simp [intOf]; omega
      have nq : ((k : Int) != q) = true := by rw [bne, dq]; rfl
      have HS := Lib.hid (show bothF (k + 1) l a b p q told = (bothF k l a b p q told ++ askF l (fun v => lessF v k) a b told) ++ askF l (fun v => lessF k v) a b told by rw [HNX.out, if_neg (by simp only [beq_eq_false_iff_ne] at dp dq; omega), List.append_assoc])
      clear dp dq
      have hszw : W.heap.size ≤ wr.heap.size := HAO.out.chg.size
      have hml : m ≤ (2 + 2 * k) * told.length := by rw [HAO.out.len]; exact both_len l a b p q told k
      have hml2 : (2 + 2 * k) * told.length ≤ (2 + 2 * k) * 2 := Nat.mul_le_mul_left _ htl
      have hKb : ∀ j, K j ↔ j < w.heap.size + 6 := fun j => by rw [← HKK.out]
      have hz := HZ.out
      have h6 := H6.out
      obtain ⟨hw1, hw2, hw3, hw4, hw5⟩ := HWY.out
      have hask : AskAt WY (fun j => K j ∨ j = y) b1 b2 b3 b5 (.slice Al nl cl) (.slice At nt ct) l a b told := (H.out.ask.to hw2).more (fun _ h => .inl h) (fun j hj => by
        rcases hj with hj | hj
        · have := hw2.size; rw [hKb] at hj; omega
        · omega)
      have h6n : ¬ (K b6 ∨ b6 = y) := fun e => by
        rcases e with e | e
        · exact H.out.k6 e
        · omega
      have hov : ∀ j, (Value.slice A m c).ownBlock = some j → ¬ (K j ∨ j = y) ∧ j ≠ b6 := fun j hj => by
        have h1 := (own_lt HAO.out.own j hj).1
        rcases HAO.out.new j hj with h2 | h2
        · cases h2
        · refine ⟨fun e => ?_, by omega⟩
          rcases e with e | e
          · rw [hKb] at e; omega
          · omega
      have HA4 := Lib.hid (HASK.out 135 #[.pointer (some ⟨y, 0, none⟩)] (fun v => lessF v k) WY (fun j => K j ∨ j = y) A m c _ (enters_of Tryz.func135 (by kernel_rfl) rfl) hask (fun v W' h => of4_any v k y W' ((World.cell?_of_block (h.same y (.inr rfl))).trans hw5) (by have := h.size; omega)) h6n hov hw1.self (by omega) (by omega))
      have HA5 := Lib.hid (fun (w1 : World) (A1 : Option Addr) (m1 c1 : Nat) (h1 : AskOut b6 w.heap.size (.slice A m c) (bothF k l a b p q told ++ askF l (fun v => lessF v k) a b told) WY A1 m1 c1 w1) => HASK.out 136 #[.pointer (some ⟨y, 0, none⟩)] (fun v => lessF k v) w1 (fun j => K j ∨ j = y) A1 m1 c1 _ (enters_of Tryz.func136 (by kernel_rfl) rfl) (hask.to (h1.to hask.lt h6n (fun j hj => (hov j hj).1))) (fun v W' h => of5_any v k y W' ((World.cell?_of_block (h.same y (.inr rfl))).trans ((World.cell?_of_block ((h1.to hask.lt h6n (fun j hj => (hov j hj).1)).same y (.inr rfl))).trans hw5)) (by have := h.size; have := h1.chg.size; omega)) h6n (fun j hj => by
          rcases h1.new j hj with h2 | h2
          · exact hov j h2
          · refine ⟨fun e => ?_, by omega⟩
            rcases e with e | e
            · rw [hKb] at e; omega
            · omega) h1.self (by have := h1.chg.size; omega) (by
          have h2 := h1.len
          have h3 := askF_len l (fun v => lessF v k) a b told
          rw [List.length_append] at h2
          have h4 := both_len l a b p q told k
          omega))
      clear hw1 hw2 hw3 hw4 hw5 hask h6n hov hz h6 hKb hml hml2 hszw HNX
      go_wp2_with (first
        | ((with_reducible refine HA4.out.mono ?_); rintro e w3 ⟨rfl, A3, m3, c3, h3⟩; have HO3 := Lib.hid h3; clear h3)
        | ((with_reducible refine (HA5.out w3 A3 m3 c3 HO3.out).mono ?_); rintro e w4 ⟨rfl, A4, m4, c4, h4⟩; have HO4 := Lib.hid ((HWY.out.1.trans HO3.out).trans h4); clear h4)
        | go_in)
      go_roundw
      case rel => exact ⟨k + 1, hlt, by go_num, A4, m4, c4, by rw [HS.out]; exact HO4.out⟩
      case measure => simp [intOf]; omega
    · have d1 : decide (k < nv) = false := decide_eq_false hlt
      have e : k = nv := by omega
      subst e
      have g0 := hao.cell
      have g1 : wr.frozen? ⟨b6, 0, none⟩ = false := by simp [World.frozen?, hao.box]
      have HAO := Lib.hid hao
      clear hao
      go_wp2
      rw [setCell_same HAO.out.box]
      refine bodyPost_ret (res_box rfl _ _ b6 (.slice A m c) _ rfl Tryz.underlying39 rfl HAO.out.cell) rfl ⟨_, rfl, ?_, HB.out.trans ?_⟩
      · have := HAO.out.own
        rw [HAO.out.len] at this ⊢
        exact this
      · exact HAO.out.chg.below (fun j hj e => by
          rcases e with e | e
          · have := H6.out; omega
          · cases e) HB.out.size
end Go.Proofs.YtjbabpnepjhllaaGreat
