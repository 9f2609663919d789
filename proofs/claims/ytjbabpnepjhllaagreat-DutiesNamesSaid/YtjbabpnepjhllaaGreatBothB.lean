/- duties.both. -/
import Derived.Test.YtjbabpnepjhllaaGreatAskD
namespace Go.Proofs.YtjbabpnepjhllaaGreat
open Go.RowKit

theorem res_box {P : Program} {fn : Func} {p : Tmp} {ty : TypeId} (h : fn.results = #[.cell p ty]) (tmps : Array Value) (w : World) (g : Nat) (v : Value) (d : TypeDesc)
    (hp : tmps.getD p undef = .pointer (some ⟨g, 0, none⟩)) (hu : P.underlying ty = some d) (hd : (match d with | .struct _ | .array _ _ => true | _ => false) = false) (hc : w.cell? ⟨g, 0, none⟩ = some v) :
    (results fn tmps).run P w = .ok v w := by
  have hp' : tmps[p]?.getD undef = .pointer (some ⟨g, 0, none⟩) := by simpa using hp
  have hagg : (isAgg ty).run P w = .ok false w := by
    unfold isAgg
    rw [Sem.run_bind, run_underlying hu w]
    cases d <;> simp_all
  simp [results, h, hp', asAddr, loadVar, Sem.run_bind, hagg, hc]
theorem AskOut.self {bo base : Nat} {v0 : Value} {outs : List Fct} {w w1 : World} {A : Option Addr} {m c : Nat} (h : AskOut bo base v0 outs w A m c w1) : AskOut bo base (.slice A m c) outs w1 A m c w1 :=
  ⟨h.box, h.own, h.len, fun _ hk => .inl hk, Chg.refl _ _⟩
theorem AskAt.more {w : World} {K K' : Nat → Prop} {bl ba bb bt : Nat} {vl vt : Value} {l : List Fct} {a b : Int} {told : List Int} (h : AskAt w K bl ba bb bt vl vt l a b told) (hK : ∀ k, K k → K' k) (hl : ∀ k, K' k → k < w.heap.size) : AskAt w K' bl ba bb bt vl vt l a b told :=
  ⟨h.cl, h.ca, h.cb, h.ct, hK _ h.kl, hK _ h.ka, hK _ h.kb, hK _ h.kt, Rows.mono h.fl hK, Rows.mono h.ft hK, hl⟩
/-- The seven boxes of both. -/
structure BothAt (W : World) (K : Nat → Prop) (b0 b1 b2 b3 b4 b5 b6 : Nat) (base : Nat) (vl vt : Value) (l : List Fct) (a b p q : Int) (told : List Int) (nv : Nat) : Prop where
  ask : AskAt W K b1 b2 b3 b5 vl vt l a b told
  vars : ∃ A c, W.cell? ⟨b0, 0, none⟩ = some (.slice A nv c)
  p0 : W.cell? ⟨b4, 0, none⟩ = some (.int .i64 p)
  q0 : W.cell? ⟨b4, 1, none⟩ = some (.int .i64 q)
  k0 : K b0
  k4 : K b4
  k6 : ¬ K b6
  out : AskOut b6 base (.slice none 0 0) [] W none 0 0 W
theorem both_start (w : World) (F : Nat → Prop) (vo vr : Value) (Av : Option Addr) (nv cv : Nat) (vl vt : Value) (l : List Fct) (a b p q : Int) (told : List Int)
    (hf : FactsAt w F vl l) (ht : NumsAt w F vt told) (hF : ∀ k, F k → k < w.heap.size) :
    BothAt (((((((w.alloc (.cells #[.slice Av nv cv, vo, vr] 25)).alloc (.cells #[vl] 39)).alloc (.cells #[.int .i64 a] 3)).alloc (.cells #[.int .i64 b] 3)).alloc (.cells #[.int .i64 p, .int .i64 q] 135)).alloc (.cells #[vt] 50)).alloc (.cells #[.slice none 0 0] 39))
      (fun k => k < w.heap.size + 6) w.heap.size (w.heap.size + 1) (w.heap.size + 1 + 1) (w.heap.size + 1 + 1 + 1) (w.heap.size + 1 + 1 + 1 + 1) (w.heap.size + 1 + 1 + 1 + 1 + 1) (w.heap.size + 1 + 1 + 1 + 1 + 1 + 1) w.heap.size vl vt l a b p q told nv := by
  generalize ho0 : (Obj.cells #[.slice Av nv cv, vo, vr] 25) = o0
  generalize ho1 : (Obj.cells #[vl] 39) = o1
  generalize ho2 : (Obj.cells #[.int .i64 a] 3) = o2
  generalize ho3 : (Obj.cells #[.int .i64 b] 3) = o3
  generalize ho4 : (Obj.cells #[.int .i64 p, .int .i64 q] 135) = o4
  generalize ho5 : (Obj.cells #[vt] 50) = o5
  generalize ho6 : (Obj.cells #[.slice none 0 0] 39) = o6
  have hh : ∀ k, (((((((w.alloc o0).alloc o1).alloc o2).alloc o3).alloc o4).alloc o5).alloc o6).heap[k]? = if k < w.heap.size then w.heap[k]? else [o0, o1, o2, o3, o4, o5, o6][k - w.heap.size]? := fun k => by
    simp only [World.alloc, Array.getElem?_push, Array.size_push]
    by_cases h : k < w.heap.size
    · rw [if_pos h]
      repeat rw [if_neg (by omega)]
    · rw [if_neg h]
      by_cases e0 : k = w.heap.size
      · rw [show k - w.heap.size = 0 by omega]
        repeat rw [if_neg (by omega)]
        rw [if_pos (by omega)]
        rfl
      by_cases e1 : k = w.heap.size + 1
      · rw [show k - w.heap.size = 1 by omega]
        repeat rw [if_neg (by omega)]
        rw [if_pos (by omega)]
        rfl
      by_cases e2 : k = w.heap.size + 2
      · rw [show k - w.heap.size = 2 by omega]
        repeat rw [if_neg (by omega)]
        rw [if_pos (by omega)]
        rfl
      by_cases e3 : k = w.heap.size + 3
      · rw [show k - w.heap.size = 3 by omega]
        repeat rw [if_neg (by omega)]
        rw [if_pos (by omega)]
        rfl
      by_cases e4 : k = w.heap.size + 4
      · rw [show k - w.heap.size = 4 by omega]
        repeat rw [if_neg (by omega)]
        rw [if_pos (by omega)]
        rfl
      by_cases e5 : k = w.heap.size + 5
      · rw [show k - w.heap.size = 5 by omega]
        repeat rw [if_neg (by omega)]
        rw [if_pos (by omega)]
        rfl
      by_cases e6 : k = w.heap.size + 6
      · rw [show k - w.heap.size = 6 by omega]
        repeat rw [if_neg (by omega)]
        rw [if_pos (by omega)]
        rfl
      rw [List.getElem?_eq_none (by simp; omega)]
      repeat rw [if_neg (by omega)]
      exact Array.getElem?_eq_none (by omega)
  have hb : Below w.heap.size w (((((((w.alloc o0).alloc o1).alloc o2).alloc o3).alloc o4).alloc o5).alloc o6) := by
    refine ⟨rfl, rfl, rfl, by simp; omega, fun k hk => ?_⟩
    rw [hh, if_pos hk]
  have hs : (((((((w.alloc o0).alloc o1).alloc o2).alloc o3).alloc o4).alloc o5).alloc o6).heap.size = w.heap.size + 7 := by simp
  generalize (((((((w.alloc o0).alloc o1).alloc o2).alloc o3).alloc o4).alloc o5).alloc o6) = W at hh hb hs ⊢
  have hc : ∀ (k j : Nat) (cs : Array Value) (t : TypeId) (v : Value), [o0, o1, o2, o3, o4, o5, o6][k]? = some (.cells cs t) → cs[j]? = some v → W.cell? ⟨w.heap.size + k, j, none⟩ = some v := fun k j cs t v h hv => by
    have := hh (w.heap.size + k)
    rw [if_neg (by omega), Nat.add_sub_cancel_left, h] at this
    simp only [World.cell?, this]
    exact hv
  have hsame : SameOn F w W := SameOn.of_below hb hF
  refine ⟨⟨hc 1 0 #[vl] _ _ (by rw [← ho1]; rfl) rfl, hc 2 0 #[.int .i64 a] _ _ (by rw [← ho2]; rfl) rfl, hc 3 0 #[.int .i64 b] _ _ (by rw [← ho3]; rfl) rfl, hc 5 0 #[vt] _ _ (by rw [← ho5]; rfl) rfl, by omega, by omega, by omega, by omega, Rows.mono (Rows.keep hf hsame) (fun k hk => by have := hF k hk; omega), Rows.mono (Rows.keep ht hsame) (fun k hk => by have := hF k hk; omega), fun k hk => by omega⟩, ⟨Av, cv, hc 0 0 #[.slice Av nv cv, vo, vr] _ _ (by rw [← ho0]; rfl) rfl⟩, hc 4 0 #[.int .i64 p, .int .i64 q] _ _ (by rw [← ho4]; rfl) rfl, hc 4 1 #[.int .i64 p, .int .i64 q] _ _ (by rw [← ho4]; rfl) rfl, by omega, by omega, by omega, ?_⟩
  refine ⟨?_, World.ownsRow_nil _ _ _ _, rfl, fun _ hk => .inl hk, Chg.refl _ _⟩
  have := hh (w.heap.size + 6)
  rw [if_neg (by omega), Nat.add_sub_cancel_left] at this
  rw [show w.heap.size + 1 + 1 + 1 + 1 + 1 + 1 = w.heap.size + 6 by omega, this, ← ho6]
  rfl
end Go.Proofs.YtjbabpnepjhllaaGreat
