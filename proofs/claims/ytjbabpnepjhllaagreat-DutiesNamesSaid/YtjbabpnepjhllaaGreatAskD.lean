/- ask, whether the facts are known or not. -/
import Derived.Test.YtjbabpnepjhllaaGreatAskC
namespace Go.Proofs.YtjbabpnepjhllaaGreat
open Go.RowKit

theorem AskOut.below {bo base : Nat} {v0 : Value} {outs : List Fct} {w w1 w' : World} {A : Option Addr} {m c : Nat} (h : AskOut bo base v0 outs w A m c w1) (hb : Below w1.heap.size w1 w') : AskOut bo base v0 outs w A m c w' :=
  ⟨(hb.block bo (lt_of_block h.box)).trans h.box, h.own.kept (grownBy_of_below hb) (by cases hh : (Value.slice A m c).ownBlock <;> simp), h.len, h.new, ⟨hb.os.trans h.chg.os, hb.tape.trans h.chg.tape, hb.output.trans h.chg.output, Nat.le_trans h.chg.size hb.size, fun k hk hn => (hb.block k (Nat.lt_of_lt_of_le hk h.chg.size)).trans (h.chg.block k hk hn)⟩⟩
theorem AskOut.trans {bo base : Nat} {v0 : Value} {o1 o2 : List Fct} {w w1 w' : World} {A A' : Option Addr} {m c m' c' : Nat} (h : AskOut bo base v0 o1 w A m c w1) (h2 : AskOut bo base (.slice A m c) o2 w1 A' m' c' w') : AskOut bo base v0 o2 w A' m' c' w' := by
  refine ⟨h2.box, h2.own, h2.len, fun k hk => ?_, ⟨h2.chg.os.trans h.chg.os, h2.chg.tape.trans h.chg.tape, h2.chg.output.trans h.chg.output, Nat.le_trans h.chg.size h2.chg.size, fun k hk hn => ?_⟩⟩
  · rcases h2.new k hk with h3 | h3
    · exact h.new k h3
    · exact .inr (Nat.le_trans h.chg.size h3)
  · refine (h2.chg.block k (Nat.lt_of_lt_of_le hk h.chg.size) fun e => ?_).trans (h.chg.block k hk hn)
    rcases e with e | e
    · exact hn (.inl e)
    · rcases h.new k e with h3 | h3
      · exact hn (.inr h3)
      · omega
/-- ask. -/
theorem ask_any (g : Nat) (cap : Array Value) (φ : Int → Fct) (w : World) (K : Nat → Prop) (bl ba bb bt bo base : Nat) (Al : Option Addr) (nl cl : Nat) (At : Option Addr) (nt ct : Nat) (l : List Fct) (a b : Int) (told : List Int) (Ao : Option Addr) (mo co : Nat) (out : List Fct) (eg : ∀ args w, (callFunc g args).run Tryz.prog w = .ok (.enter g args) w)
    (h : AskAt w K bl ba bb bt (.slice Al nl cl) (.slice At nt ct) l a b told) (hof : OfOk K w g cap φ) (hn : l.length ≤ 100000)
    (hbo : ¬ K bo) (hvo : ∀ k, (Value.slice Ao mo co).ownBlock = some k → ¬ K k ∧ k ≠ bo) (hout : AskOut bo base (.slice Ao mo co) out w Ao mo co w) (hbase : base ≤ w.heap.size) (hm : mo + nt ≤ 100000) :
    Calls Tryz.prog 132 #[.func (.func g) #[] cap, .pointer (some ⟨bl, 0, none⟩), .pointer (some ⟨ba, 0, none⟩), .pointer (some ⟨bb, 0, none⟩), .pointer (some ⟨bt, 0, none⟩), .pointer (some ⟨bo, 0, none⟩)] w fun e w' => e = .returned (.tuple #[]) ∧ ∃ A m c, AskOut bo base (.slice Ao mo co) (out ++ askF l φ a b told) w A m c w' := by
  cases hk : (knowsF l (φ a) && knowsF l (φ b))
  · refine (ask_no g cap φ w K bl ba bb bt bo Al nl cl _ l a b told eg h hof hn hk).mono ?_
    rintro e w1 ⟨rfl, hb⟩
    refine ⟨rfl, Ao, mo, co, ?_⟩
    unfold askF
    rw [hk, if_neg (by simp), List.append_nil]
    exact hout.below hb
  · refine (ask_yes g cap φ w K bl ba bb bt bo base Al nl cl At nt ct l a b told Ao mo co out eg h hof hn hk hbo hvo hout hbase hm).mono ?_
    rintro e w1 ⟨rfl, A, m, c, hb⟩
    refine ⟨rfl, A, m, c, ?_⟩
    unfold askF
    rw [hk, if_pos rfl]
    exact hb
theorem askF_len (l : List Fct) (of : Int → Fct) (a b : Int) (told : List Int) : (askF l of a b told).length ≤ told.length := by
  unfold askF; split <;> simp
theorem both_next (y : Nat) (l : List Fct) (a b p q : Int) (told : List Int) : bothF (y + 1) l a b p q told = bothF y l a b p q told ++ (if (y : Int) = p ∨ (y : Int) = q then [] else askF l (fun v => lessF v y) a b told ++ askF l (fun v => lessF y v) a b told) := by
  unfold bothF
  rw [List.range_succ, List.map_append, List.flatten_append]
  simp
theorem both_zero (l : List Fct) (a b p q : Int) (told : List Int) : bothF 0 l a b p q told = askF l (aloneF 1) a b told ++ askF l (aloneF 3) a b told := by
  unfold bothF; simp
theorem both_len (l : List Fct) (a b p q : Int) (told : List Int) : ∀ y, (bothF y l a b p q told).length ≤ (2 + 2 * y) * told.length := by
  intro y
  induction y with
  | zero => rw [both_zero, List.length_append]; have h1 := askF_len l (aloneF 1) a b told; have h2 := askF_len l (aloneF 3) a b told; simp; omega
  | succ y ih =>
    rw [both_next, List.length_append]
    have h1 := askF_len l (fun v => lessF v y) a b told
    have h2 := askF_len l (fun v => lessF y v) a b told
    have h3 : (2 + 2 * (y + 1)) * told.length = (2 + 2 * y) * told.length + 2 * told.length := by rw [← Nat.add_mul]; rfl
    split
    · simp; omega
    · rw [List.length_append]; omega
end Go.Proofs.YtjbabpnepjhllaaGreat
