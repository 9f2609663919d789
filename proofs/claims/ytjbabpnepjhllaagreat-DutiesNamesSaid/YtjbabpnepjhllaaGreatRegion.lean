/- A law on a region that draws its order: whatever order is drawn, it comes to what the text's own order comes to, if what only reads yields its value in every world that meets S, and what changes the world keeps S and comes in one forced order. -/
import Derived.OrdersHeld
import Derived.WalkKit
namespace Go.Proofs.YtjbabpnepjhllaaGreat
open Go

/-- What an operation that may change the world does: no panic. -/
def TDoes (P : Program) (o : Oper) (a : Act) (w : World) (K : Value → World → Prop) : Prop :=
  match (execOp a.eval o).run P w with
  | .ok (.value v) w' => K v w'
  | .ok .skip w' => K undef w'
  | .ok (.enter f args) w' => Calls P f args w' fun e w'' => ∃ v, e = .returned v ∧ K v w''
  | .ok (.row r args) w' => Rows P r args w' K
  | _ => False

theorem TDoes.mono {P : Program} {o : Oper} {a : Act} {w : World} {K K' : Value → World → Prop} (h : TDoes P o a w K) (hk : ∀ v w', K v w' → K' v w') : TDoes P o a w K' := by
  unfold TDoes at *
  generalize (execOp a.eval o).run P w = r at *
  cases r with
  | ok n w' =>
    cases n <;> simp only at h ⊢
    case value v => exact hk _ _ h
    case skip => exact hk _ _ h
    case enter f args => exact h.mono fun e w'' ⟨v, hv, h'⟩ => ⟨v, hv, hk _ _ h'⟩
    case row row args => exact h.mono fun v w'' h' => hk _ _ h'
  | halt x w' => exact h

theorem TDoes.some {P : Program} {o : Oper} {a : Act} {w : World} {K : Value → World → Prop} (h : TDoes P o a w K) : ∃ v w', K v w' := by
  unfold TDoes at *
  generalize (execOp a.eval o).run P w = r at *
  cases r with
  | ok n w' =>
    cases n <;> simp only at h
    case value v => exact ⟨_, _, h⟩
    case skip => exact ⟨_, _, h⟩
    case enter f args => obtain ⟨e, w1, fr, ⟨v, _, hk⟩, _⟩ := h []; exact ⟨_, _, hk⟩
    case row row args => obtain ⟨v, w1, hk, _⟩ := h (Frame.enter P 0 #[] .normal) []; exact ⟨_, _, hk⟩
  | halt x w' => exact h.elim

theorem TDoes.wp {P : Program} {o : Oper} {a : Act} {w : World} {K : Value → World → Prop} {K' : Act → World → Prop} {Q : Exit → Act → World → Prop} (h : TDoes P o a w K) (hk : ∀ v w', K v w' → K' (a.put o.dst v) w') :
    Oper.wp P o a w K' Q := by
  unfold TDoes at h
  unfold Oper.wp
  generalize (execOp a.eval o).run P w = r at *
  cases r with
  | ok n w' =>
    cases n <;> simp only at h
    case value v => exact hk _ _ h
    case skip => exact hk _ _ h
    case enter f args => exact Calls.mono h fun e w'' ⟨v, hv, h'⟩ => by subst hv; exact hk _ _ h'
    case row row args => exact Rows.mono h fun v w'' h' => hk _ _ h'
  | halt x w' => exact h.elim

theorem TDoes.congr {P : Program} {o : Oper} {a a' : Act} {w : World} {K : Value → World → Prop} (h : TDoes P o a w K) (he : execOp a'.eval o = execOp a.eval o) : TDoes P o a' w K := by
  unfold TDoes at *
  rw [he]
  exact h

/-- Operation j waits for operation i by an edge of its own. -/
def direct (ops : Array Oper) (j i : Nat) : Bool := match ops[j]? with
  | some o => o.after.any fun e => Region.binds .any e && e.on == i
  | none => false
/-- .. or by others'. -/
def reaches (ops : Array Oper) : Nat → Nat → Nat → Bool
  | 0, _, _ => false
  | f + 1, j, i => direct ops j i || match ops[j]? with
    | some o => o.after.any fun e => Region.binds .any e && decide (i < e.on) && reaches ops f e.on i
    | none => false
def lastOk (ops : Array Oper) : Bool := (List.range (ops.size - 1)).all fun i => reaches ops ops.size (ops.size - 1) i
/-- Operation k may still be open when operation i is done. -/
def freeOf (ops : Array Oper) (i k : Nat) : Bool := decide (k < ops.size) && !(k == i) && !reaches ops ops.size i k
def chainOk (ops : Array Oper) : List Nat → Bool
  | x :: y :: r => decide (x < y) && reaches ops ops.size y x && chainOk ops (y :: r)
  | _ => true
def pairOk (ops : Array Oper) (T : List Nat) (i j : Nat) : Bool := direct ops j i || (T.contains i && T.contains j) || match ops[i]?, ops[j]? with
  | some x, some y => x.apart ops y
  | _, _ => false
def textOk (ops : Array Oper) (T : List Nat) : Bool :=
  Region.noSelect ops && chainOk ops T && (List.range ops.size).all fun j => (match ops[j]? with | some o => o.after.all fun e => !Region.binds .any e || decide (e.on < j) | none => false) &&
    (List.range j).all fun i => pairOk ops T i j

/-- The region's operations in the text's order. -/
def runT (P : Program) (ops : Array Oper) (T : List Nat) (S : Nat → World → Prop) (Q : Act → World → Prop) : List Nat → Act → World → Prop
  | [], a, w => Q a w
  | i :: l, a, w => ∃ o, ops[i]? = some o ∧
    ((∃ v, YieldsIf P ops (S i) o v a ∧ runT P ops T S Q l (a.put o.dst v) w) ∨
     (T.contains i = true ∧ Region.wanted o (yielded ops a.tmps) = true ∧ TDoes P o a w fun v w' => (∀ k, freeOf ops i k = true → S k w') ∧ runT P ops T S Q l (a.put o.dst v) w'))

section
variable {P : Program} {ops : Array Oper} {T : List Nat} {S : Nat → World → Prop} {Q : Act → World → Prop}

theorem YieldsIf.same {S : World → Prop} {o : Oper} {v u : Value} {a : Act} (h : YieldsIf P ops S o v a) (h' : YieldsIf P ops S o u a) {w : World} (hS : S w) : v = u := by
  rcases h with ⟨h1, h2⟩ | ⟨h1, h2⟩ <;> rcases h' with ⟨h3, h4⟩ | ⟨h3, h4⟩
  · have := (h2 w hS).symm.trans (h4 w hS); cases this; rfl
  · rw [h1] at h3; cases h3
  · rw [h1] at h3; cases h3
  · rw [h2, h4]

/-- An operation that does not change the world may be carried out ahead of all that stands before it. -/
theorem runT_pull {j : Nat} {oj : Oper} (hre : ∀ i k, reaches ops ops.size i k = true → k < i) (hj : ops[j]? = some oj) (hjT : T.contains j = false) (hns : ∀ (j : Nat) (o : Oper) cs b, ops[j]? = some o → o.op ≠ .select cs b) :
    ∀ (l : List Nat) (a : Act) (w : World), l.Pairwise (· < ·) → (∀ i ∈ l, i < ops.size) → j ∈ l → (∀ i ∈ l, i < j → ∀ oi, ops[i]? = some oi → oi.apart ops oj = true) → runT P ops T S Q l a w → S j w →
      ∃ v, YieldsIf P ops (S j) oj v a ∧ runT P ops T S Q (l.erase j) (a.put oj.dst v) w := by
  intro l
  induction l with
  | nil => intro a w _ _ h; cases h
  | cons i l ih =>
    intro a w hp hsz hjl hap h hS
    obtain ⟨oi, hoi, h⟩ := h
    by_cases hij : i = j
    · subst hij
      rw [hj] at hoi
      cases hoi
      rw [List.erase_cons_head]
      rcases h with ⟨v, hy, hr⟩ | ⟨hT, _⟩
      · exact ⟨v, hy, hr⟩
      · rw [hT] at hjT; cases hjT
    · have hjl' : j ∈ l := by rcases List.mem_cons.1 hjl with h | h
                              · exact absurd h.symm hij
                              · exact h
      have hlt : i < j := (List.pairwise_cons.1 hp).1 j hjl'
      have hapij := hap i (List.mem_cons_self ..) hlt oi hoi
      obtain ⟨h1, h2, h3⟩ := Oper.apart_spec hapij
      have hsel : ∀ cs b, oj.op ≠ .select cs b := fun cs b => hns j oj cs b hj
      have hseli : ∀ cs b, oi.op ≠ .select cs b := fun cs b => hns i oi cs b hoi
      have ih' := fun a w => ih a w (List.pairwise_cons.1 hp).2 (fun k hk => hsz k (List.mem_cons_of_mem _ hk)) hjl' (fun k hk => hap k (List.mem_cons_of_mem _ hk))
      have back : ∀ u v, YieldsIf P ops (S j) oj v (a.put oi.dst u) → YieldsIf P ops (S j) oj v a := fun u v hy =>
        hy.of_same (execOp_put oj hsel a oi.dst u h1).symm (wanted_put oj a oi.dst u h1).symm
      have forth : ∀ u v, YieldsIf P ops (S j) oj v a → YieldsIf P ops (S j) oj v (a.put oi.dst u) := fun u v hy =>
        hy.of_same (execOp_put oj hsel a oi.dst u h1) (wanted_put oj a oi.dst u h1)
      rw [List.erase_cons_tail (by simpa using hij)]
      rcases h with ⟨u, hy, hr⟩ | ⟨hT, hw, hd⟩
      · obtain ⟨v, hv, hr'⟩ := ih' _ w hr hS
        refine ⟨v, back u v hv, oi, hoi, .inl ⟨u, hy.of_same (execOp_put oi hseli a oj.dst v h3) (wanted_put oi a oj.dst v h3), ?_⟩⟩
        rw [← Act.put_comm a u v h2]
        exact hr'
      · have hfr : freeOf ops i j = true := by
          have h1 := hsz j hjl
          have h2 : reaches ops ops.size i j = false := by
            cases hr : reaches ops ops.size i j
            · rfl
            · have := hre i j hr; omega
          simp [freeOf, h1, h2]; omega
        obtain ⟨u1, w1, hS1, hr1⟩ := hd.some
        have hS1 : S j w1 := hS1 j hfr
        obtain ⟨v, hv, _⟩ := ih' _ w1 hr1 hS1
        have hva := back u1 v hv
        refine ⟨v, hva, oi, hoi, .inr ⟨hT, by rw [wanted_put oi a oj.dst v h3]; exact hw, ?_⟩⟩
        refine (hd.congr (execOp_put oi hseli a oj.dst v h3)).mono fun u w' ⟨hS', hr'⟩ => ⟨hS', ?_⟩
        have hS'' : S j w' := hS' j hfr
        obtain ⟨v', hv', hr''⟩ := ih' _ w' hr' hS''
        obtain rfl := YieldsIf.same hva (back u v' hv') hS
        rw [← Act.put_comm a u v h2]
        exact hr''

/-- One that may change it, likewise, if all ahead of it that may is done. -/
theorem runT_pullT {j : Nat} {oj : Oper} (hj : ops[j]? = some oj) (hns : ∀ (j : Nat) (o : Oper) cs b, ops[j]? = some o → o.op ≠ .select cs b) :
    ∀ (l : List Nat) (a : Act) (w : World), l.Pairwise (· < ·) → j ∈ l → (∀ i ∈ l, i < j → T.contains i = false ∧ ∀ oi, ops[i]? = some oi → oi.apart ops oj = true) → runT P ops T S Q l a w → S j w → ∀ L : List Nat, (∀ k ∈ L, k ≠ j → freeOf ops j k = true) → (∀ k ∈ L, S k w) →
      wpOp P ops (fun _ _ _ => False) j (fun a' w' => (∀ k ∈ L, k ≠ j → S k w') ∧ runT P ops T S Q (l.erase j) a' w') a w := by
  intro l
  induction l with
  | nil => intro a w _ h; cases h
  | cons i l ih =>
    intro a w hp hjl hap h hS L hL hSL
    obtain ⟨oi, hoi, h⟩ := h
    by_cases hij : i = j
    · subst hij
      rw [hj] at hoi
      cases hoi
      rw [List.erase_cons_head]
      rcases h with ⟨v, hy, hr⟩ | ⟨hT, hw, hd⟩
      · exact hy.wpOp hj hS ⟨fun k hk _ => hSL k hk, hr⟩
      · unfold wpOp
        simp only [hj, hw, if_true]
        exact .inl (hd.wp fun v w' h => ⟨fun k hk hne => h.1 k (hL k hk hne), h.2⟩)
    · have hjl' : j ∈ l := by rcases List.mem_cons.1 hjl with h | h
                              · exact absurd h.symm hij
                              · exact h
      have hlt : i < j := (List.pairwise_cons.1 hp).1 j hjl'
      obtain ⟨hiT, hapij⟩ := hap i (List.mem_cons_self ..) hlt
      have hapij := hapij oi hoi
      have hsel : ∀ cs b, oj.op ≠ .select cs b := fun cs b => hns j oj cs b hj
      have hseli : ∀ cs b, oi.op ≠ .select cs b := fun cs b => hns i oi cs b hoi
      rw [List.erase_cons_tail (by simpa using hij)]
      rcases h with ⟨u, hy, hr⟩ | ⟨hT, _⟩
      · have h1 := ih _ w (List.pairwise_cons.1 hp).2 hjl' (fun k hk => hap k (List.mem_cons_of_mem _ hk)) hr hS L hL hSL
        have h2 := wpOp_putIf hj hapij hseli hsel (fun _ _ _ h => h) hy h1
        exact wpOp_mono (fun a' w' ⟨hy', hS', hr'⟩ => ⟨hS', oi, hoi, .inl ⟨u, hy', hr'⟩⟩) h2
      · rw [hT] at hiT; cases hiT

theorem wpOp_weaken {Q' : Exit → Act → World → Prop} {j : Nat} {K : Act → World → Prop} {a : Act} {w : World} (h : wpOp P ops (fun _ _ _ => False) j K a w) : wpOp P ops Q' j K a w := by
  unfold wpOp at *
  split
  · rename_i hn; simpa [hn] using h
  · rename_i o ho
    simp only [ho] at h
    split
    · rename_i hw
      simp only [hw, if_true] at h
      rcases h with h | ⟨_, a0, w0, hf⟩
      · refine .inl ?_
        unfold Oper.wp at *
        generalize (execOp a.eval o).run P w = r at *
        cases r with
        | ok n w' =>
          cases n <;> simp only [Oper.upon] at h ⊢
          case value => exact h
          case skip => exact h
          case defer => exact h
          case enter f args =>
            exact Calls.mono h fun e w'' he => by
              cases e with
              | returned u => exact he
              | panicked c => exact he.elim
              | outgrown => obtain ⟨_, _, h⟩ := he; exact h.elim
          case row => exact h
        | halt x w' => cases x <;> simp only [Oper.upon] at h
      · exact hf.elim
    · rename_i hw; simpa [hw] using h

def Closed (ops : Array Oper) (listed : Array Bool) : Prop := ∀ j o, ops[j]? = some o → listed.getD j false = true → ∀ e ∈ o.after, Region.binds .any e = true → listed.getD e.on false = true

theorem direct_iff {j i : Nat} {o : Oper} (ho : ops[j]? = some o) : direct ops j i = true ↔ ∃ e ∈ o.after, Region.binds .any e = true ∧ e.on = i := by
  unfold direct
  simp only [ho, Array.any_eq_true', Bool.and_eq_true, beq_iff_eq]

theorem reaches_listed {listed : Array Bool} (hc : Closed ops listed) : ∀ (f j i : Nat), reaches ops f j i = true → (∀ k, direct ops j k = true → listed.getD k false = true) → listed.getD i false = true
  | 0, _, _, h, _ => by cases h
  | f + 1, j, i, h, hd => by
    simp only [reaches, Bool.or_eq_true] at h
    rcases h with h | h
    · exact hd i h
    · cases ho : ops[j]? with
      | none => simp [ho] at h
      | some o =>
        simp only [ho, Array.any_eq_true', Bool.and_eq_true, decide_eq_true_eq] at h
        obtain ⟨e, he, ⟨hb, _⟩, hr⟩ := h
        have hl := hd e.on ((direct_iff ho).2 ⟨e, he, hb, rfl⟩)
        refine reaches_listed hc f e.on i hr fun k hk => ?_
        cases ho' : ops[e.on]? with
        | none => simp [direct, ho'] at hk
        | some o' =>
          obtain ⟨e', he', hb', rfl⟩ := (direct_iff ho').1 hk
          exact hc e.on o' ho' hl e' he' hb'

theorem chain_listed {listed : Array Bool} (hc : Closed ops listed) : ∀ (T : List Nat), chainOk ops T = true → ∀ j ∈ T, (∀ i, direct ops j i = true → listed.getD i false = true) → ∀ i ∈ T, i < j → listed.getD i false = true
  | [], _, j, hj => by cases hj
  | [x], _, j, hj => fun _ i hi hlt => by simp at hj hi; omega
  | x :: y :: r, hch, j, hj => fun hd i hi hlt => by
    have sorted : ∀ (l : List Nat) (x : Nat), chainOk ops (x :: l) = true → ∀ z ∈ l, x < z := by
      intro l
      induction l with
      | nil => intro x _ z hz; cases hz
      | cons q l ihl =>
        intro x hx z hz
        simp only [chainOk, Bool.and_eq_true, decide_eq_true_eq] at hx
        rcases List.mem_cons.1 hz with rfl | hz
        · exact hx.1.1
        · have := ihl q hx.2 z hz; omega
    have hall := hch
    simp only [chainOk, Bool.and_eq_true, decide_eq_true_eq] at hch
    have ih := chain_listed hc (y :: r) hch.2
    rcases List.mem_cons.1 hj with rfl | hj'
    · rcases List.mem_cons.1 hi with rfl | hi
      · omega
      · have := sorted _ _ hall i hi; omega
    · rcases List.mem_cons.1 hi with rfl | hi
      · have hpre : ∀ k, direct ops y k = true → listed.getD k false = true := by
          rcases List.mem_cons.1 hj' with h | h
          · rw [← h]; exact hd
          · have hy := ih j hj' hd y (List.mem_cons_self ..) (sorted _ _ hch.2 j h)
            intro k hk
            cases ho : ops[y]? with
            | none => simp [direct, ho] at hk
            | some o =>
              obtain ⟨e, he, hb, rfl⟩ := (direct_iff ho).1 hk
              exact hc y o ho hy e he hb
        exact reaches_listed hc _ _ _ hch.1.2 hpre
      · exact ih j hj' hd i hi hlt

theorem reaches_lt (hlt : ∀ (j : Nat) (o : Oper), ops[j]? = some o → ∀ e ∈ o.after, Region.binds .any e = true → e.on < j) : ∀ (f i k : Nat), reaches ops f i k = true → k < i
  | 0, _, _, h => by cases h
  | f + 1, i, k, h => by
    simp only [reaches, Bool.or_eq_true] at h
    cases ho : ops[i]? with
    | none => simp [ho, direct] at h
    | some o =>
      rcases h with h | h
      · obtain ⟨e, he, hb, rfl⟩ := (direct_iff ho).1 h
        exact hlt i o ho e he hb
      · simp only [ho, Array.any_eq_true', Bool.and_eq_true, decide_eq_true_eq] at h
        obtain ⟨e, he, ⟨hb, hk⟩, _⟩ := h
        have := hlt i o ho e he hb
        omega

theorem all_orders (hok : textOk ops T = true) {Q' : Exit → Act → World → Prop} (hQ : ∀ a w, Q a w → Q' .normal a w) :
    ∀ (l : List Nat) (listed : Array Bool) (a : Act) (w : World), listed.size = ops.size → Closed ops listed → l.Pairwise (· < ·) → (∀ k, k ∈ l ↔ k < ops.size ∧ listed.getD k true = false) →
      runT P ops T S Q l a w → (∀ k ∈ l, S k w) → wpAny P .any ops Q' l.length listed a w := by
  simp only [textOk, Bool.and_eq_true, List.all_eq_true, List.mem_range] at hok
  obtain ⟨⟨hns, hch⟩, hall⟩ := hok
  have hsel := Region.noSelect_spec hns
  have hre : ∀ i k, reaches ops ops.size i k = true → k < i := reaches_lt (fun j o ho e he hb => by
    have hjs : j < ops.size := by
      rcases Nat.lt_or_ge j ops.size with h | h
      · exact h
      · rw [Array.getElem?_eq_none h] at ho; cases ho
    have hb' := (hall j hjs).1
    rw [ho] at hb'
    have := (Array.all_eq_true_iff_forall_mem.1 hb') e he
    rw [hb] at this
    simpa using this) _
  intro l
  generalize hn : l.length = n
  induction n generalizing l with
  | zero =>
    intro listed a w hsz hc hp hl h _
    obtain rfl := List.eq_nil_of_length_eq_zero hn
    refine ⟨?_, hQ _ _ h⟩
    refine List.eq_nil_iff_forall_not_mem.2 fun k hk => ?_
    obtain ⟨h1, o, ho, _⟩ := mem_ready.1 hk
    have : k < ops.size := by
      rcases Nat.lt_or_ge k ops.size with h | h
      · exact h
      · rw [Array.getElem?_eq_none h] at ho; cases ho
    exact absurd ((hl k).2 ⟨this, h1⟩) (by simp)
  | succ n ih =>
    intro listed a w hsz hc hp hl h hS
    have hne : l ≠ [] := by intro e; rw [e] at hn; cases hn
    refine ⟨fun hr => ?_, fun j hj => ?_⟩
    · exfalso
      obtain ⟨x, l', rfl⟩ := List.exists_cons_of_ne_nil hne
      have hx := (hl x).1 (List.mem_cons_self ..)
      have : x ∈ Region.ready .any ops listed := by
        have ho : ops[x]? = some (ops[x]'hx.1) := Array.getElem?_eq_getElem hx.1
        refine mem_ready.2 ⟨hx.2, _, ho, fun e he hb => ?_⟩
        have hb' := (hall x hx.1).1
        rw [ho] at hb'
        have hlt : e.on < x := by
          have := (Array.all_eq_true_iff_forall_mem.1 hb') e he
          rw [hb] at this
          simpa using this
        cases hg : listed.getD e.on false
        · have hm : e.on ∈ x :: l' := (hl e.on).2 ⟨by omega, by
            have hlt' : e.on < listed.size := by omega
            simp [hlt'] at hg ⊢; exact hg⟩
          rcases List.mem_cons.1 hm with h | h
          · omega
          · have := (List.pairwise_cons.1 hp).1 _ h; omega
        · rfl
      rw [hr] at this
      cases this
    · obtain ⟨hjun, oj, hoj, hall'⟩ := mem_ready.1 hj
      have hjs : j < ops.size := by
        rcases Nat.lt_or_ge j ops.size with h | h
        · exact h
        · rw [Array.getElem?_eq_none h] at hoj; cases hoj
      have hjl : j ∈ l := (hl j).2 ⟨hjs, hjun⟩
      have unl : ∀ i ∈ l, listed.getD i false = false := fun i hi => by
        have := (hl i).1 hi
        have hlt' : i < listed.size := by omega
        simpa [hlt'] using this.2
      have hdir : ∀ i, direct ops j i = true → listed.getD i false = true := fun i hi => by
        obtain ⟨e, he, hb, rfl⟩ := (direct_iff hoj).1 hi
        exact hall' e he hb
      have hpair : ∀ i ∈ l, i < j → direct ops j i = false := fun i hi _ => by
        cases hd : direct ops j i
        · rfl
        · have := hdir i hd; rw [unl i hi] at this; cases this
      have hTT : ∀ i ∈ l, i < j → T.contains j = true → T.contains i = false := fun i hi hlt hT => by
        cases hTi : T.contains i
        · rfl
        · have := chain_listed hc T hch j (by simpa using hT) hdir i (by simpa using hTi) hlt
          rw [unl i hi] at this; cases this
      have hap : ∀ i ∈ l, i < j → ∀ oi, ops[i]? = some oi → oi.apart ops oj = true := fun i hi hlt oi hoi => by
        have := (hall j hjs).2 i hlt
        simp only [pairOk, hpair i hi hlt, hoi, hoj, Bool.false_or, Bool.or_eq_true, Bool.and_eq_true] at this
        rcases this with ⟨h1, h2⟩ | h
        · rw [hTT i hi hlt h2] at h1; cases h1
        · exact h
      have hfree : ∀ k ∈ l, k ≠ j → freeOf ops j k = true := fun k hk hne => by
        have h1 := ((hl k).1 hk).1
        have h2 : reaches ops ops.size j k = false := by
          cases hr : reaches ops ops.size j k
          · rfl
          · have h3 := reaches_listed hc _ _ _ hr hdir
            rw [unl k hk] at h3; cases h3
        simp [freeOf, h1, h2, hne]
      have main : wpOp P ops (fun _ _ _ => False) j (fun a' w' => (∀ k ∈ l, k ≠ j → S k w') ∧ runT P ops T S Q (l.erase j) a' w') a w := by
        cases hjT : T.contains j
        · obtain ⟨v, hy, hr⟩ := runT_pull hre hoj hjT hsel l a w hp (fun i hi => ((hl i).1 hi).1) hjl hap h (hS j hjl)
          exact hy.wpOp hoj (hS j hjl) ⟨fun k hk _ => hS k hk, hr⟩
        · exact runT_pullT hoj hsel l a w hp hjl (fun i hi hlt => ⟨hTT i hi hlt hjT, hap i hi hlt⟩) h (hS j hjl) l hfree hS
      refine wpOp_mono (fun a' w' ⟨hS', hr'⟩ => ?_) (wpOp_weaken main)
      have hnd := hp.imp (fun h => Nat.ne_of_lt h)
      refine ih (l.erase j) (by rw [List.length_erase_of_mem hjl]; omega) (listed.setIfInBounds j true) a' w' (by simpa using hsz) ?_ (hp.sublist (List.erase_sublist ..)) ?_ hr' ?_
      · intro k o hk hlk e he hb
        by_cases hkj : j = k
        · subst hkj
          rw [hoj] at hk
          cases hk
          exact getD_set_true (hall' e he hb)
        · rw [getD_set_ne false hkj] at hlk
          exact getD_set_true (hc k o hk hlk e he hb)
      · intro k
        rw [List.Nodup.mem_erase_iff hnd, hl k]
        by_cases hkj : j = k
        · subst hkj
          have hlt' : j < listed.size := by omega
          simp [hlt']
        · rw [getD_set_ne true hkj]
          constructor
          · rintro ⟨_, h⟩; exact h
          · intro h; exact ⟨Ne.symm hkj, h⟩
      · intro k hk
        have hx := (List.Nodup.mem_erase_iff hnd).1 hk
        exact hS' k hx.2 hx.1

/-- THE LAW. -/
theorem wp_region_text {id : Nat} {a : Act} {w : World} {Q' : Exit → Act → World → Prop} (T : List Nat) (S : Nat → World → Prop) (hm : P.follows .mixedOrders = true) (hok : textOk ops T = true) (hS : ∀ k, k < ops.size → S k w.drew)
    (h : runT P ops T S (Q' .normal) (List.range ops.size) a w.drew) : (Code.region id ops true).wp P Q' a w := by
  refine wp_region_any hm ?_
  have := all_orders hok (Q' := Q') (fun _ _ h => h) (List.range ops.size) (Array.replicate ops.size false) a w.drew (by simp) ?_ List.pairwise_lt_range ?_ h (fun k hk => hS k (by simpa using hk))
  · simpa using this
  · intro j o ho hl
    have hlt : j < ops.size := by
      rcases Nat.lt_or_ge j ops.size with h | h
      · exact h
      · rw [Array.getElem?_eq_none h] at ho; cases ho
    simp [hlt] at hl
  · intro k
    simp only [List.mem_range]
    constructor
    · intro h; exact ⟨h, by simp [h]⟩
    · exact fun h => h.1

/-- May it change the world? -/
def isT (o : Oper) : Bool := match o.op with
  | .call c => match c.callee with
    | .builtin .len => false
    | .builtin .cap => false
    | _ => true
  | .store .. | .alloc .. | .box .. | .buildSlice .. | .mapUpdate .. | .makeMap .. | .makeSlice .. | .insert .. | .makeChan .. | .next .. | .range .. => true
  | .convert .. => false
  | _ => false
def tOps (ops : Array Oper) : List Nat := (List.range ops.size).filter fun i => match ops[i]? with | some o => isT o | none => false

/-- The same over the operations that are left. -/
def runL (P : Program) (ops : Array Oper) (S : World → Prop) (Q : Act → World → Prop) : List Oper → Act → World → Prop
  | [], a, w => Q a w
  | o :: l, a, w =>
    (∃ v, YieldsIf P ops S o v a ∧ runL P ops S Q l (a.put o.dst v) w) ∨
     (isT o = true ∧ Region.wanted o (yielded ops a.tmps) = true ∧ TDoes P o a w fun v w' => ((l = [] ∧ lastOk ops = true) ∨ S w') ∧ runL P ops S Q l (a.put o.dst v) w')

theorem runT_of_L {S : World → Prop} : ∀ (l : List Oper) (i : Nat) (a : Act) (w : World), i + l.length = ops.size → (∀ k, l[k]? = ops[i + k]?) → runL P ops S Q l a w → runT P ops (tOps ops) (fun _ => S) Q (List.range' i l.length) a w
  | [], i, a, w, _, _, h => h
  | o :: l, i, a, w, hn, hk, h => by
    have ho : ops[i]? = some o := by have := hk 0; simpa using this.symm
    have ih := fun a w => runT_of_L (S := S) l (i + 1) a w (by simp at hn; omega) (fun k => by have := hk (k + 1); simpa [Nat.add_assoc, Nat.add_comm 1 k] using this)
    rw [List.length_cons, List.range'_succ]
    refine ⟨o, ho, ?_⟩
    rcases h with ⟨v, hy, hr⟩ | ⟨hT, hw, hd⟩
    · exact .inl ⟨v, hy, ih _ _ hr⟩
    · refine .inr ⟨?_, hw, hd.mono fun v w' ⟨h1, h2⟩ => ⟨fun k hk => ?_, ih _ _ h2⟩⟩
      rotate_left
      · rcases h1 with ⟨hl, hlo⟩ | h1
        · exfalso
          rw [hl] at hn
          simp only [List.length_cons, List.length_nil] at hn
          simp only [freeOf, Bool.and_eq_true, decide_eq_true_eq, Bool.not_eq_true', beq_eq_false_iff_ne] at hk
          simp only [lastOk, List.all_eq_true, List.mem_range] at hlo
          have := hlo k (by omega)
          rw [show ops.size - 1 = i from by omega, hk.2] at this
          cases this
        · exact h1
      simp only [tOps, List.contains_eq_mem, List.mem_filter, List.mem_range, decide_eq_true_eq]
      exact ⟨by simp at hn; omega, by rw [ho]; exact hT⟩

/-- The law as it is used. -/
theorem wp_region_lines {id : Nat} {a : Act} {w : World} {Q' : Exit → Act → World → Prop} (S : World → Prop) (hm : P.follows .mixedOrders = true) (hok : textOk ops (tOps ops) = true) (hS : S w.drew)
    (h : runL P ops S (Q' .normal) ops.toList a w.drew) : (Code.region id ops true).wp P Q' a w := by
  refine wp_region_text (tOps ops) (fun _ => S) hm hok (fun _ _ => hS) ?_
  have := runT_of_L (S := S) ops.toList 0 a w.drew (by simp) (fun k => by simp) h
  rw [List.range_eq_range']
  simpa using this

theorem runL_nil {S : World → Prop} {a : Act} {w : World} (h : Q a w) : runL P ops S Q [] a w := h
theorem runL_no {S : World → Prop} {o : Oper} {l : List Oper} {a : Act} {w : World} (hw : Region.wanted o (yielded ops a.tmps) = false) (h : runL P ops S Q l (a.put o.dst undef) w) : runL P ops S Q (o :: l) a w :=
  .inl ⟨undef, .inr ⟨hw, rfl⟩, h⟩
theorem runL_val {S : World → Prop} {o : Oper} {l : List Oper} {a : Act} {w : World} {v : Value} (hw : Region.wanted o (yielded ops a.tmps) = true) (hv : ∀ w, S w → (execOp a.eval o).run P w = .ok (.value v) w)
    (h : runL P ops S Q l (a.put o.dst v) w) : runL P ops S Q (o :: l) a w :=
  .inl ⟨v, .inl ⟨hw, hv⟩, h⟩
theorem runL_call {S : World → Prop} {o : Oper} {l : List Oper} {a : Act} {w w1 : World} {f : FuncId} {args : Array Value} (hT : isT o = true) (hw : Region.wanted o (yielded ops a.tmps) = true)
    (hr : (execOp a.eval o).run P w = .ok (.enter f args) w1)
    (h : Calls P f args w1 fun e w' => ∃ v, e = .returned v ∧ ((l = [] ∧ lastOk ops = true) ∨ S w') ∧ runL P ops S Q l (a.put o.dst v) w') : runL P ops S Q (o :: l) a w := by
  refine .inr ⟨hT, hw, ?_⟩
  unfold TDoes
  rw [hr]
  exact h
theorem runL_op {S : World → Prop} {o : Oper} {l : List Oper} {a : Act} {w w1 : World} {v : Value} (hT : isT o = true) (hw : Region.wanted o (yielded ops a.tmps) = true)
    (hr : (execOp a.eval o).run P w = .ok (.value v) w1) (hS : (l = [] ∧ lastOk ops = true) ∨ S w1) (h : runL P ops S Q l (a.put o.dst v) w1) : runL P ops S Q (o :: l) a w := by
  refine .inr ⟨hT, hw, ?_⟩
  unfold TDoes
  rw [hr]
  exact ⟨hS, h⟩
theorem runL_skip {S : World → Prop} {o : Oper} {l : List Oper} {a : Act} {w w1 : World} (hT : isT o = true) (hw : Region.wanted o (yielded ops a.tmps) = true)
    (hr : (execOp a.eval o).run P w = .ok .skip w1) (hS : (l = [] ∧ lastOk ops = true) ∨ S w1) (h : runL P ops S Q l (a.put o.dst undef) w1) : runL P ops S Q (o :: l) a w := by
  refine .inr ⟨hT, hw, ?_⟩
  unfold TDoes
  rw [hr]
  exact ⟨hS, h⟩

/-- The same, what an operation needs of the world told by its number. -/
def runK (P : Program) (ops : Array Oper) (S : Nat → World → Prop) (Q : Act → World → Prop) : Nat → List Oper → Act → World → Prop
  | _, [], a, w => Q a w
  | i, o :: l, a, w =>
    (∃ v, YieldsIf P ops (S i) o v a ∧ runK P ops S Q (i + 1) l (a.put o.dst v) w) ∨
     (isT o = true ∧ Region.wanted o (yielded ops a.tmps) = true ∧ TDoes P o a w fun v w' => (∀ k, freeOf ops i k = true → S k w') ∧ runK P ops S Q (i + 1) l (a.put o.dst v) w')

theorem runT_of_K : ∀ (l : List Oper) (i : Nat) (a : Act) (w : World), i + l.length = ops.size → (∀ k, l[k]? = ops[i + k]?) → runK P ops S Q i l a w → runT P ops (tOps ops) S Q (List.range' i l.length) a w
  | [], i, a, w, _, _, h => h
  | o :: l, i, a, w, hn, hk, h => by
    have ho : ops[i]? = some o := by have := hk 0; simpa using this.symm
    have ih := fun a w => runT_of_K l (i + 1) a w (by simp at hn; omega) (fun k => by have := hk (k + 1); simpa [Nat.add_assoc, Nat.add_comm 1 k] using this)
    rw [List.length_cons, List.range'_succ]
    refine ⟨o, ho, ?_⟩
    rcases h with ⟨v, hy, hr⟩ | ⟨hT, hw, hd⟩
    · exact .inl ⟨v, hy, ih _ _ hr⟩
    · refine .inr ⟨?_, hw, hd.mono fun v w' ⟨h1, h2⟩ => ⟨h1, ih _ _ h2⟩⟩
      simp only [tOps, List.contains_eq_mem, List.mem_filter, List.mem_range, decide_eq_true_eq]
      exact ⟨by simp at hn; omega, by rw [ho]; exact hT⟩

theorem wp_region_stages {id : Nat} {a : Act} {w : World} {Q' : Exit → Act → World → Prop} (S : Nat → World → Prop) (hm : P.follows .mixedOrders = true) (hok : textOk ops (tOps ops) = true) (hS : ∀ k, S k w.drew)
    (h : runK P ops S (Q' .normal) 0 ops.toList a w.drew) : (Code.region id ops true).wp P Q' a w := by
  refine wp_region_text (tOps ops) S hm hok (fun k _ => hS k) ?_
  have := runT_of_K ops.toList 0 a w.drew (by simp) (fun k => by simp) h
  rw [List.range_eq_range']
  simpa using this

theorem runK_nil {i : Nat} {a : Act} {w : World} (h : Q a w) : runK P ops S Q i [] a w := h
theorem runK_no {i : Nat} {o : Oper} {l : List Oper} {a : Act} {w : World} (hw : Region.wanted o (yielded ops a.tmps) = false) (h : runK P ops S Q (i + 1) l (a.put o.dst undef) w) : runK P ops S Q i (o :: l) a w :=
  .inl ⟨undef, .inr ⟨hw, rfl⟩, h⟩
theorem runK_val {i : Nat} {o : Oper} {l : List Oper} {a : Act} {w : World} {v : Value} (hw : Region.wanted o (yielded ops a.tmps) = true) (hv : ∀ w, S i w → (execOp a.eval o).run P w = .ok (.value v) w)
    (h : runK P ops S Q (i + 1) l (a.put o.dst v) w) : runK P ops S Q i (o :: l) a w :=
  .inl ⟨v, .inl ⟨hw, hv⟩, h⟩
theorem runK_call {i : Nat} {o : Oper} {l : List Oper} {a : Act} {w w1 : World} {f : FuncId} {args : Array Value} (hT : isT o = true) (hw : Region.wanted o (yielded ops a.tmps) = true)
    (hr : (execOp a.eval o).run P w = .ok (.enter f args) w1)
    (h : Calls P f args w1 fun e w' => ∃ v, e = .returned v ∧ (∀ k, freeOf ops i k = true → S k w') ∧ runK P ops S Q (i + 1) l (a.put o.dst v) w') : runK P ops S Q i (o :: l) a w := by
  refine .inr ⟨hT, hw, ?_⟩
  unfold TDoes
  rw [hr]
  exact h
theorem runK_op {i : Nat} {o : Oper} {l : List Oper} {a : Act} {w w1 : World} {v : Value} (hT : isT o = true) (hw : Region.wanted o (yielded ops a.tmps) = true)
    (hr : (execOp a.eval o).run P w = .ok (.value v) w1) (hS : ∀ k, freeOf ops i k = true → S k w1) (h : runK P ops S Q (i + 1) l (a.put o.dst v) w1) : runK P ops S Q i (o :: l) a w := by
  refine .inr ⟨hT, hw, ?_⟩
  unfold TDoes
  rw [hr]
  exact ⟨hS, h⟩
theorem runK_skip {i : Nat} {o : Oper} {l : List Oper} {a : Act} {w w1 : World} (hT : isT o = true) (hw : Region.wanted o (yielded ops a.tmps) = true)
    (hr : (execOp a.eval o).run P w = .ok .skip w1) (hS : ∀ k, freeOf ops i k = true → S k w1) (h : runK P ops S Q (i + 1) l (a.put o.dst undef) w1) : runK P ops S Q i (o :: l) a w := by
  refine .inr ⟨hT, hw, ?_⟩
  unfold TDoes
  rw [hr]
  exact ⟨hS, h⟩
/-- What is still open when operation i is done is none of C's. -/
theorem free_crit {i : Nat} {C : Nat → Bool} (h : ((List.range ops.size).all fun k => !freeOf ops i k || !C k) = true) : ∀ k, freeOf ops i k = true → C k = true → False := by
  intro k hk hc
  have hks : k < ops.size := by simp only [freeOf, Bool.and_eq_true, decide_eq_true_eq] at hk; exact hk.1.1
  have := (List.all_eq_true.1 h) k (List.mem_range.2 hks)
  rw [hk, hc] at this
  cases this

end
end Go.Proofs.YtjbabpnepjhllaaGreat
