/- The law on a region that draws its order, where operations that change the world are not all in one order: it branches at them. -/
import Derived.Test.YtjbabpnepjhllaaGreatRegion
import Derived.Test.YtjbabpnepjhllaaGreatLo2
namespace Go.Proofs.YtjbabpnepjhllaaGreat
open Go

def tIn (ops : Array Oper) (i : Nat) : Bool := match ops[i]? with | some o => isT o | none => false
/-- Two operations that do not wait for each other, and do not both change the world, do not meet. -/
def pairB (ops : Array Oper) (i j : Nat) : Bool := direct ops i j || direct ops j i || (tIn ops i && tIn ops j) || match ops[i]?, ops[j]? with
  | some x, some y => x.apart ops y && y.apart ops x
  | _, _ => false
def branchOk (ops : Array Oper) : Bool :=
  Region.noSelect ops && (List.range ops.size).all fun j => (match ops[j]? with | some o => o.after.all fun e => !Region.binds .any e || decide (e.on < j) | none => false) && (List.range ops.size).all fun i => i == j || pairB ops i j

/-- Operations that are left, l; one that does not change the world may come first; else whichever changes it, and waits for no other one. -/
def runB (P : Program) (ops : Array Oper) (S : World → Prop) (Q : Act → World → Prop) : Nat → List Nat → Act → World → Prop
  | 0, l, a, w => l = [] ∧ Q a w
  | n + 1, l, a, w =>
    (∃ i ∈ l, tIn ops i = false ∧ (∀ k ∈ l, direct ops i k = false) ∧ ∃ o, ops[i]? = some o ∧ ∃ v, YieldsIf P ops S o v a ∧ runB P ops S Q n (l.erase i) (a.put o.dst v) w) ∨
    ((∀ j ∈ l, tIn ops j = false → ∃ k ∈ l, reaches ops ops.size j k = true) ∧ ∀ j ∈ l, tIn ops j = true → (∀ k ∈ l, direct ops j k = false) →
      ∃ o, ops[j]? = some o ∧ Region.wanted o (yielded ops a.tmps) = true ∧ TDoes P o a w fun v w' => S w' ∧ runB P ops S Q n (l.erase j) (a.put o.dst v) w')

section
variable {P : Program} {ops : Array Oper} {S : World → Prop} {Q : Act → World → Prop}

theorem runB_pull (hns : ∀ (j : Nat) (o : Oper) cs b, ops[j]? = some o → o.op ≠ .select cs b) (hpb : ∀ i j, i < ops.size → j < ops.size → i ≠ j → pairB ops i j = true) {listed : Array Bool} (hc : Closed ops listed) {j : Nat} {oj : Oper} (hj : ops[j]? = some oj) (hjT : tIn ops j = false)
    (hdir : ∀ i, direct ops j i = true → listed.getD i false = true) :
    ∀ (n : Nat) (l : List Nat) (a : Act) (w : World), l.Nodup → (∀ i ∈ l, i < ops.size ∧ listed.getD i false = false) → j ∈ l → runB P ops S Q n l a w → S w →
      ∃ v, YieldsIf P ops S oj v a ∧ ∃ m, n = m + 1 ∧ runB P ops S Q m (l.erase j) (a.put oj.dst v) w := by
  intro n
  induction n with
  | zero => intro l a w _ _ hjl h; rw [h.1] at hjl; cases hjl
  | succ n ih =>
    intro l a w hnd hl hjl h hS
    rcases h with ⟨i, hil, hiT, hid, oi, hoi, u, hy, hr⟩ | ⟨hall, _⟩
    · by_cases hij : i = j
      · subst hij
        rw [hj] at hoi
        cases hoi
        exact ⟨u, hy, n, rfl, hr⟩
      · have hji : direct ops j i = false := by
          cases hd : direct ops j i
          · rfl
          · have := hdir i hd; rw [(hl i hil).2] at this; cases this
        have hp := hpb i j (hl i hil).1 (hl j hjl).1 hij
        simp only [pairB, hid j hjl, hji, hiT, Bool.false_and, Bool.false_or, hoi, hj, Bool.and_eq_true] at hp
        obtain ⟨h1, h2, h3⟩ := Oper.apart_spec hp.1
        have hsel : ∀ cs b, oj.op ≠ .select cs b := fun cs b => hns j oj cs b hj
        have hseli : ∀ cs b, oi.op ≠ .select cs b := fun cs b => hns i oi cs b hoi
        have hjl' : j ∈ l.erase i := (List.Nodup.mem_erase_iff hnd).2 ⟨Ne.symm hij, hjl⟩
        have hil' : i ∈ l.erase j := (List.Nodup.mem_erase_iff hnd).2 ⟨hij, hil⟩
        obtain ⟨v, hv, m, hm, hr'⟩ := ih (l.erase i) _ w (hnd.erase i) (fun k hk => hl k (List.mem_of_mem_erase hk)) hjl' hr hS
        refine ⟨v, hv.of_same (execOp_put oj hsel a oi.dst u h1).symm (wanted_put oj a oi.dst u h1).symm, n, rfl, ?_⟩
        subst hm
        refine .inl ⟨i, hil', hiT, fun k hk => hid k (List.mem_of_mem_erase hk), oi, hoi, u, hy.of_same (execOp_put oi hseli a oj.dst v h3) (wanted_put oi a oj.dst v h3), ?_⟩
        rw [← Act.put_comm a u v h2, List.erase_comm]
        exact hr'
    · exfalso
      obtain ⟨k, hk, hr⟩ := hall j hjl hjT
      have := reaches_listed hc _ _ _ hr hdir
      rw [(hl k hk).2] at this; cases this

theorem runB_pullT (hns : ∀ (j : Nat) (o : Oper) cs b, ops[j]? = some o → o.op ≠ .select cs b) (hpb : ∀ i j, i < ops.size → j < ops.size → i ≠ j → pairB ops i j = true) {listed : Array Bool} {j : Nat} {oj : Oper} (hj : ops[j]? = some oj) (hjT : tIn ops j = true)
    (hdir : ∀ i, direct ops j i = true → listed.getD i false = true) :
    ∀ (n : Nat) (l : List Nat) (a : Act) (w : World), l.Nodup → (∀ i ∈ l, i < ops.size ∧ listed.getD i false = false) → j ∈ l → runB P ops S Q n l a w → S w →
      ∃ m, n = m + 1 ∧ wpOp P ops (fun _ _ _ => False) j (fun a' w' => S w' ∧ runB P ops S Q m (l.erase j) a' w') a w := by
  intro n
  induction n with
  | zero => intro l a w _ _ hjl h; rw [h.1] at hjl; cases hjl
  | succ n ih =>
    intro l a w hnd hl hjl h hS
    have hmin : ∀ k ∈ l, direct ops j k = false := fun k hk => by
      cases hd : direct ops j k
      · rfl
      · have := hdir k hd; rw [(hl k hk).2] at this; cases this
    rcases h with ⟨i, hil, hiT, hid, oi, hoi, u, hy, hr⟩ | ⟨_, hall⟩
    · have hij : i ≠ j := fun e => by rw [e, hjT] at hiT; cases hiT
      have hp := hpb i j (hl i hil).1 (hl j hjl).1 hij
      simp only [pairB, hid j hjl, hmin i hil, hiT, Bool.false_and, Bool.false_or, hoi, hj, Bool.and_eq_true] at hp
      have hsel : ∀ cs b, oj.op ≠ .select cs b := fun cs b => hns j oj cs b hj
      have hseli : ∀ cs b, oi.op ≠ .select cs b := fun cs b => hns i oi cs b hoi
      have hjl' : j ∈ l.erase i := (List.Nodup.mem_erase_iff hnd).2 ⟨Ne.symm hij, hjl⟩
      have hil' : i ∈ l.erase j := (List.Nodup.mem_erase_iff hnd).2 ⟨hij, hil⟩
      obtain ⟨m, rfl, h1⟩ := ih (l.erase i) _ w (hnd.erase i) (fun k hk => hl k (List.mem_of_mem_erase hk)) hjl' hr hS
      refine ⟨m + 1, rfl, ?_⟩
      have h2 := wpOp_putIf hj hp.1 hseli hsel (fun _ _ _ h => h) hy h1
      exact wpOp_mono (fun a' w' ⟨hy', hS', hr'⟩ => ⟨hS', .inl ⟨i, hil', hiT, fun k hk => hid k (List.mem_of_mem_erase hk), oi, hoi, u, hy', by rw [List.erase_comm]; exact hr'⟩⟩) h2
    · obtain ⟨o, ho, hw, hd⟩ := hall j hjl hjT hmin
      rw [hj] at ho
      cases ho
      refine ⟨n, rfl, ?_⟩
      unfold wpOp
      simp only [hj, hw, if_true]
      exact .inl (hd.wp fun v w' h => h)

theorem branch_orders (hok : branchOk ops = true) {Q' : Exit → Act → World → Prop} (hQ : ∀ a w, Q a w → Q' .normal a w) :
    ∀ (n : Nat) (l : List Nat) (listed : Array Bool) (a : Act) (w : World), l.length = n → listed.size = ops.size → Closed ops listed → l.Nodup → (∀ k, k ∈ l ↔ k < ops.size ∧ listed.getD k true = false) →
      runB P ops S Q n l a w → S w → wpAny P .any ops Q' n listed a w := by
  simp only [branchOk, Bool.and_eq_true, List.all_eq_true, List.mem_range] at hok
  obtain ⟨hns, hall⟩ := hok
  have hsel := Region.noSelect_spec hns
  have hpb : ∀ i j, i < ops.size → j < ops.size → i ≠ j → pairB ops i j = true := fun i j hi hj hij => by
    have := (hall j hj).2 i hi
    simpa [hij] using this
  have hafter : ∀ x, x < ops.size → ∀ o, ops[x]? = some o → ∀ e ∈ o.after, Region.binds .any e = true → e.on < x := fun x hx o ho e he hb => by
    have hb' := (hall x hx).1
    rw [ho] at hb'
    have := (Array.all_eq_true_iff_forall_mem.1 hb') e he
    rw [hb] at this
    simpa using this
  intro n
  induction n with
  | zero =>
    intro l listed a w hn hsz hc hnd hl h _
    obtain rfl := List.eq_nil_of_length_eq_zero hn
    refine ⟨?_, hQ _ _ h.2⟩
    refine List.eq_nil_iff_forall_not_mem.2 fun k hk => ?_
    obtain ⟨h1, o, ho, _⟩ := mem_ready.1 hk
    have : k < ops.size := by
      rcases Nat.lt_or_ge k ops.size with h | h
      · exact h
      · rw [Array.getElem?_eq_none h] at ho; cases ho
    exact absurd ((hl k).2 ⟨this, h1⟩) (by simp)
  | succ n ih =>
    intro l listed a w hn hsz hc hnd hl h hS
    have unl : ∀ i ∈ l, i < ops.size ∧ listed.getD i false = false := fun i hi => by
      have := (hl i).1 hi
      have hlt' : i < listed.size := by omega
      exact ⟨this.1, by simpa [hlt'] using this.2⟩
    have hlist : ∀ k, k < ops.size → k ∉ l → listed.getD k false = true := fun k hk hkl => by
      cases hg : listed.getD k false
      · exfalso
        apply hkl
        refine (hl k).2 ⟨hk, ?_⟩
        have hlt' : k < listed.size := by omega
        simp [hlt'] at hg ⊢; exact hg
      · rfl
    refine ⟨fun hr => ?_, fun j hj => ?_⟩
    · exfalso
      -- the least that is left is ready
      have hex : ∃ x ∈ l, ∀ y ∈ l, x ≤ y := by
        have : ∀ (l : List Nat), l ≠ [] → ∃ x ∈ l, ∀ y ∈ l, x ≤ y := by
          intro l
          induction l with
          | nil => intro h; exact absurd rfl h
          | cons z l ihl =>
            intro _
            by_cases he : l = []
            · subst he; exact ⟨z, by simp, by simp⟩
            · obtain ⟨x, hx, hm⟩ := ihl he
              by_cases hzx : z ≤ x
              · exact ⟨z, by simp, fun y hy => by rcases List.mem_cons.1 hy with rfl | hy; omega; have := hm y hy; omega⟩
              · exact ⟨x, by simp [hx], fun y hy => by rcases List.mem_cons.1 hy with rfl | hy; omega; exact hm y hy⟩
        exact this l (by intro e; rw [e] at hn; cases hn)
      obtain ⟨x, hxl, hmin⟩ := hex
      have hx := (hl x).1 hxl
      have : x ∈ Region.ready .any ops listed := by
        have ho : ops[x]? = some (ops[x]'hx.1) := Array.getElem?_eq_getElem hx.1
        refine mem_ready.2 ⟨hx.2, _, ho, fun e he hb => ?_⟩
        have hlt := hafter x hx.1 _ ho e he hb
        exact hlist e.on (by omega) fun hm => by have := hmin _ hm; omega
      rw [hr] at this
      cases this
    · obtain ⟨hjun, oj, hoj, hall'⟩ := mem_ready.1 hj
      have hjs : j < ops.size := by
        rcases Nat.lt_or_ge j ops.size with h | h
        · exact h
        · rw [Array.getElem?_eq_none h] at hoj; cases hoj
      have hjl : j ∈ l := (hl j).2 ⟨hjs, hjun⟩
      have hdir : ∀ i, direct ops j i = true → listed.getD i false = true := fun i hi => by
        obtain ⟨e, he, hb, rfl⟩ := (direct_iff hoj).1 hi
        exact hall' e he hb
      have main : wpOp P ops (fun _ _ _ => False) j (fun a' w' => S w' ∧ runB P ops S Q n (l.erase j) a' w') a w := by
        cases hjT : tIn ops j
        · obtain ⟨v, hy, m, hm, hr⟩ := runB_pull hsel hpb hc hoj hjT hdir (n + 1) l a w hnd unl hjl h hS
          cases hm
          exact hy.wpOp hoj hS ⟨hS, hr⟩
        · obtain ⟨m, hm, hw⟩ := runB_pullT hsel hpb hoj hjT hdir (n + 1) l a w hnd unl hjl h hS
          cases hm
          exact hw
      refine wpOp_mono (fun a' w' ⟨hS', hr'⟩ => ?_) (wpOp_weaken main)
      refine ih (l.erase j) (listed.setIfInBounds j true) a' w' (by rw [List.length_erase_of_mem hjl]; omega) (by simpa using hsz) ?_ (hnd.erase j) ?_ hr' hS'
      · intro k o hk hlk e he hb
        by_cases hkj : j = k
        · subst hkj
          rw [hoj] at hk
          cases hk
          exact getD_set_true (hall' e he hb)
        · rw [getD_set_ne false hkj] at hlk
          exact getD_set_true (hc k o hk hlk e he hb)
      · intro k
        rw [List.Nodup.mem_erase_iff hnd, hl k]
        by_cases hkj : j = k
        · subst hkj
          have hlt' : j < listed.size := by omega
          simp [hlt']
        · rw [getD_set_ne true hkj]
          constructor
          · rintro ⟨_, h⟩; exact h
          · intro h; exact ⟨Ne.symm hkj, h⟩

/-- THE LAW. -/
theorem wp_region_branch {id : Nat} {a : Act} {w : World} {Q' : Exit → Act → World → Prop} (S : World → Prop) (hm : P.follows .mixedOrders = true) (hok : branchOk ops = true) (hS : S w.drew)
    (h : runB P ops S (Q' .normal) ops.size (List.range ops.size) a w.drew) : (Code.region id ops true).wp P Q' a w := by
  refine wp_region_any hm ?_
  refine branch_orders hok (Q' := Q') (fun _ _ h => h) ops.size (List.range ops.size) (Array.replicate ops.size false) a w.drew (by simp) (by simp) ?_ List.nodup_range ?_ h hS
  · intro j o ho hl
    have hlt : j < ops.size := by
      rcases Nat.lt_or_ge j ops.size with h | h
      · exact h
      · rw [Array.getElem?_eq_none h] at ho; cases ho
    simp [hlt] at hl
  · intro k
    simp only [List.mem_range]
    constructor
    · intro h; exact ⟨h, by simp [h]⟩
    · exact fun h => h.1

/-- An operation, read off the list (it comes out as it is written). -/
def oAt : List Oper → Nat → Option Oper
  | [], _ => none
  | o :: _, 0 => some o
  | _ :: l, n + 1 => oAt l n
theorem oAt_eq : ∀ (l : List Oper) (i : Nat), oAt l i = l[i]?
  | [], _ => rfl
  | _ :: _, 0 => rfl
  | _ :: l, n + 1 => by rw [oAt, oAt_eq l n]; rfl
theorem oAt_get {ops : Array Oper} {i : Nat} {o : Oper} (h : oAt ops.toList i = some o) : ops[i]? = some o := by
  rw [oAt_eq] at h; simpa using h
theorem runB_nil {a : Act} {w : World} (h : Q a w) : runB P ops S Q 0 [] a w := ⟨rfl, h⟩
theorem runB_no {n i : Nat} {l : List Nat} {o : Oper} {a : Act} {w : World} (ho : oAt ops.toList i = some o) (hT : tIn ops i = false) (hd : ((i :: l).all fun k => !direct ops i k) = true) (hw : Region.wanted o (yielded ops a.tmps) = false)
    (h : runB P ops S Q n l (a.put o.dst undef) w) : runB P ops S Q (n + 1) (i :: l) a w :=
  .inl ⟨i, List.mem_cons_self .., hT, fun k hk => by have := List.all_eq_true.1 hd k hk; simpa using this, o, oAt_get ho, undef, .inr ⟨hw, rfl⟩, by rw [List.erase_cons_head]; exact h⟩
theorem runB_val {n i : Nat} {l : List Nat} {o : Oper} {a : Act} {w : World} {v : Value} (ho : oAt ops.toList i = some o) (hT : tIn ops i = false) (hd : ((i :: l).all fun k => !direct ops i k) = true) (hw : Region.wanted o (yielded ops a.tmps) = true)
    (hv : ∀ w, S w → (execOp a.eval o).run P w = .ok (.value v) w) (h : runB P ops S Q n l (a.put o.dst v) w) : runB P ops S Q (n + 1) (i :: l) a w :=
  .inl ⟨i, List.mem_cons_self .., hT, fun k hk => by have := List.all_eq_true.1 hd k hk; simpa using this, o, oAt_get ho, v, .inl ⟨hw, hv⟩, by rw [List.erase_cons_head]; exact h⟩
/-- Whatever is left and does not change the world waits for something; these are the ones that may come next. -/
def nextT (ops : Array Oper) (l : List Nat) : List Nat := l.filter fun j => tIn ops j && l.all fun k => !direct ops j k
def stuckB (ops : Array Oper) (l : List Nat) : Bool := l.all fun j => tIn ops j || l.any fun k => reaches ops ops.size j k
theorem runB_next {n : Nat} {l : List Nat} {a : Act} {w : World} (L : List Nat) (hL : nextT ops l = L) (hs : stuckB ops l = true)
    (h : ∀ j ∈ L, ∃ o, ops[j]? = some o ∧ Region.wanted o (yielded ops a.tmps) = true ∧ TDoes P o a w fun v w' => S w' ∧ runB P ops S Q n (l.erase j) (a.put o.dst v) w') : runB P ops S Q (n + 1) l a w := by
  refine .inr ⟨fun j hj hT => ?_, fun j hj hT hd => h j ?_⟩
  · have := List.all_eq_true.1 hs j hj
    rw [hT, Bool.false_or, List.any_eq_true] at this
    exact this
  · rw [← hL]
    simp only [nextT, List.mem_filter, Bool.and_eq_true, List.all_eq_true, Bool.not_eq_true']
    exact ⟨hj, hT, hd⟩
theorem runB_one {n : Nat} {l : List Nat} {a : Act} {w : World} (j : Nat) (hL : nextT ops l = [j]) (hs : stuckB ops l = true) {o : Oper} (ho : oAt ops.toList j = some o) (hw : Region.wanted o (yielded ops a.tmps) = true)
    (h : TDoes P o a w fun v w' => S w' ∧ runB P ops S Q n (l.erase j) (a.put o.dst v) w') : runB P ops S Q (n + 1) l a w :=
  runB_next [j] hL hs fun k hk => by rw [List.mem_singleton] at hk; subst hk; exact ⟨o, oAt_get ho, hw, h⟩
theorem runB_two {n : Nat} {l : List Nat} {a : Act} {w : World} (j k : Nat) (hL : nextT ops l = [j, k]) (hs : stuckB ops l = true) {o p : Oper} (ho : oAt ops.toList j = some o) (hw : Region.wanted o (yielded ops a.tmps) = true) (hp : oAt ops.toList k = some p) (hwp : Region.wanted p (yielded ops a.tmps) = true)
    (h : TDoes P o a w fun v w' => S w' ∧ runB P ops S Q n (l.erase j) (a.put o.dst v) w') (h' : TDoes P p a w fun v w' => S w' ∧ runB P ops S Q n (l.erase k) (a.put p.dst v) w') : runB P ops S Q (n + 1) l a w :=
  runB_next [j, k] hL hs fun x hx => by
    rcases List.mem_cons.1 hx with rfl | hx
    · exact ⟨o, oAt_get ho, hw, h⟩
    · rw [List.mem_singleton] at hx; subst hx; exact ⟨p, oAt_get hp, hwp, h'⟩
theorem tdoes_call {o : Oper} {a : Act} {w w1 : World} {K : Value → World → Prop} {f : FuncId} {args : Array Value} (hr : (execOp a.eval o).run P w = .ok (.enter f args) w1) (h : Calls P f args w1 fun e w' => ∃ v, e = .returned v ∧ K v w') : TDoes P o a w K := by
  unfold TDoes; rw [hr]; exact h
theorem tdoes_op {o : Oper} {a : Act} {w w1 : World} {K : Value → World → Prop} {v : Value} (hr : (execOp a.eval o).run P w = .ok (.value v) w1) (h : K v w1) : TDoes P o a w K := by
  unfold TDoes; rw [hr]; exact h
theorem tdoes_skip {o : Oper} {a : Act} {w w1 : World} {K : Value → World → Prop} (hr : (execOp a.eval o).run P w = .ok .skip w1) (h : K undef w1) : TDoes P o a w K := by
  unfold TDoes; rw [hr]; exact h
end
end Go.Proofs.YtjbabpnepjhllaaGreat

/- duties.Ahead. -/
namespace Go.Proofs.YtjbabpnepjhllaaGreat
open Go.RowKit

theorem start_well {k : Krn} (hc : checkK k = true) : WellL k.vars.length (startF k) := by
  unfold startF
  rw [if_pos hc]
  refine ⟨fine_sort _, fun f hf => ?_⟩
  obtain ⟨l, hl, hfl⟩ := List.mem_flatten.1 (mem_sortF.1 hf).1
  obtain ⟨o, ho, rfl⟩ := List.mem_map.1 hl
  have h := (checkK_parts hc).2.2.2.1 o ho
  unfold reqK at h
  simp only [Bool.and_eq_true, beq_iff_eq] at h
  exact well_needs (o := o) (by unfold oneK; rw [if_pos h.1]; exact h.2.1) f hfl
theorem kfine_of {k : Krn} (hc : checkK k = true) (hok : ∀ o ∈ k.ops, KOpOk o) (hv : k.vars.length ≤ 190) : KFine k := ⟨check_bal hc, fun _ _ ho => opsK_one (checkK_parts hc).2.2.2.2 ho, hok, hv, (checkK_parts hc).2.1⟩
theorem live_all (k : Krn) : LiveK k.ops 0 k.ops.length := ⟨Nat.zero_le _, Nat.le_refl _, .inl ⟨rfl, by simp [kS, kTo]⟩⟩
/-- What Ahead tells. -/
def AheadIs (k : Krn) (A : List (List Fct)) : Prop := if checkK k = true then ∃ l', RunD k.vars k.ops false 0 k.ops.length (startF k) (List.replicate k.ops.length []) l' A else A = []
theorem ahead_ex (k : Krn) : ∃ A, AheadIs k A := by
  unfold AheadIs
  by_cases hc : checkK k = true
  · obtain ⟨l', A', h⟩ := runD_ends (vs := k.vars) (check_bal hc) k.ops.length 0 k.ops.length (live_all k) (by omega) (startF k) (List.replicate k.ops.length [])
    exact ⟨A', by rw [if_pos hc]; exact ⟨l', h⟩⟩
  · exact ⟨[], by rw [if_neg hc]⟩
noncomputable def aheadF (k : Krn) : List (List Fct) := Classical.choose (ahead_ex k)
theorem aheadF_is (k : Krn) : AheadIs k (aheadF k) := Classical.choose_spec (ahead_ex k)
theorem ahead_det {k : Krn} {A B : List (List Fct)} (h : AheadIs k A) (h' : AheadIs k B) : B = A := by
  unfold AheadIs at h h'
  by_cases hc : checkK k = true
  · rw [if_pos hc] at h h'
    obtain ⟨l, h⟩ := h
    obtain ⟨l', h'⟩ := h'
    exact (runD_det h _ _ h').2
  · rw [if_neg hc] at h h'
    rw [h, h']
/-- Rows of facts, a slice of slices. -/
structure RowsF (w : World) (A : List (List Fct)) (Ag : Option Addr) (n c : Nat) : Prop where
  len : A.length = n
  row : ∀ (i : Nat) (l : List Fct), A[i]? = some l → ∃ ga, Ag = some ⟨ga, 0, none⟩ ∧ ga < w.heap.size ∧ ∃ Al nl cl, w.cell? ⟨ga, i, none⟩ = some (.slice Al nl cl) ∧ FactsAt w (fun k => k < w.heap.size) (.slice Al nl cl) l
theorem RowsF.next {w w' : World} {A : List (List Fct)} {Ag : Option Addr} {n c : Nat} (h : RowsF w A Ag n c) (hb : Below w.heap.size w w') : RowsF w' A Ag n c := ⟨h.len, fun i l hl => by
  obtain ⟨ga, h1, h2, Al, nl, cl, h3, h4⟩ := h.row i l hl
  exact ⟨ga, h1, Nat.lt_of_lt_of_le h2 hb.size, Al, nl, cl, (hb.cell (p := ⟨ga, i, none⟩) h2).trans h3, rows_next h4 hb⟩⟩
theorem LookAt.rows {w : World} {bx ga : Nat} {Av : Option Addr} {nv cv : Nat} {Ao : Option Addr} {no co : Nat} {vr : Value} {Ae : Option Addr} {ne ce : Nat} {k : Krn} {A : List (List Fct)} (h : LookAt w bx ga Av nv cv Ao no co vr Ae ne ce k A) : RowsF w A (some ⟨ga, 0, none⟩) no no := ⟨h.len, fun i l hl => by
  obtain ⟨vals, h1, h2, h3⟩ := h.blk
  have hi := (List.getElem?_eq_some_iff.1 hl).1
  have hlen := h.len
  obtain ⟨v, hv⟩ : ∃ v, vals[i]? = some v := ⟨_, List.getElem?_eq_getElem (by omega)⟩
  obtain ⟨⟨A1, n1, c1, rfl⟩, h4⟩ := h3 i v l hv hl
  exact ⟨ga, rfl, h.lt.2, A1, n1, c1, by simp only [World.cell?, h2]; simpa using hv, Rows.mono h4 fun _ hq => hq.1⟩⟩
/-- What Ahead answers. -/
def AheadSay (A : List (List Fct)) (w : World) (e : Ending) (w' : World) : Prop := ∃ Ag n c, e = .returned (.slice Ag n c) ∧ RowsF w' A Ag n c ∧ Below w.heap.size w w'
theorem infoR : (Tryz.prog.info? 39).map (fun i => (i.zero, i.size, i.bytes)) = some (some (.slice none 0 0), 1, 24) := by kernel_rfl
theorem make_rows (n : Nat) (hn : n ≤ 100000) (w : World) : (Instr.makeSlice 47 (.int .i64 n) (.int .i64 n)).run Tryz.prog w = .ok (.slice (some ⟨w.heap.size, 0, none⟩) n n) (w.alloc (.cells (List.replicate n (Value.slice none 0 0)).toArray 39)) := by
  obtain ⟨i0, hi, hz0, hz1, hz2⟩ := info_parts infoR
  have h := run_make (P := Tryz.prog) w 47 39 i0 (.slice none 0 0) Tryz.underlying47 hi hz0 .i64 .i64 n n (by omega) (by omega) (by rw [hz2]; omega) (by omega)
  rw [hz1] at h
  have e : (Value.slice none 0 0).cells = #[.slice none 0 0] := rfl
  have e2 : madeCells #[.slice none 0 0] n = (List.replicate n (Value.slice none 0 0)).toArray := by
    refine Array.ext (by simp [size_madeCells]) fun i h1 h2 => ?_
    simp [madeCells, Nat.mod_one]
  rw [e] at h
  simp only [Int.toNat_natCast, Nat.mul_one, e2] at h
  exact h
section
variable {P : Program} {ops : Array Oper} {S : World → Prop} {Q : Act → World → Prop}
theorem runB_at {n : Nat} (i : Nat) {l : List Nat} {o : Oper} {a : Act} {w : World} {v : Value} (hi : (l.contains i) = true) (ho : oAt ops.toList i = some o) (hT : tIn ops i = false) (hd : (l.all fun k => !direct ops i k) = true) (hw : Region.wanted o (yielded ops a.tmps) = true)
    (hv : ∀ w, S w → (execOp a.eval o).run P w = .ok (.value v) w) (h : runB P ops S Q n (l.erase i) (a.put o.dst v) w) : runB P ops S Q (n + 1) l a w :=
  .inl ⟨i, by simpa using hi, hT, fun k hk => by have := List.all_eq_true.1 hd k hk; simpa using this, o, oAt_get ho, v, .inl ⟨hw, hv⟩, h⟩
end
/-- A looker is made. -/
theorem look_new {w : World} {bx ga : Nat} {Av : Option Addr} {nv cv : Nat} {Ao : Option Addr} {no co : Nat} {vr : Value} {Ae : Option Addr} {ne ce : Nat} {k : Krn}
    (hx : w.heap[bx]? = some (.cells #[.slice Av nv cv, .slice Ao no co, vr, .slice Ae ne ce, .slice (some ⟨ga, 0, none⟩) no no] 81 (0, 0)))
    (hg : w.heap[ga]? = some (.cells (List.replicate no (Value.slice none 0 0)).toArray 39 (0, 0))) (hne : bx ≠ ga) (hno : no = k.ops.length)
    (hv : KVarsAt w (NG w ga) (.slice Av nv cv) k.vars) (ho : KOpsAt w (NG w ga) (.slice Ao no co) k.ops) (he : NumsAt w (NG w ga) (.slice Ae ne ce) (kEnds k.ops)) :
    LookAt w bx ga Av nv cv Ao no co vr Ae ne ce k (List.replicate k.ops.length []) := by
  refine ⟨hx, ⟨List.replicate no (Value.slice none 0 0), by simp, hg, fun i v l hv hl => ?_⟩, by simp [hno], hne, hv, ho, he⟩
  have h1 := List.eq_of_mem_replicate (List.mem_of_getElem? hv)
  have h2 := List.eq_of_mem_replicate (List.mem_of_getElem? hl)
  subst h1; subst h2
  exact ⟨⟨_, _, _, rfl⟩, facts_nil _ _⟩
end Go.Proofs.YtjbabpnepjhllaaGreat

/- lengths.Ends: its row is new. -/
namespace Go.Proofs.YtjbabpnepjhllaaGreat
open Go.RowKit

/-- A row of numbers, in new blocks. -/
def NumsNew (l : List Int) (w : World) (e : Ending) (w' : World) : Prop := ∃ A n c, e = .returned (.slice A n c) ∧ NumsAt w' (fun k => w.heap.size ≤ k ∧ k < w'.heap.size) (.slice A n c) l ∧ Below w.heap.size w w'
set_option maxRecDepth 100000 in
set_option maxHeartbeats 8000000 in
theorem lends_new (Av Ao Ar : Option Addr) (nv cv no co nr cr : Nat) (k : Krn) (w : World) (F : Nat → Prop) (hk : KernAt w F [.slice Av nv cv, .slice Ao no co, .slice Ar nr cr] k) (hF : ∀ k, F k → k < w.heap.size) (hvn : k.vars.length ≤ 100000) (hc : checkK k = true) :
    Calls Tryz.prog 47 #[.agg #[.slice Av nv cv, .slice Ao no co, .slice Ar nr cr]] w (NumsNew (kEnds k.ops) w) := by
  obtain ⟨W, hW⟩ : ∃ W, W = w.alloc (.cells #[.slice Av nv cv, .slice Ao no co, .slice Ar nr cr] 25) := ⟨_, rfl⟩
  have hb : Below w.heap.size w W := by rw [hW]; exact (Below.refl _ _).alloc (Nat.le_refl _) _
  have hz : W.heap.size = w.heap.size + 1 := by rw [hW]; simp
  have hbox : W.heap[w.heap.size]? = some (.cells #[.slice Av nv cv, .slice Ao no co, .slice Ar nr cr] 25 (0, 0)) := by rw [hW]; exact heap_alloc_new w _
  have hk2 : KernAt W (fun k => k < W.heap.size) [.slice Av nv cv, .slice Ao no co, .slice Ar nr cr] k := (hk.keep (SameOn.of_below hb hF)).mono fun j hj => by have := hF j hj; omega
  have hkb := kbox_of hbox hk2
  have hchk := lcheck_any Av Ao Ar nv cv no co nr cr k W _ hk2 (fun k hk => hk) hvn
  rw [show errK k = 0 by unfold errK; rw [hc]; rfl] at hchk
  have HW := Lib.hid hW
  have HB := Lib.hid hb
  have HK := Lib.hid hkb
  have HCH := Lib.hid hchk
  have HNO := Lib.hid hkb.nv.2.1
  have HBAL := Lib.hid (check_bal hc)
  have n6 : no ≤ 4096 := by have := hkb.nv; have := (checkK_parts hc).2.1; omega
  have c0 := hkb.c0
  have c1 := hkb.c1
  have c2 := hkb.c2
  clear hW hb hz hbox hk2 hkb hk hF hc hchk
  obtain ⟨i0, hi, hz0, hz1, hz2⟩ := info_parts infoI
  go_enter Tryz.func47, Tryz.ntmps47
  go_upto_region 1 with (first | go_in)
  rw [← HW.out]
  clear HW
  go_upto_region 3 with (first | ((with_reducible refine HCH.out.mono ?_); rintro e w1 ⟨rfl, hb1⟩; have HK1 := Lib.hid (HK.out.next hb1); have HB1 := Lib.hid (HB.out.trans (hb1.mono HB.out.size)); clear hb1) | go_in)
  clear c0 c1 c2 HCH
  have hba : Below w1.heap.size w1 (w1.alloc (.cells #[.int .i64 (-1)] 3)) := (Below.refl _ _).alloc (Nat.le_refl _) _
  have c1 := (HK1.out.next hba).c1
  have HRP := Lib.hid (Repeat_Int [.int .i64 (-1)] rfl (by simp [Value.oneCell']) w1.heap.size 0 1 no (by omega) (w1.alloc (.cells #[.int .i64 (-1)] 3)) (by simp) (fun j v h => by
    match j, h with
    | 0, h => cases h; rw [Nat.zero_add]; exact cell_new w1 _ _ rfl
    | j + 1, h => cases h))
  have HBA := Lib.hid hba
  clear hba
  go_upto_region 4 with (first | ((with_reducible refine HRP.out.mono ?_); rintro e w2 ⟨rfl, hg2, hb2⟩; have HG2 := Lib.hid hg2; have HB2 := Lib.hid (HBA.out.trans (hb2.mono HBA.out.size)); clear hg2 hb2) | go_in)
  have hz1' : (w1.alloc (.cells #[.int .i64 (-1)] 3)).heap.size = w1.heap.size + 1 := by simp
  rw [hz1'] at HG2
  obtain ⟨g, hg⟩ : ∃ g, g = w1.heap.size + 1 := ⟨_, rfl⟩
  rw [← hg] at HG2 ⊢
  have HST := Lib.hid (show EndAt w1 w2 g (kTo k.ops 0).1 (kTo k.ops 0).2 (.slice none 0 0) 0 from ⟨HB2.out, by omega, by
    have h := HG2.out
    rw [show (intV (kTo k.ops 0).1) = repV [.int .i64 (-1)] no by unfold kTo intV repV; rw [← HNO.out]; simp]
    exact h, World.ownsRow_nil _ _ _ _, by simp [Value.ownBlock]⟩)
  have HK2 := Lib.hid (HK1.out.next HB2.out)
  clear c1 hz1' hg HG2 HRP HBA
  have c1 := HK2.out.c1
  go_wp2
  go_loopw [4, 5, 6, 7, 19] (fun s4 _ _ _ i wr => ∃ (j m : Nat) (A : Option Addr) (c : Nat), j ≤ no ∧ i = .int .i64 j ∧ s4 = .slice A m c ∧ EndAt w1 wr g (kTo k.ops j).1 (kTo k.ops j).2 (.slice A m c) m) (fun _ _ _ _ i _ => no - (intOf i).toNat)
  case atStart => exact ⟨0, 0, none, 0, by omega, rfl, rfl, HST.out⟩
  case round =>
    obtain ⟨j, m, A, c, hj, rfl, rfl, he⟩ := hrel
    have HER := Lib.hid he
    by_cases hlt : j < no
    · have d1 : decide (j < no) = true := decide_eq_true hlt
      obtain ⟨o, hx⟩ : ∃ v, k.ops[j]? = some v := ⟨_, List.getElem?_eq_getElem (by have := HNO.out; omega)⟩
      have HNX := Lib.hid (kTo_next hx)
      have hsl : m ≤ j := by
        have h1 := he.len
        have h2 : ∀ i, (kTo k.ops i).2.length ≤ i := by
          intro i
          induction i with
          | zero => simp [kTo]
          | succ i ih =>
            unfold kTo
            split
            · unfold kStep
              split
              · simp only [List.length_cons]; omega
              · split
                · split
                  · rename_i h; rw [h] at ih; simp only [List.length_cons] at ih; simp only; omega
                  · omega
                · omega
            · omega
        have := h2 j
        omega
      have HSX := Lib.hid (show o.kind = 16 → (kTo k.ops j).2 ≠ [] from HBAL.out.some_ j o hx)
      have hbx : ∀ x ∈ (kTo k.ops j).2, x < j := kS_lt k.ops j
      have HBX := Lib.hid hbx
      obtain ⟨gg, off, hA, hgg, x0, x1, x2, x3, x4, x5, x6⟩ := (HK1.out.next he.below).ops.at_ hx
      subst hA
      have i0' : (0 : Int) ≤ (j : Int) := by omega
      have i1 : (j : Int) < (no : Int) := by omega
      clear he hgg hx hbx
      go_upto_region 8 with (first | go_in)
      obtain ⟨WO, hWO⟩ : ∃ W, W = wr.alloc (.cells #[.int .i64 o.kind, .int .i64 o.d, .int .i64 o.e, .int .i64 o.a, .int .i64 o.b, .int .i64 o.c, .int .u64 o.imm] 43) := ⟨_, rfl⟩
      rw [← hWO]
      have hbo : Below wr.heap.size wr WO := by rw [hWO]; exact (Below.refl _ _).alloc (Nat.le_refl _) _
      have hob : OpBox WO wr.heap.size o := OpBox.of (t := 43) (fr := (0, 0)) (by rw [hWO]; exact heap_alloc_new wr _)
      have HEO := Lib.hid (HER.out.next hbo)
      have y0 := hob.kind
      clear hWO hbo hob x0 x1 x2 x3 x4 x5 x6
      by_cases h15 : o.kind = 15
      · have e15 : (o.kind == 15) = true := by rw [beq_iff_eq]; exact h15
        have HN := Lib.hid (show kTo k.ops (j + 1) = ((kTo k.ops j).1, j :: (kTo k.ops j).2) by rw [HNX.out]; unfold kStep; rw [if_pos h15])
        clear h15
        go_wp2_with (first
          | (at_builtin; refine wpList_append_own_at _ rfl _ _ 50 rfl w1.heap.size 3 i0 (.int .i64 0) 1 8 Tryz.underlying50 hi hz0 hz1 hz2 rfl (by decide) (.slice A m c) m _ rfl (HEO.out.row.alloc _) ⟨WO.heap.size, 0, none⟩ 1 1 [Value.int .i64 (j : Int)] rfl (by rfl) (cells_new_at WO #[Value.int .i64 (j : Int)] 3) (by simp [Value.oneCell']) (by unfold maxLen; omega) (by omega) (by have := HEO.out.below.size; simp; omega) ?_; intro v' w6 ho6 hg6 _ hw6
             have HO6 := Lib.hid ho6
             have HG6 := Lib.hid hg6
             have HW6 := Lib.hid hw6
             obtain ⟨A6, c6, rfl⟩ := own_form ho6
             clear ho6 hg6 hw6)
          | go_in)
        go_roundw
        case rel =>
          refine ⟨j + 1, m + 1, A6, c6, hlt, by go_num, rfl, ?_⟩
          rw [HN.out]
          have hlt2 := lt_of_block HEO.out.blk
          refine ⟨(HEO.out.below.alloc HEO.out.below.size _).grown HG6.out (by have := HEO.out.below.size; simp; omega) (fun q e => (own_lt HEO.out.row q e).2), HEO.out.ge, ?_, ?_, ?_⟩
          · refine (HG6.out.block g (by simp; omega) (fun e => HEO.out.ne e.symm)).trans ((Below.heap_alloc WO _ g hlt2).trans HEO.out.blk)
          · have := HO6.out
            simpa [intV] using this
          · rcases HW6.out with h | h
            · rw [h]; exact HEO.out.ne
            · rw [h]; intro e
              have e2 := Option.some.inj e
              simp at e2
              omega
        case measure => simp [intOf]; omega
      have e15 : (o.kind == 15) = false := beq_eq_false_iff_ne.2 h15
      by_cases h16 : o.kind = 16
      · have e16 : (o.kind == 16) = true := by rw [beq_iff_eq]; exact h16
        obtain ⟨q, st, hst⟩ : ∃ q st, (kTo k.ops j).2 = q :: st := by
          cases h : (kTo k.ops j).2 with
          | nil => exact absurd h (HSX.out h16)
          | cons q st => exact ⟨q, st, rfl⟩
        have hqj : q < j := HBX.out q (by rw [hst]; exact List.mem_cons_self ..)
        have HN := Lib.hid (show kTo k.ops (j + 1) = (((kTo k.ops j).1.set j (q : Int)).set q (j : Int), st) by
          rw [HNX.out]; unfold kStep; rw [if_neg h15, if_pos h16, hst]
          simp only
          rw [List.set_comm _ _ (by omega)])
        have hml : m = st.length + 1 := by rw [← HEO.out.len, hst]; rfl
        have hlo := kTo_len k.ops j
        obtain ⟨uj, huj⟩ : ∃ u, (kTo k.ops j).1[j]? = some u := ⟨_, List.getElem?_eq_getElem (by have := HNO.out; omega)⟩
        obtain ⟨uq, huq⟩ : ∃ u, ((kTo k.ops j).1.set j (q : Int))[q]? = some u := ⟨_, List.getElem?_eq_getElem (by rw [List.length_set]; have := HNO.out; omega)⟩
        have HUJ := Lib.hid huj
        have HUQ := Lib.hid huq
        have HEO := Lib.hid (hst ▸ HEO.out)
        obtain ⟨gl, cl, hA, _, _⟩ := own_some HEO.out.row (by omega)
        cases hA
        have htop : ∀ w_, EndAt w1 w_ g (kTo k.ops j).1 (q :: st) (.slice (some ⟨gl, 0, none⟩) m c) m → w_.cell? ⟨gl, st.length, none⟩ = some (.int .i64 (q : Int)) := fun w_ h => own_cell h.row (by simp [intV])
        have HTOP := Lib.hid htop
        have i2 : (0 : Int) ≤ (st.length : Int) := by omega
        have i3 : (st.length : Int) < (m : Int) := by omega
        have i4 : IntKind.i64.wrap (st.length : Int) = st.length := by rw [IntKind.wrap_i64]; omega
        have i5 : (0 : Int) ≤ (q : Int) := by omega
        have i6 : (q : Int) < (no : Int) := by omega
        have i7 : IntKind.i64.wrap (q : Int) = q := by rw [IntKind.wrap_i64]; omega
        have i8 : IntKind.i64.wrap (j : Int) = j := by rw [IntKind.wrap_i64]; omega
        have i9 : (m : Int) - 1 = (st.length : Int) := by omega
        obtain ⟨sl, hsl2⟩ : ∃ n, n = st.length := ⟨_, rfl⟩
        rw [← hsl2] at i2 i3 i4 i9 hml HTOP
        have HML := Lib.hid hml
        have HSL := Lib.hid hsl2
        clear h15 h16 hst hqj hlo huj huq htop hml hsl2
        go_upto_region 13 with (first | go_in)
        have HS1 := Lib.hid (HEO.out.set j (q : Int))
        have HS2 := Lib.hid (HS1.out.set q (j : Int))
        (refine wp_region_stages (fun k_ w_ => ((fun k => k == 6 || k == 10) k_ = true → (fun w_ => EndAt w1 w_ g (kTo k.ops j).1 (q :: st) (.slice (some ⟨gl, 0, none⟩) m c) m) w_) ∧ (fun _ => True) w_) (by kernel_rfl) (by kernel_rfl) (fun _ => ⟨fun _ => ((And.intro (HEO.out.next (Below.refl _ _).drew) trivial)).1, ((And.intro (HEO.out.next (Below.refl _ _).drew) trivial)).2⟩) ?_)
        (try simp only [])
        repeat (first | (refine runK_no (by rfl) ?_; (try simp only [Act.put, List.setIfInBounds_toArray, List.set_cons_zero, List.set_cons_succ])) | (refine runK_val (v := ?_) (by rfl) ?_ ?_; rotate_left; (focus (intro w_ hw_; obtain ⟨hE_, f2_⟩ := hw_; (try (replace hE_ := hE_ (by decide); have f1_ := HTOP.out _ hE_)); go_simp; (try with_reducible rfl); done)); (try simp only [Act.put, List.setIfInBounds_toArray, List.set_cons_zero, List.set_cons_succ])) | (refine runK_skip (w1 := WO.drew.setCell ⟨g, j, none⟩ (.int .i64 (q : Int))) (by rfl) (by rfl) (exec_store1 3 _ _ rfl g j _ rfl rfl (by kernel_rfl) (by show (World.cell? WO _).isSome = true; rw [HEO.out.cell HUJ.out]; rfl) (HEO.out.frozen j) rfl) (fun k_ hk_ => ⟨fun hc_ => (free_crit (C := (fun k => k == 6 || k == 10)) (by kernel_rfl) k_ hk_ hc_).elim, trivial⟩) ?_; (try simp only [Act.put])) | (refine runK_skip (w1 := (WO.drew.setCell ⟨g, j, none⟩ (.int .i64 (q : Int))).setCell ⟨g, q, none⟩ (.int .i64 (j : Int))) (by rfl) (by rfl) (exec_store1 3 _ _ rfl g q _ rfl rfl (by kernel_rfl) (by show (World.cell? (WO.setCell _ _) _).isSome = true; rw [HS1.out.cell HUQ.out]; rfl) (HS1.out.frozen q) rfl) (fun k_ hk_ => ⟨fun hc_ => (free_crit (C := (fun k => k == 6 || k == 10)) (by kernel_rfl) k_ hk_ hc_).elim, trivial⟩) ?_; (try simp only [Act.put])))
        (refine runK_nil ?_)
        have HS3 := Lib.hid (show EndAt w1 ((WO.drew.setCell ⟨g, j, none⟩ (.int .i64 (q : Int))).setCell ⟨g, q, none⟩ (.int .i64 (j : Int))) g (((kTo k.ops j).1.set j (q : Int)).set q (j : Int)) st (.slice (some ⟨gl, 0, none⟩) sl c) sl from by
          have h := (HEO.out.next (Below.refl _ _).drew).set j (q : Int) |>.set q (j : Int)
          refine ⟨h.below, h.ge, h.blk, ?_, h.ne⟩
          have h2 := own_cut h.row (m := sl) (by have := HML.out; omega)
          rw [HSL.out] at h2 ⊢
          simpa [intV] using h2)
        go_wp2
        go_roundw
        case rel => exact ⟨j + 1, sl, _, c, hlt, by go_num, rfl, by rw [HN.out]; exact HS3.out⟩
        case measure => simp [intOf]; omega
      · have e16 : (o.kind == 16) = false := beq_eq_false_iff_ne.2 h16
        have HN := Lib.hid (show kTo k.ops (j + 1) = kTo k.ops j by rw [HNX.out]; unfold kStep; rw [if_neg h15, if_neg h16])
        clear h15 h16
        go_wp2
        go_roundw
        case rel => exact ⟨j + 1, m, A, c, hlt, by go_num, rfl, by rw [HN.out]; exact HEO.out⟩
        case measure => simp [intOf]; omega
    · have d1 : decide (j < no) = false := decide_eq_false hlt
      have e : j = no := by omega
      subst e
      have HL := Lib.hid (show (kTo k.ops j).1 = kEnds k.ops by unfold kEnds; rw [← HNO.out])
      have hlen : (kEnds k.ops).length = j := by rw [← HL.out, kTo_len, ← HNO.out]
      have HLN := Lib.hid hlen
      clear he hlen
      go_wp2
      go_ret
      have hblk := HER.out.blk
      rw [HL.out] at hblk
      have hn := nums_blk hblk
      rw [HLN.out] at hn
      exact ⟨_, _, _, rfl, Rows.mono hn (fun q hq => by subst hq; exact ⟨Nat.le_trans HB1.out.size HER.out.ge, lt_of_block hblk⟩), HB1.out.trans (HER.out.below.mono HB1.out.size)⟩
end Go.Proofs.YtjbabpnepjhllaaGreat

/- duties.Start: its row is new. -/
namespace Go.Proofs.YtjbabpnepjhllaaGreat
open Go.RowKit

set_option maxRecDepth 100000 in
set_option maxHeartbeats 8000000 in
/-- Start. -/
theorem Start_new (Av Ao Ar : Option Addr) (nv cv no co nr cr : Nat) (k : Krn) (w : World) (F : Nat → Prop) (hk : KernAt w F [.slice Av nv cv, .slice Ao no co, .slice Ar nr cr] k) (hF : ∀ k, F k → k < w.heap.size) (hvn : k.vars.length ≤ 100000) :
    Calls Tryz.prog 25 #[.agg #[.slice Av nv cv, .slice Ao no co, .slice Ar nr cr]] w (FactsIn (fun _ => False) (startF k) w) := by
  obtain ⟨W, hW⟩ : ∃ W, W = w.alloc (.cells #[.slice Av nv cv, .slice Ao no co, .slice Ar nr cr] 25) := ⟨_, rfl⟩
  have hb : Below w.heap.size w W := by rw [hW]; exact (Below.refl _ _).alloc (Nat.le_refl _) _
  have hz : W.heap.size = w.heap.size + 1 := by rw [hW]; simp
  have hbox : W.heap[w.heap.size]? = some (.cells #[.slice Av nv cv, .slice Ao no co, .slice Ar nr cr] 25 (0, 0)) := by rw [hW]; exact heap_alloc_new w _
  have hk2 : KernAt W (fun k => k < W.heap.size) [.slice Av nv cv, .slice Ao no co, .slice Ar nr cr] k := (hk.keep (SameOn.of_below hb hF)).mono fun j hj => by have := hF j hj; omega
  have hkb := kbox_of hbox hk2
  have HCH := Lib.hid (fun (w1 : World) (h1 : Below W.heap.size W w1) => lcheck_any Av Ao Ar nv cv no co nr cr k w1 _ (kern_next hk2 h1) (fun k hk => hk) hvn)
  have HW := Lib.hid hW
  have HB := Lib.hid hb
  have HK := Lib.hid hkb
  have HNR := Lib.hid hkb.nv.2.2
  have HOK := Lib.hid hk.reqs
  obtain ⟨WM, hWM⟩ : ∃ WM, WM = W.alloc (.map #[] 0) := ⟨_, rfl⟩
  have hbm : Below W.heap.size W WM := by rw [hWM]; exact (Below.refl _ _).alloc (Nat.le_refl _) _
  have hs : SetAt WM W.heap.size 0 [] := by rw [hWM]; exact SetAt.made W
  have HWM := Lib.hid hWM
  have HBM := Lib.hid hbm
  have HS := Lib.hid hs
  have c0 := (hkb.next hbm).c0
  have c1 := (hkb.next hbm).c1
  have c2 := (hkb.next hbm).c2
  have HZ := Lib.hid (show WM.heap.size = W.heap.size + 1 by rw [hWM]; simp)
  have hmm := @run_makeMap Tryz.prog
  cases hc : checkK k
  · have HX := Lib.hid (show startF k = [] by unfold startF; rw [hc]; rfl)
    have he : errK k = 2 := by unfold errK; rw [hc]; rfl
    rw [he] at HCH
    clear hW hb hz hbox hk2 hkb hk hF hWM hbm hs hc he
    go_enter Tryz.func25, Tryz.ntmps25
    go_upto_region 1 with (first | go_in)
    rw [← HW.out]
    clear HW
    go_upto_region 2 with (first | go_in)
    rw [← HWM.out]
    clear HWM
    go_wp2_with (first | ((with_reducible refine (HCH.out _ HBM.out).mono ?_); rintro e w1 ⟨rfl, hb1⟩; have HB1 := Lib.hid hb1; clear hb1) | go_in)
    go_ret
    rw [HX.out]
    exact ⟨none, 0, 0, rfl, facts_nil _ _, HB.out.trans ((HBM.out.trans (HB1.out.mono HBM.out.size)).mono HB.out.size)⟩
  have HX := Lib.hid (show startF k = putsF [] (k.reqs.map needsF).flatten by unfold startF; rw [hc]; rfl)
  have he : errK k = 0 := by unfold errK; rw [hc]; rfl
  have n5 : nr ≤ 4096 := by have := hkb.nv; have := (checkK_parts hc).2.2.1; omega
  rw [he] at HCH
  clear hW hb hz hbox hk2 hkb hk hF hWM hbm hs hc he
  go_enter Tryz.func25, Tryz.ntmps25
  go_upto_region 1 with (first | go_in)
  rw [← HW.out]
  clear HW
  go_upto_region 2 with (first | go_in)
  rw [← HWM.out]
  clear HWM
  go_upto_region 4 with (first | ((with_reducible refine (HCH.out _ HBM.out).mono ?_); rintro e w1 ⟨rfl, hb1⟩; have HB1 := Lib.hid (HBM.out.trans (hb1.mono HBM.out.size)); have HS1 := Lib.hid (HS.out.keep (hb1.block W.heap.size (by have := HZ.out; omega))); clear hb1) | go_in)
  clear c0 c1 c2
  have c2 := (HK.out.next HB1.out).c2
  have HSZ := Lib.hid (show W.heap.size < w1.heap.size from HS1.out.lt)
  go_wp2
  go_loopw [5, 13] (fun _ i wr => ∃ j N : Nat, j ≤ nr ∧ i = .int .i64 j ∧ N ≤ 3 * j ∧ SetAt wr W.heap.size N (putsF [] ((k.reqs.take j).map needsF).flatten) ∧ Below W.heap.size W wr) (fun _ i _ => nr - (intOf i).toNat)
  case atStart => exact ⟨0, 0, by omega, rfl, by omega, HS1.out, HB1.out⟩
  case round =>
    obtain ⟨j, N, hj, rfl, hN, hs, hb⟩ := hrel
    have HSR := Lib.hid hs
    have HBR := Lib.hid hb
    by_cases hlt : j < nr
    · have d1 : decide (j < nr) = true := decide_eq_true hlt
      obtain ⟨o, hx⟩ : ∃ v, k.reqs[j]? = some v := ⟨_, List.getElem?_eq_getElem (by have := HNR.out; omega)⟩
      obtain ⟨gg, off, hA, hgg, x0, x1, x2, x3, x4, x5, x6⟩ := (HK.out.next hb).reqs.at_ hx
      subst hA
      have HN := Lib.hid (show ((k.reqs.take (j + 1)).map needsF).flatten = ((k.reqs.take j).map needsF).flatten ++ needsF o by rw [List.take_add_one, hx]; simp)
      have HOX := Lib.hid (needsF_ok (HOK.out o (List.mem_of_getElem? hx)))
      have i0 : (0 : Int) ≤ (j : Int) := by omega
      have i1 : (j : Int) < (nr : Int) := by omega
      have hsl := hs.lt
      clear hs hb hgg hx
      go_upto_region 7 with (first | go_in)
      obtain ⟨WO, hWO⟩ : ∃ W, W = wr.alloc (.cells #[.int .i64 o.kind, .int .i64 o.d, .int .i64 o.e, .int .i64 o.a, .int .i64 o.b, .int .i64 o.c, .int .u64 o.imm] 43) := ⟨_, rfl⟩
      rw [← hWO]
      have hbo : Below wr.heap.size wr WO := by rw [hWO]; exact (Below.refl _ _).alloc (Nat.le_refl _) _
      have hob : OpBox WO wr.heap.size o := OpBox.of (t := 43) (fr := (0, 0)) (by rw [hWO]; exact heap_alloc_new wr _)
      have HBO := Lib.hid hbo
      have y0 := hob.kind
      have y1 := hob.d
      have y2 := hob.e
      have y3 := hob.a
      have y4 := hob.b
      have y5 := hob.c
      have y6 := hob.imm
      have HND := Lib.hid (show Calls Tryz.prog 39 #[.agg #[.int .i64 o.kind, .int .i64 o.d, .int .i64 o.e, .int .i64 o.a, .int .i64 o.b, .int .i64 o.c, .int .u64 o.imm]] WO (SortedSays WO.heap.size (needsF o) WO) from Needs_any o WO)
      have HPT := Lib.hid (fun (w2 : World) (A : Option Addr) (c : Nat) (h1 : Below WO.heap.size WO w2) (h2 : w2.ownsRow WO.heap.size 45 3 (.slice A (needsF o).length c) (needsF o).length (cellsOfF (needsF o))) => put_any (b := W.heap.size) (N := N) (l := putsF [] ((k.reqs.take j).map needsF).flatten) w2 (fun q => (Value.slice A (needsF o).length c).ownBlock = some q)
        (HSR.out.keep ((HBO.out.trans (h1.mono HBO.out.size)).block _ hsl)) (facts_own h2) (fun q hq => by have := own_lt h2 q hq; have := HBO.out.size; exact ⟨this |> fun _ => (own_lt h2 q hq).1, by have := (own_lt h2 q hq).2; omega⟩) HOX.out (by have := needsF_len o; omega))
      clear hWO hbo hob x0 x1 x2 x3 x4 x5 x6
      go_wp2_with (first
        | ((with_reducible refine HND.out.mono ?_); rintro e w2 ⟨v2, rfl, ho2, hb2⟩; obtain ⟨A2, e2, rfl⟩ := own_form ho2; have HO2 := Lib.hid ho2; have HB2 := Lib.hid hb2; clear ho2 hb2)
        | ((with_reducible refine (HPT.out w2 A2 e2 HB2.out HO2.out).mono ?_); rintro e w3 ⟨rfl, hs3, hc3⟩; have HS3 := Lib.hid hs3; have HC3 := Lib.hid hc3; clear hs3 hc3)
        | go_in)
      go_roundw
      case rel =>
        refine ⟨j + 1, N + (needsF o).length, hlt, by go_num, by have := needsF_len o; omega, by rw [HN.out, puts_app]; exact HS3.out, ?_⟩
        have h1 := HBO.out.trans (HB2.out.mono HBO.out.size)
        have h2 := HBR.out.trans (h1.mono HBR.out.size)
        exact h2.trans (HC3.out.below (fun q hq e => by omega) h2.size)
      case measure => simp [intOf]; omega
    · have d1 : decide (j < nr) = false := decide_eq_false hlt
      have HN := Lib.hid (show putsF [] ((k.reqs.take j).map needsF).flatten = startF k by rw [List.take_of_length_le (by have := HNR.out; omega), HX.out])
      have HST := Lib.hid (sorted_any wr hs (ord_putsF List.Pairwise.nil) (by omega))
      clear hs hb
      go_wp2_with (first | ((with_reducible refine HST.out.mono ?_); rintro e w2 ⟨v2, rfl, ho2, hb2⟩; have HO2 := Lib.hid ho2; have HB2 := Lib.hid hb2; clear ho2 hb2) | go_in)
      go_ret
      rw [← HN.out]
      obtain ⟨A2, e2, rfl⟩ := own_form HO2.out
      exact ⟨A2, _, e2, rfl, Rows.mono (facts_own HO2.out) (fun q hq => .inr ⟨by have := (own_lt HO2.out q hq).2; have := HB.out.size; have := HBR.out.size; omega, (own_lt HO2.out q hq).1⟩), HB.out.trans ((HBR.out.trans (HB2.out.mono HBR.out.size)).mono HB.out.size)⟩
end Go.Proofs.YtjbabpnepjhllaaGreat

/- duties.Ahead. -/
namespace Go.Proofs.YtjbabpnepjhllaaGreat
open Go.RowKit

theorem exec_mk {P : Program} {o : Oper} {a : Act} {w w' : World} {t : TypeId} {x y : Operand} {v vx vy : Value} (ho : o.op = .makeSlice t x y) (hx : a.eval x = vx) (hy : a.eval y = vy) (h : (Instr.makeSlice t vx vy).run P w = .ok v w') : (execOp a.eval o).run P w = .ok (.value v) w' := by
  unfold execOp
  simp only [ho, hx, hy, Sem.run_bind, Sem.run_pure, h, Result.andThen_ok]
theorem exec_box {P : Program} {o : Oper} {a : Act} {w w' : World} {t : TypeId} {x : Operand} {v vx : Value} (ho : o.op = .box t x) (hx : a.eval x = vx) (h : (Instr.box t vx).run P w = .ok v w') : (execOp a.eval o).run P w = .ok (.value v) w' := by
  unfold execOp
  simp only [ho, hx, Sem.run_bind, Sem.run_pure, h, Result.andThen_ok]
theorem infoLk : (Tryz.prog.info? 81).map (fun i => (i.zero, i.size, i.bytes)) = some (some (.agg #[.slice none 0 0, .slice none 0 0, .slice none 0 0, .slice none 0 0, .slice none 0 0]), 5, 120) := by kernel_rfl
theorem box_looker (Av Ao Ar Ae Ag : Option Addr) (nv cv no co nr cr ne ce ng cg : Nat) (w : World) : (Instr.box 81 (.agg #[.slice Av nv cv, .slice Ao no co, .slice Ar nr cr, .slice Ae ne ce, .slice Ag ng cg])).run Tryz.prog w = .ok (.pointer (some ⟨w.heap.size, 0, none⟩)) (w.alloc (.cells #[.slice Av nv cv, .slice Ao no co, .slice Ar nr cr, .slice Ae ne ce, .slice Ag ng cg] 81)) := by
  obtain ⟨i0, hi, hz0, hz1, hz2⟩ := info_parts infoLk
  go_simp
set_option maxRecDepth 100000 in
set_option maxHeartbeats 8000000 in
/-- Ahead. -/
theorem Ahead_any (Av Ao Ar : Option Addr) (nv cv no co nr cr : Nat) (k : Krn) (A : List (List Fct)) (w : World) (F : Nat → Prop) (hk : KernAt w F [.slice Av nv cv, .slice Ao no co, .slice Ar nr cr] k) (hF : ∀ k, F k → k < w.heap.size) (hv : k.vars.length ≤ 190) (hA : AheadIs k A) :
    Calls Tryz.prog 18 #[.agg #[.slice Av nv cv, .slice Ao no co, .slice Ar nr cr]] w (AheadSay A w) := by
  obtain ⟨W, hW⟩ : ∃ W, W = w.alloc (.cells #[.slice Av nv cv, .slice Ao no co, .slice Ar nr cr] 25) := ⟨_, rfl⟩
  have hb : Below w.heap.size w W := by rw [hW]; exact (Below.refl _ _).alloc (Nat.le_refl _) _
  have hz : W.heap.size = w.heap.size + 1 := by rw [hW]; simp
  have hbox : W.heap[w.heap.size]? = some (.cells #[.slice Av nv cv, .slice Ao no co, .slice Ar nr cr] 25 (0, 0)) := by rw [hW]; exact heap_alloc_new w _
  have hk2 : KernAt W (fun k => k < W.heap.size) [.slice Av nv cv, .slice Ao no co, .slice Ar nr cr] k := (hk.keep (SameOn.of_below hb hF)).mono fun j hj => by have := hF j hj; omega
  have hkb := kbox_of hbox hk2
  have HCH := Lib.hid (fun (w1 : World) (h1 : Below W.heap.size W w1) => lcheck_any Av Ao Ar nv cv no co nr cr k w1 _ (kern_next hk2 h1) (fun k hk => hk) (by omega))
  have HW := Lib.hid hW
  have HB := Lib.hid hb
  have HK := Lib.hid hkb
  have HKN := Lib.hid hk2
  have hon := hkb.nv.2.1
  have HV := Lib.hid hv
  have c0 := hkb.c0
  have c1 := hkb.c1
  have c2 := hkb.c2
  unfold AheadIs at hA
  cases hc : checkK k
  · rw [hc, if_neg (by simp)] at hA
    subst hA
    have he : errK k = 2 := by unfold errK; rw [hc]; rfl
    rw [he] at HCH
    clear hW hb hz hbox hk2 hkb hk hF hc he hon
    go_enter Tryz.func18, Tryz.ntmps18
    go_upto_region 1 with (first | go_in)
    rw [← HW.out]
    clear HW
    go_wp2_with (first | ((with_reducible refine (HCH.out _ (Below.refl _ _)).mono ?_); rintro e w1 ⟨rfl, hb1⟩; have HB1 := Lib.hid hb1; clear hb1) | go_in)
    go_ret
    exact ⟨none, 0, 0, rfl, ⟨rfl, fun i l hl => by simp at hl⟩, HB.out.trans (HB1.out.mono HB.out.size)⟩
  rw [hc, if_pos rfl] at hA
  obtain ⟨l', hr⟩ := hA
  have HR := Lib.hid (show RunD k.vars k.ops false 0 no (startF k) (List.replicate k.ops.length []) l' A by rw [hon]; exact hr)
  have HWS := Lib.hid (start_well hc)
  have HKF := Lib.hid (kfine_of hc hk.ops hv)
  have HLV := Lib.hid (show LiveK k.ops 0 no by rw [hon]; exact live_all k)
  have HNO := Lib.hid hon
  have hno : no ≤ 100000 := by have := (checkK_parts hc).2.1; omega
  have HEND := Lib.hid (fun (w1 : World) (h1 : Below W.heap.size W w1) => lends_new Av Ao Ar nv cv no co nr cr k w1 _ (kern_next hk2 h1) (fun k hk => hk) (by omega) hc)
  have he : errK k = 0 := by unfold errK; rw [hc]; rfl
  rw [he] at HCH
  have HWZ := Lib.hid hz
  clear hW hb hz hbox hk2 hkb hk hF hc he hon hr hv
  go_enter Tryz.func18, Tryz.ntmps18
  go_upto_region 1 with (first | go_in)
  rw [← HW.out]
  clear HW
  go_upto_region 3 with (first | ((with_reducible refine (HCH.out _ (Below.refl _ _)).mono ?_); rintro e w1 ⟨rfl, hb1⟩; have HB1 := Lib.hid hb1; clear hb1) | go_in)
  clear c0 c1 c2
  have hS := HB1.out.drew
  refine wp_region_branch (Below W.heap.size W) (by kernel_rfl) (by kernel_rfl) hS ?_
  show runB _ _ _ _ 10 [0, 1, 2, 3, 4, 5, 6, 7, 8, 9] _ _
  refine runB_at 0 (v := ?_) (by rfl) (by rfl) (by rfl) (by kernel_rfl) (by rfl) ?_ ?_
  rotate_left
  focus (intro w_ hw_; have f0_ := (HK.out.next hw_).c0; have f1_ := (HK.out.next hw_).c1; have f2_ := (HK.out.next hw_).c2; go_simp; (try with_reducible rfl); done)
  (try dsimp only [Act.put])
  show runB _ _ _ _ 9 [1, 2, 3, 4, 5, 6, 7, 8, 9] _ _
  try simp only [List.setIfInBounds_toArray, List.set_cons_zero, List.set_cons_succ]
  refine runB_at 1 (v := ?_) (by rfl) (by rfl) (by rfl) (by kernel_rfl) (by rfl) ?_ ?_
  rotate_left
  focus (intro w_ hw_; have f0_ := (HK.out.next hw_).c0; have f1_ := (HK.out.next hw_).c1; have f2_ := (HK.out.next hw_).c2; go_simp; (try with_reducible rfl); done)
  (try dsimp only [Act.put])
  show runB _ _ _ _ 8 [2, 3, 4, 5, 6, 7, 8, 9] _ _
  try simp only [List.setIfInBounds_toArray, List.set_cons_zero, List.set_cons_succ]
  refine runB_at 3 (v := ?_) (by rfl) (by rfl) (by rfl) (by kernel_rfl) (by rfl) ?_ ?_
  rotate_left
  focus (intro w_ hw_; have f0_ := (HK.out.next hw_).c0; have f1_ := (HK.out.next hw_).c1; have f2_ := (HK.out.next hw_).c2; go_simp; (try with_reducible rfl); done)
  (try dsimp only [Act.put])
  show runB _ _ _ _ 7 [2, 4, 5, 6, 7, 8, 9] _ _
  try simp only [List.setIfInBounds_toArray, List.set_cons_zero, List.set_cons_succ]
  refine runB_at 4 (v := ?_) (by rfl) (by rfl) (by rfl) (by kernel_rfl) (by rfl) ?_ ?_
  rotate_left
  focus (intro w_ hw_; have f0_ := (HK.out.next hw_).c0; have f1_ := (HK.out.next hw_).c1; have f2_ := (HK.out.next hw_).c2; go_simp; (try with_reducible rfl); done)
  (try dsimp only [Act.put])
  show runB _ _ _ _ 6 [2, 5, 6, 7, 8, 9] _ _
  try simp only [List.setIfInBounds_toArray, List.set_cons_zero, List.set_cons_succ]
  refine runB_at 5 (v := ?_) (by rfl) (by rfl) (by rfl) (by kernel_rfl) (by rfl) ?_ ?_
  rotate_left
  focus (intro w_ hw_; have f0_ := (HK.out.next hw_).c0; have f1_ := (HK.out.next hw_).c1; have f2_ := (HK.out.next hw_).c2; go_simp; (try with_reducible rfl); done)
  (try dsimp only [Act.put])
  show runB _ _ _ _ 5 [2, 6, 7, 8, 9] _ _
  try simp only [List.setIfInBounds_toArray, List.set_cons_zero, List.set_cons_succ]
  refine runB_two 2 6 (by kernel_rfl) (by kernel_rfl) (by rfl) (by rfl) (by rfl) (by rfl) ?_ ?_
  · refine tdoes_call (f := ?_) (args := ?_) (w1 := ?_) ?_ ?_
    rotate_left 3
    focus (go_simp; refine ⟨⟨?_, ?_⟩, ?_⟩ <;> with_reducible rfl)
    refine (HEND.out _ hS).mono ?_
    rintro e_ w2 ⟨Ae, ne, ce, rfl, hn2, hb2⟩
    refine ⟨_, rfl, hS.trans (hb2.mono hS.size), ?_⟩
    (try dsimp only [Act.put])
    try simp only [List.setIfInBounds_toArray, List.set_cons_zero, List.set_cons_succ]
    have HE := Lib.hid hn2
    have HBE := Lib.hid hb2
    clear hn2 hb2
    show runB _ _ _ _ 4 [6, 7, 8, 9] _ _
    have hS2 := hS.trans (HBE.out.mono hS.size)
    refine runB_one 6 (by kernel_rfl) (by kernel_rfl) (by rfl) (by rfl) ?_
    refine tdoes_op (w1 := w2.alloc (.cells (List.replicate no (Value.slice none 0 0)).toArray 39)) (v := .slice (some ⟨w2.heap.size, 0, none⟩) no no) (exec_mk (vx := .int .i64 (no : Nat)) (vy := .int .i64 (no : Nat)) rfl (by rfl) (by rfl) (make_rows no hno _)) ⟨hS2.alloc hS2.size _, ?_⟩
    (try dsimp only [Act.put])
    try simp only [List.setIfInBounds_toArray, List.set_cons_zero, List.set_cons_succ]
    show runB _ _ _ _ 3 [7, 8, 9] _ _
    obtain ⟨w3, hw3⟩ : ∃ W, W = w2.alloc (.cells (List.replicate no (Value.slice none 0 0)).toArray 39) := ⟨_, rfl⟩
    obtain ⟨ga, hgae⟩ : ∃ g, g = w2.heap.size := ⟨_, rfl⟩
    have hg3 : w3.heap[ga]? = some (.cells (List.replicate no (Value.slice none 0 0)).toArray 39 (0, 0)) := by rw [hw3, hgae]; exact heap_alloc_new w2 _
    have hs3 : w3.heap.size = w2.heap.size + 1 := by rw [hw3]; simp
    have hb3 : Below w2.heap.size w2 w3 := by rw [hw3]; exact (Below.refl _ _).alloc (Nat.le_refl _) _
    rw [← hw3, ← hgae]
    have HE3 := Lib.hid (show NumsAt w3 (fun q => q < w3.heap.size ∧ q ≠ ga) (.slice Ae ne ce) (kEnds k.ops) from Rows.mono (Rows.keep HE.out (SameOn.of_below hb3 fun q hq => hq.2)) fun q hq => by have := hq.2; omega)
    have hgw : W.heap.size ≤ ga := by have := hS2.size; omega
    have hS3 : Below W.heap.size W w3 := hS2.trans (hb3.mono hS2.size)
    have hg3s : ga < w3.heap.size := by omega
    clear hw3 hgae hs3 hb3 hS2 hS HE HBE
    refine runB_at 7 (v := ?_) (by rfl) (by rfl) (by rfl) (by kernel_rfl) (by rfl) ?_ ?_
    rotate_left
    focus (intro w_ hw_; have f0_ := (HK.out.next hw_).c0; have f1_ := (HK.out.next hw_).c1; have f2_ := (HK.out.next hw_).c2; go_simp; (try with_reducible rfl); done)
    (try dsimp only [Act.put])
    show runB _ _ _ _ 2 [8, 9] _ _
    try simp only [List.setIfInBounds_toArray, List.set_cons_zero, List.set_cons_succ]
    refine runB_one 8 (by kernel_rfl) (by kernel_rfl) (by rfl) (by rfl) ?_
    refine tdoes_op (w1 := w3.alloc (.cells #[.slice Av nv cv, .slice Ao no co, .slice Ar nr cr, .slice Ae ne ce, .slice (some ⟨ga, 0, none⟩) no no] 81)) (v := .pointer (some ⟨w3.heap.size, 0, none⟩)) (exec_box (vx := .agg #[.slice Av nv cv, .slice Ao no co, .slice Ar nr cr, .slice Ae ne ce, .slice (some ⟨ga, 0, none⟩) no no]) rfl (by rfl) (box_looker ..)) ⟨hS3.alloc hS3.size _, ?_⟩
    (try dsimp only [Act.put])
    try simp only [List.setIfInBounds_toArray, List.set_cons_zero, List.set_cons_succ]
    show runB _ _ _ _ 1 [9] _ _
    obtain ⟨wl, hwl⟩ : ∃ W, W = w3.alloc (.cells #[.slice Av nv cv, .slice Ao no co, .slice Ar nr cr, .slice Ae ne ce, .slice (some ⟨ga, 0, none⟩) no no] 81) := ⟨_, rfl⟩
    obtain ⟨bx, hbxe⟩ : ∃ g, g = w3.heap.size := ⟨_, rfl⟩
    have hbox : wl.heap[bx]? = some (.cells #[.slice Av nv cv, .slice Ao no co, .slice Ar nr cr, .slice Ae ne ce, .slice (some ⟨ga, 0, none⟩) no no] 81 (0, 0)) := by rw [hwl, hbxe]; exact heap_alloc_new w3 _
    have hbl3 : Below w3.heap.size w3 wl := by rw [hwl]; exact (Below.refl _ _).alloc (Nat.le_refl _) _
    have hbl : Below W.heap.size W wl := hS3.trans (hbl3.mono hS3.size)
    rw [← hwl, ← hbxe]
    have hKB := HK.out.next hbl
    have hmono : ∀ q, q < W.heap.size → q < wl.heap.size ∧ q ≠ ga := fun q hq => by have := hbl.size; omega
    have HLA := Lib.hid (look_new (k := k) hbox ((hbl3.block ga hg3s).trans hg3) (by omega) HNO.out (Rows.mono (Rows.keep HK.out.vars (SameOn.of_below hbl fun q hq => hq)) hmono) (Rows.mono (Rows.keep HK.out.ops (SameOn.of_below hbl fun q hq => hq)) hmono) (Rows.mono (Rows.keep HE3.out (SameOn.of_below hbl3 fun q hq => hq.1)) fun q hq => ⟨Nat.lt_of_lt_of_le hq.1 hbl3.size, hq.2⟩))
    have HBL := Lib.hid hbl
    have HGA := Lib.hid hgw
    have HCB := Lib.hid (show ∀ w_, Chg (fun q => q = ga) wl w_ → w_.cell? ⟨w.heap.size, 0, none⟩ = some (.slice Av nv cv) ∧ w_.cell? ⟨w.heap.size, 1, none⟩ = some (.slice Ao no co) ∧ w_.cell? ⟨w.heap.size, 2, none⟩ = some (.slice Ar nr cr) from fun w_ h_ => by
      have h1 : Below W.heap.size wl w_ := h_.below (fun q hq e => by omega) hbl.size
      have h2 := HK.out.next (hbl.trans h1)
      exact ⟨h2.c0, h2.c1, h2.c2⟩)
    clear hwl hbxe hbox hbl3 hbl hKB hmono hg3 hgw hS3 hg3s HE3
    refine runB_at 9 (v := ?_) (by rfl) (by rfl) (by rfl) (by kernel_rfl) (by rfl) ?_ ?_
    rotate_left
    focus (intro w_ hw_; have f0_ := (HK.out.next hw_).c0; have f1_ := (HK.out.next hw_).c1; have f2_ := (HK.out.next hw_).c2; go_simp; (try with_reducible rfl); done)
    (try dsimp only [Act.put])
    show runB _ _ _ _ 0 [] _ _
    try simp only [List.setIfInBounds_toArray, List.set_cons_zero, List.set_cons_succ]
    refine runB_nil ?_
    go_upto_region 4 with fail
    have HST := Lib.hid (fun (w5 : World) (h5 : Below wl.heap.size wl w5) => Start_new Av Ao Ar nv cv no co nr cr k w5 _ (kern_next HKN.out (HBL.out.trans (h5.mono HBL.out.size))) (fun k hk => hk) (by have := HV.out; omega))
    have HTH := Lib.hid (fun (w5 : World) (Al : Option Addr) (nl cl : Nat) (h5 : Below wl.heap.size wl w5) (hf : FactsAt w5 (NG w5 ga) (.slice Al nl cl) (startF k)) => (show Calls Tryz.prog 48 #[.pointer (some ⟨bx, 0, none⟩), .int .i64 0, .int .i64 (no : Nat), .slice Al nl cl] w5 (LookSays bx ga Av nv cv Ao no co (.slice Ar nr cr) Ae ne ce k l' A w5) from (look_all bx ga Av nv cv Ao no co (.slice Ar nr cr) Ae ne ce k HKF.out no).1 w5 (List.replicate k.ops.length []) A (startF k) l' Al nl cl 0 no (by omega) (HLA.out.next h5) hf HWS.out HLV.out HR.out))
    have hS : Chg (fun q => q = ga) wl wl.drew := (Chg.refl _ wl).drew
    have hS0 : Below wl.heap.size wl wl.drew := (Below.refl _ wl).drew
    (refine wp_region_lines (Chg (fun q => q = ga) wl) (by kernel_rfl) (by kernel_rfl) ((Chg.refl (fun q => q = ga) wl).drew) ?_)
    (try simp only [])
    repeat (first | (refine runL_no (by rfl) ?_; (try simp only [Act.put, List.setIfInBounds_toArray, List.set_cons_zero, List.set_cons_succ])) | (refine runL_val (v := ?_) (by rfl) ?_ ?_; rotate_left; (focus (intro w_ hw_; have f0_ := (HCB.out w_ hw_).1; have f1_ := (HCB.out w_ hw_).2.1; have f2_ := (HCB.out w_ hw_).2.2; go_simp; (try with_reducible rfl); done)); (try simp only [Act.put, List.setIfInBounds_toArray, List.set_cons_zero, List.set_cons_succ])) | (refine runL_call (f := ?_) (args := ?_) (w1 := ?_) (by rfl) (by rfl) ?_ ?_; rotate_left 3; (focus (go_simp; refine ⟨⟨?_, ?_⟩, ?_⟩ <;> with_reducible rfl)); (with_reducible refine (HST.out _ hS0).mono ?_); rintro e_ w5 ⟨A5, n5, c5, rfl, hf5, hb5⟩; have HB5 := Lib.hid (hS0.trans (hb5.mono hS0.size)); have HF5 := Lib.hid (show FactsAt w5 (NG w5 ga) (.slice A5 n5 c5) (startF k) from Rows.mono hf5 (fun q hq => by rcases hq with hq | hq; exact hq.elim; have h1 := HLA.out.lt.2; have h2 : wl.drew.heap.size = wl.heap.size := rfl; exact ⟨hq.2, by omega⟩)); replace hS := hS.trans (Chg.of_below hb5); clear hf5 hb5; refine ⟨_, rfl, .inr hS, ?_⟩; (try simp only [Act.put, List.setIfInBounds_toArray, List.set_cons_zero, List.set_cons_succ])) | (refine runL_call (f := ?_) (args := ?_) (w1 := ?_) (by rfl) (by rfl) ?_ ?_; rotate_left 3; (focus (go_simp; refine ⟨⟨?_, ?_⟩, ?_⟩ <;> with_reducible rfl)); (with_reducible refine (HTH.out w5 A5 n5 c5 HB5.out HF5.out).mono ?_); rintro e_ w6 ⟨A6, n6, c6, rfl, _, hla6, hch6⟩; have HL6 := Lib.hid hla6; replace hS := hS.trans hch6; clear hla6 hch6; refine ⟨_, rfl, .inr hS, ?_⟩; (try simp only [Act.put, List.setIfInBounds_toArray, List.set_cons_zero, List.set_cons_succ])))
    (refine runL_nil ?_)
    have HS := Lib.hid hS
    clear hS hS0
    obtain ⟨c0, c1, c2, c3, c4⟩ := HL6.out.cell
    go_wp2
    go_ret
    exact ⟨_, _, _, rfl, HL6.out.rows, HB.out.trans ((HBL.out.trans (HS.out.below (fun q hq e => by have := HGA.out; omega) HBL.out.size)).mono HB.out.size)⟩
  · have hS2 := hS.alloc hS.size (.cells (List.replicate no (Value.slice none 0 0)).toArray 39)
    refine tdoes_op (w1 := w1.drew.alloc (.cells (List.replicate no (Value.slice none 0 0)).toArray 39)) (v := .slice (some ⟨w1.drew.heap.size, 0, none⟩) no no) (exec_mk (vx := .int .i64 (no : Nat)) (vy := .int .i64 (no : Nat)) rfl (by rfl) (by rfl) (make_rows no hno _)) ⟨hS.alloc hS.size _, ?_⟩
    (try dsimp only [Act.put])
    try simp only [List.setIfInBounds_toArray, List.set_cons_zero, List.set_cons_succ]
    show runB _ _ _ _ 4 [2, 7, 8, 9] _ _
    obtain ⟨w2, hw2⟩ : ∃ W, W = w1.drew.alloc (.cells (List.replicate no (Value.slice none 0 0)).toArray 39) := ⟨_, rfl⟩
    obtain ⟨ga, hgae⟩ : ∃ g, g = w1.drew.heap.size := ⟨_, rfl⟩
    have hg2 : w2.heap[ga]? = some (.cells (List.replicate no (Value.slice none 0 0)).toArray 39 (0, 0)) := by rw [hw2, hgae]; exact heap_alloc_new w1.drew _
    have hs2 : w2.heap.size = ga + 1 := by rw [hw2, hgae]; simp
    rw [← hw2] at hS2 ⊢
    rw [← hgae]
    have hgw : W.heap.size ≤ ga := by have := hS.size; omega
    clear hw2 hgae hS
    refine runB_one 2 (by kernel_rfl) (by kernel_rfl) (by rfl) (by rfl) ?_
    refine tdoes_call (f := ?_) (args := ?_) (w1 := ?_) ?_ ?_
    rotate_left 3
    focus (go_simp; refine ⟨⟨?_, ?_⟩, ?_⟩ <;> with_reducible rfl)
    refine (HEND.out _ hS2).mono ?_
    rintro e_ w3 ⟨Ae, ne, ce, rfl, hn2, hb2⟩
    refine ⟨_, rfl, hS2.trans (hb2.mono hS2.size), ?_⟩
    (try dsimp only [Act.put])
    try simp only [List.setIfInBounds_toArray, List.set_cons_zero, List.set_cons_succ]
    have HE := Lib.hid hn2
    have HBE := Lib.hid hb2
    clear hn2 hb2
    show runB _ _ _ _ 3 [7, 8, 9] _ _
    have hS3 : Below W.heap.size W w3 := hS2.trans (HBE.out.mono hS2.size)
    have hg3 : w3.heap[ga]? = some (.cells (List.replicate no (Value.slice none 0 0)).toArray 39 (0, 0)) := (HBE.out.block ga (by omega)).trans hg2
    have hg3s : ga < w3.heap.size := by have := HBE.out.size; omega
    have HE3 := Lib.hid (show NumsAt w3 (fun q => q < w3.heap.size ∧ q ≠ ga) (.slice Ae ne ce) (kEnds k.ops) from Rows.mono HE.out fun q hq => by have := hq.1; have := hq.2; omega)
    clear hS2 hg2 hs2 HE HBE
    refine runB_at 7 (v := ?_) (by rfl) (by rfl) (by rfl) (by kernel_rfl) (by rfl) ?_ ?_
    rotate_left
    focus (intro w_ hw_; have f0_ := (HK.out.next hw_).c0; have f1_ := (HK.out.next hw_).c1; have f2_ := (HK.out.next hw_).c2; go_simp; (try with_reducible rfl); done)
    (try dsimp only [Act.put])
    show runB _ _ _ _ 2 [8, 9] _ _
    try simp only [List.setIfInBounds_toArray, List.set_cons_zero, List.set_cons_succ]
    refine runB_one 8 (by kernel_rfl) (by kernel_rfl) (by rfl) (by rfl) ?_
    refine tdoes_op (w1 := w3.alloc (.cells #[.slice Av nv cv, .slice Ao no co, .slice Ar nr cr, .slice Ae ne ce, .slice (some ⟨ga, 0, none⟩) no no] 81)) (v := .pointer (some ⟨w3.heap.size, 0, none⟩)) (exec_box (vx := .agg #[.slice Av nv cv, .slice Ao no co, .slice Ar nr cr, .slice Ae ne ce, .slice (some ⟨ga, 0, none⟩) no no]) rfl (by rfl) (box_looker ..)) ⟨hS3.alloc hS3.size _, ?_⟩
    (try dsimp only [Act.put])
    try simp only [List.setIfInBounds_toArray, List.set_cons_zero, List.set_cons_succ]
    show runB _ _ _ _ 1 [9] _ _
    obtain ⟨wl, hwl⟩ : ∃ W, W = w3.alloc (.cells #[.slice Av nv cv, .slice Ao no co, .slice Ar nr cr, .slice Ae ne ce, .slice (some ⟨ga, 0, none⟩) no no] 81) := ⟨_, rfl⟩
    obtain ⟨bx, hbxe⟩ : ∃ g, g = w3.heap.size := ⟨_, rfl⟩
    have hbox : wl.heap[bx]? = some (.cells #[.slice Av nv cv, .slice Ao no co, .slice Ar nr cr, .slice Ae ne ce, .slice (some ⟨ga, 0, none⟩) no no] 81 (0, 0)) := by rw [hwl, hbxe]; exact heap_alloc_new w3 _
    have hbl3 : Below w3.heap.size w3 wl := by rw [hwl]; exact (Below.refl _ _).alloc (Nat.le_refl _) _
    have hbl : Below W.heap.size W wl := hS3.trans (hbl3.mono hS3.size)
    rw [← hwl, ← hbxe]
    have hKB := HK.out.next hbl
    have hmono : ∀ q, q < W.heap.size → q < wl.heap.size ∧ q ≠ ga := fun q hq => by have := hbl.size; omega
    have HLA := Lib.hid (look_new (k := k) hbox ((hbl3.block ga hg3s).trans hg3) (by omega) HNO.out (Rows.mono (Rows.keep HK.out.vars (SameOn.of_below hbl fun q hq => hq)) hmono) (Rows.mono (Rows.keep HK.out.ops (SameOn.of_below hbl fun q hq => hq)) hmono) (Rows.mono (Rows.keep HE3.out (SameOn.of_below hbl3 fun q hq => hq.1)) fun q hq => ⟨Nat.lt_of_lt_of_le hq.1 hbl3.size, hq.2⟩))
    have HBL := Lib.hid hbl
    have HGA := Lib.hid hgw
    have HCB := Lib.hid (show ∀ w_, Chg (fun q => q = ga) wl w_ → w_.cell? ⟨w.heap.size, 0, none⟩ = some (.slice Av nv cv) ∧ w_.cell? ⟨w.heap.size, 1, none⟩ = some (.slice Ao no co) ∧ w_.cell? ⟨w.heap.size, 2, none⟩ = some (.slice Ar nr cr) from fun w_ h_ => by
      have h1 : Below W.heap.size wl w_ := h_.below (fun q hq e => by omega) hbl.size
      have h2 := HK.out.next (hbl.trans h1)
      exact ⟨h2.c0, h2.c1, h2.c2⟩)
    clear hwl hbxe hbox hbl3 hbl hKB hmono hg3 hgw hS3 hg3s HE3
    refine runB_at 9 (v := ?_) (by rfl) (by rfl) (by rfl) (by kernel_rfl) (by rfl) ?_ ?_
    rotate_left
    focus (intro w_ hw_; have f0_ := (HK.out.next hw_).c0; have f1_ := (HK.out.next hw_).c1; have f2_ := (HK.out.next hw_).c2; go_simp; (try with_reducible rfl); done)
    (try dsimp only [Act.put])
    show runB _ _ _ _ 0 [] _ _
    try simp only [List.setIfInBounds_toArray, List.set_cons_zero, List.set_cons_succ]
    refine runB_nil ?_
    go_upto_region 4 with fail
    have HST := Lib.hid (fun (w5 : World) (h5 : Below wl.heap.size wl w5) => Start_new Av Ao Ar nv cv no co nr cr k w5 _ (kern_next HKN.out (HBL.out.trans (h5.mono HBL.out.size))) (fun k hk => hk) (by have := HV.out; omega))
    have HTH := Lib.hid (fun (w5 : World) (Al : Option Addr) (nl cl : Nat) (h5 : Below wl.heap.size wl w5) (hf : FactsAt w5 (NG w5 ga) (.slice Al nl cl) (startF k)) => (show Calls Tryz.prog 48 #[.pointer (some ⟨bx, 0, none⟩), .int .i64 0, .int .i64 (no : Nat), .slice Al nl cl] w5 (LookSays bx ga Av nv cv Ao no co (.slice Ar nr cr) Ae ne ce k l' A w5) from (look_all bx ga Av nv cv Ao no co (.slice Ar nr cr) Ae ne ce k HKF.out no).1 w5 (List.replicate k.ops.length []) A (startF k) l' Al nl cl 0 no (by omega) (HLA.out.next h5) hf HWS.out HLV.out HR.out))
    have hS : Chg (fun q => q = ga) wl wl.drew := (Chg.refl _ wl).drew
    have hS0 : Below wl.heap.size wl wl.drew := (Below.refl _ wl).drew
    (refine wp_region_lines (Chg (fun q => q = ga) wl) (by kernel_rfl) (by kernel_rfl) ((Chg.refl (fun q => q = ga) wl).drew) ?_)
    (try simp only [])
    repeat (first | (refine runL_no (by rfl) ?_; (try simp only [Act.put, List.setIfInBounds_toArray, List.set_cons_zero, List.set_cons_succ])) | (refine runL_val (v := ?_) (by rfl) ?_ ?_; rotate_left; (focus (intro w_ hw_; have f0_ := (HCB.out w_ hw_).1; have f1_ := (HCB.out w_ hw_).2.1; have f2_ := (HCB.out w_ hw_).2.2; go_simp; (try with_reducible rfl); done)); (try simp only [Act.put, List.setIfInBounds_toArray, List.set_cons_zero, List.set_cons_succ])) | (refine runL_call (f := ?_) (args := ?_) (w1 := ?_) (by rfl) (by rfl) ?_ ?_; rotate_left 3; (focus (go_simp; refine ⟨⟨?_, ?_⟩, ?_⟩ <;> with_reducible rfl)); (with_reducible refine (HST.out _ hS0).mono ?_); rintro e_ w5 ⟨A5, n5, c5, rfl, hf5, hb5⟩; have HB5 := Lib.hid (hS0.trans (hb5.mono hS0.size)); have HF5 := Lib.hid (show FactsAt w5 (NG w5 ga) (.slice A5 n5 c5) (startF k) from Rows.mono hf5 (fun q hq => by rcases hq with hq | hq; exact hq.elim; have h1 := HLA.out.lt.2; have h2 : wl.drew.heap.size = wl.heap.size := rfl; exact ⟨hq.2, by omega⟩)); replace hS := hS.trans (Chg.of_below hb5); clear hf5 hb5; refine ⟨_, rfl, .inr hS, ?_⟩; (try simp only [Act.put, List.setIfInBounds_toArray, List.set_cons_zero, List.set_cons_succ])) | (refine runL_call (f := ?_) (args := ?_) (w1 := ?_) (by rfl) (by rfl) ?_ ?_; rotate_left 3; (focus (go_simp; refine ⟨⟨?_, ?_⟩, ?_⟩ <;> with_reducible rfl)); (with_reducible refine (HTH.out w5 A5 n5 c5 HB5.out HF5.out).mono ?_); rintro e_ w6 ⟨A6, n6, c6, rfl, _, hla6, hch6⟩; have HL6 := Lib.hid hla6; replace hS := hS.trans hch6; clear hla6 hch6; refine ⟨_, rfl, .inr hS, ?_⟩; (try simp only [Act.put, List.setIfInBounds_toArray, List.set_cons_zero, List.set_cons_succ])))
    (refine runL_nil ?_)
    have HS := Lib.hid hS
    clear hS hS0
    obtain ⟨c0, c1, c2, c3, c4⟩ := HL6.out.cell
    go_wp2
    go_ret
    exact ⟨_, _, _, rfl, HL6.out.rows, HB.out.trans ((HBL.out.trans (HS.out.below (fun q hq e => by have := HGA.out; omega) HBL.out.size)).mono HB.out.size)⟩
end Go.Proofs.YtjbabpnepjhllaaGreat

/- duties.Check. -/
namespace Go.Proofs.YtjbabpnepjhllaaGreat
open Go.RowKit

theorem well_nil (n : Nat) : WellL n [] := ⟨⟨List.Pairwise.nil, by simp⟩, by simp⟩
theorem runD_rows {vs : List KVar} {ops : List KOp} (hone : ∀ (i : Nat) (o : KOp), ops[i]? = some o → o.kind ≠ 15 → oneK vs o = true) {m : Bool} {i t : Nat} {l l' : List Fct} {A A' : List (List Fct)} (h : RunD vs ops m i t l A l' A') : WellL vs.length l → (∀ r ∈ A, WellL vs.length r) → ∀ r ∈ A', WellL vs.length r := by
  have hset : ∀ (A : List (List Fct)) (i : Nat) (l : List Fct), WellL vs.length l → (∀ r ∈ A, WellL vs.length r) → ∀ r ∈ A.set i l, WellL vs.length r := fun A i l hl hA r hr => by
    rcases List.mem_or_eq_of_mem_set hr with h | h
    · exact hA r h
    · subst h; exact hl
  induction h with
  | done _ => exact fun _ h => h
  | op hi ho hk hr ih => exact fun h hA => ih (well_after (hone _ _ ho hk) h) (hset _ _ _ h hA)
  | loop hi ho hk he hl hr ihl ihr => exact fun h hA => ihr (runD_well hone hl h) (hset _ _ _ (runD_well hone hl h) (ihl h (hset _ _ _ h hA)))
  | still hr hs ih => exact ih
  | more hr hs hm ih1 ih2 => exact fun h hA => ih2 (well_filter h _) (ih1 h hA)
theorem ahead_well {k : Krn} {A : List (List Fct)} (hc : checkK k = true) (h : AheadIs k A) : (∀ r ∈ A, WellL k.vars.length r) ∧ A.length = k.ops.length := by
  unfold AheadIs at h
  rw [if_pos hc] at h
  obtain ⟨l', h⟩ := h
  refine ⟨runD_rows (fun _ _ ho _ => opsK_one (checkK_parts hc).2.2.2.2 ho) h (start_well hc) (fun r hr => ?_), by rw [runD_len h]; simp⟩
  rw [List.eq_of_mem_replicate hr]
  exact well_nil _
/-- Does an operation need what is not known? -/
def missF (k : Krn) (A : List (List Fct)) (i : Nat) : Bool := (needsF (k.ops.getD i ⟨0, 0, 0, 0, 0, 0, 0⟩)).any fun f => !knowsF (A.getD i []) f
/-- What Check tells. -/
def DChk (k : Krn) (A : List (List Fct)) (at_ e : Int) : Prop := (checkK k = false ∧ at_ = 0 ∧ e = 2) ∨ (checkK k = true ∧ ((e = 0 ∧ at_ = k.ops.length ∧ ∀ i, i < k.ops.length → missF k A i = false) ∨ (∃ i : Nat, i < k.ops.length ∧ e = 9 ∧ at_ = i ∧ missF k A i = true ∧ ∀ j, j < i → missF k A j = false)))
set_option maxRecDepth 100000 in
set_option maxHeartbeats 8000000 in
/-- Check. -/
theorem DCheck_any (Av Ao Ar : Option Addr) (nv cv no co nr cr : Nat) (k : Krn) (A : List (List Fct)) (w : World) (F : Nat → Prop) (hk : KernAt w F [.slice Av nv cv, .slice Ao no co, .slice Ar nr cr] k) (hF : ∀ k, F k → k < w.heap.size) (hv : k.vars.length ≤ 190) (hA : AheadIs k A) :
    Calls Tryz.prog 13 #[.agg #[.slice Av nv cv, .slice Ao no co, .slice Ar nr cr]] w fun e w' => ∃ at_ er, e = .returned (.tuple #[.int .i64 at_, .int .i64 er]) ∧ DChk k A at_ er ∧ Below w.heap.size w w' := by
  obtain ⟨W, hW⟩ : ∃ W, W = w.alloc (.cells #[.slice Av nv cv, .slice Ao no co, .slice Ar nr cr] 25) := ⟨_, rfl⟩
  have hb : Below w.heap.size w W := by rw [hW]; exact (Below.refl _ _).alloc (Nat.le_refl _) _
  have hz : W.heap.size = w.heap.size + 1 := by rw [hW]; simp
  have hbox : W.heap[w.heap.size]? = some (.cells #[.slice Av nv cv, .slice Ao no co, .slice Ar nr cr] 25 (0, 0)) := by rw [hW]; exact heap_alloc_new w _
  have hk2 : KernAt W (fun k => k < W.heap.size) [.slice Av nv cv, .slice Ao no co, .slice Ar nr cr] k := (hk.keep (SameOn.of_below hb hF)).mono fun j hj => by have := hF j hj; omega
  have hkb := kbox_of hbox hk2
  have HCH := Lib.hid (fun (w1 : World) (h1 : Below W.heap.size W w1) => lcheck_any Av Ao Ar nv cv no co nr cr k w1 _ (kern_next hk2 h1) (fun k hk => hk) (by omega))
  have HAH := Lib.hid (fun (w1 : World) (h1 : Below W.heap.size W w1) => Ahead_any Av Ao Ar nv cv no co nr cr k A w1 _ (kern_next hk2 h1) (fun k hk => hk) hv hA)
  have HW := Lib.hid hW
  have HB := Lib.hid hb
  have HK := Lib.hid hkb
  have hon := hkb.nv.2.1
  have c0 := hkb.c0
  have c1 := hkb.c1
  have c2 := hkb.c2
  cases hc : checkK k
  · have he : errK k = 2 := by unfold errK; rw [hc]; rfl
    rw [he] at HCH
    have HC := Lib.hid hc
    clear hW hb hz hbox hk2 hkb hk hF hc he hon
    go_enter Tryz.func13, Tryz.ntmps13
    go_upto_region 1 with (first | go_in)
    rw [← HW.out]
    clear HW
    go_wp2_with (first | ((with_reducible refine (HCH.out _ (Below.refl _ _)).mono ?_); rintro e w1 ⟨rfl, hb1⟩; have HB1 := Lib.hid hb1; clear hb1) | go_in)
    go_ret2
    exact ⟨0, 2, rfl, .inl ⟨HC.out, rfl, rfl⟩, HB.out.trans (HB1.out.mono HB.out.size)⟩
  have he : errK k = 0 := by unfold errK; rw [hc]; rfl
  rw [he] at HCH
  have HC := Lib.hid hc
  have HKF := Lib.hid (kfine_of hc hk.ops hv)
  have HAW := Lib.hid (ahead_well hc hA)
  have HOK := Lib.hid hk.ops
  have HNO := Lib.hid hon
  have n5 : no ≤ 4096 := by have := (checkK_parts hc).2.1; omega
  clear hW hb hz hbox hk2 hkb hk hF hc he hon hv hA
  go_enter Tryz.func13, Tryz.ntmps13
  go_upto_region 1 with (first | go_in)
  rw [← HW.out]
  clear HW
  go_upto_region 4 with (first | ((with_reducible refine (HCH.out _ (Below.refl _ _)).mono ?_); rintro e w1 ⟨rfl, hb1⟩; have HB1 := Lib.hid hb1; clear hb1) | go_in)
  clear c0 c1 c2
  obtain ⟨c0, c1, c2⟩ : w1.cell? ⟨w.heap.size, 0, none⟩ = some (.slice Av nv cv) ∧ w1.cell? ⟨w.heap.size, 1, none⟩ = some (.slice Ao no co) ∧ w1.cell? ⟨w.heap.size, 2, none⟩ = some (.slice Ar nr cr) := ⟨(HK.out.next HB1.out).c0, (HK.out.next HB1.out).c1, (HK.out.next HB1.out).c2⟩
  go_wp2_with (first | ((with_reducible refine (HAH.out _ HB1.out).mono ?_); rintro e w2 ⟨Ag, n, c, rfl, hr2, hb2⟩; have HR2 := Lib.hid hr2; have HB2 := Lib.hid (HB1.out.trans (hb2.mono HB1.out.size)); have HAN := Lib.hid (hr2.len.symm.trans HAW.out.2); clear hr2 hb2) | go_in)
  clear c0 c1 c2
  go_loopw [2, 3, 5, 6, 15] (fun _ _ _ _ s15 wr => ∃ j : Nat, j ≤ n ∧ s15 = .int .i64 (j : Nat) ∧ (∀ i, i < j → missF k A i = false) ∧ Below w2.heap.size w2 wr) (fun _ _ _ _ s15 _ => n - (intOf s15).toNat)
  case atStart => exact ⟨0, Nat.zero_le _, rfl, fun i hi => absurd hi (by omega), Below.refl _ _⟩
  case round =>
    obtain ⟨j, hj, rfl, hms, hb⟩ := hrel
    have HMS := Lib.hid hms
    have HBR := Lib.hid hb
    by_cases hlt : j < n
    · have d1 : decide (j < n) = true := decide_eq_true hlt
      have hjn : j < no := by have := HAN.out; have := HNO.out; omega
      obtain ⟨l, hl⟩ : ∃ v, A[j]? = some v := ⟨_, List.getElem?_eq_getElem (by have := HAN.out; have := HAW.out.2; omega)⟩
      obtain ⟨o, hx⟩ : ∃ v, k.ops[j]? = some v := ⟨_, List.getElem?_eq_getElem (by have := HAN.out; omega)⟩
      obtain ⟨ga, rfl, hga, Al, nl, cl, y0, hfl⟩ := (HR2.out.next hb).row j l hl
      have HFL := Lib.hid hfl
      have HLS := Lib.hid (HKF.out.small (HAW.out.1 l (List.mem_of_getElem? hl)))
      have HM := Lib.hid (show missF k A j = (needsF o).any fun f => !knowsF l f by
        unfold missF
        rw [List.getD_eq_getElem?_getD, List.getD_eq_getElem?_getD, hx, hl]; rfl)
      have hkw := HK.out.next (HB2.out.trans (hb.mono HB2.out.size))
      obtain ⟨gg, off, hA, hgg, x0, x1, x2, x3, x4, x5, x6⟩ := hkw.ops.at_ hx
      have c0 := hkw.c0
      have c1 := hkw.c1
      have c2 := hkw.c2
      have HBX := Lib.hid hkw.lt
      subst hA
      have i0 : (0 : Int) ≤ (j : Int) := by omega
      have i1 : (j : Int) < (n : Int) := by omega
      have i3 : (j : Int) < (no : Int) := by omega
      have i2 : IntKind.i64.wrap (j : Int) = j := by rw [IntKind.wrap_i64]; have := HAN.out; have := HNO.out; omega
      clear hl hx hfl hga hms hb
      go_upto_region 7 with (first | go_in)
      obtain ⟨W3, hW3⟩ : ∃ W, W = wr.alloc (.cells #[.slice Al nl cl] 39) := ⟨_, rfl⟩
      rw [← hW3]
      have hb3 : Below wr.heap.size wr W3 := by rw [hW3]; exact (Below.refl _ _).alloc (Nat.le_refl _) _
      have hz3 : W3.heap.size = wr.heap.size + 1 := by rw [hW3]; simp
      have HC3 := Lib.hid (show W3.cell? ⟨wr.heap.size, 0, none⟩ = some (.slice Al nl cl) by rw [hW3]; exact cell_new wr _ _ rfl)
      have HB3 := Lib.hid hb3
      have HZ3 := Lib.hid hz3
      have HFL3 := Lib.hid (show FactsAt W3 (fun q => q < W3.heap.size) (.slice Al nl cl) l from rows_next HFL.out hb3)
      have z0 := (hb3.cell (p := ⟨w.heap.size, 0, none⟩) HBX.out).trans c0
      have z1 := (hb3.cell (p := ⟨w.heap.size, 1, none⟩) HBX.out).trans c1
      have z2 := (hb3.cell (p := ⟨w.heap.size, 2, none⟩) HBX.out).trans c2
      have v0 := (hb3.cell (p := ⟨gg, off + j * 7, none⟩) hgg).trans x0
      have v1 := (hb3.cell (p := ⟨gg, off + j * 7 + 1, none⟩) hgg).trans x1
      have v2 := (hb3.cell (p := ⟨gg, off + j * 7 + 2, none⟩) hgg).trans x2
      have v3 := (hb3.cell (p := ⟨gg, off + j * 7 + 3, none⟩) hgg).trans x3
      have v4 := (hb3.cell (p := ⟨gg, off + j * 7 + 4, none⟩) hgg).trans x4
      have v5 := (hb3.cell (p := ⟨gg, off + j * 7 + 5, none⟩) hgg).trans x5
      have v6 := (hb3.cell (p := ⟨gg, off + j * 7 + 6, none⟩) hgg).trans x6
      have HND := Lib.hid (show Calls Tryz.prog 39 #[.agg #[.int .i64 o.kind, .int .i64 o.d, .int .i64 o.e, .int .i64 o.a, .int .i64 o.b, .int .i64 o.c, .int .u64 o.imm]] W3 (SortedSays W3.heap.size (needsF o) W3) from Needs_any o W3)
      obtain ⟨B, hB⟩ : ∃ b, b = wr.heap.size := ⟨_, rfl⟩
      rw [← hB] at HC3 HZ3 ⊢
      have HCF := Lib.hid (fun (w4 : World) (A4 : Option Addr) (c4 : Nat) (h4 : Below W3.heap.size W3 w4) (h5 : w4.ownsRow W3.heap.size 45 3 (.slice A4 (needsF o).length c4) (needsF o).length (cellsOfF (needsF o))) => ContainsFunc_Fct (.slice A4 (needsF o).length c4) 40 #[.pointer (some ⟨B, 0, none⟩)] w4 (fun q => q < w4.heap.size) (needsF o) (fun f => !knowsF l f) (by have := needsF_len o; omega) (enters_of Tryz.func40 (by kernel_rfl) rfl) (Rows.mono (facts_own h5) fun q hq => (own_lt h5 q hq).1) (fun k hk => hk)
        (fun x _ wq hbr => dchk1_any Al nl cl B x l wq (fun q => q < W3.heap.size) ((hbr.cell (p := ⟨B, 0, none⟩) (show B < w4.heap.size by have := h4.size; have := HZ3.out; omega)).trans ((h4.cell (p := ⟨B, 0, none⟩) (show B < W3.heap.size by have := HZ3.out; omega)).trans HC3.out)) (by have := h4.size; have := hbr.size; have := HZ3.out; omega)
          (Rows.keep HFL3.out (SameOn.of_below (h4.trans (hbr.mono h4.size)) fun q hq => hq)) (fun q hq => by have := h4.size; have := hbr.size; omega) (by have := HLS.out.1; omega)))
      rw [← HM.out] at HCF
      clear hW3 hb3 hz3 hB y0 c0 c1 c2 x0 x1 x2 x3 x4 x5 x6 hgg hkw
      cases hm : missF k A j
      · rw [hm] at HCF
        have HMM := Lib.hid hm
        clear hm
        go_wp2_with (first
          | ((with_reducible refine HND.out.mono ?_); rintro e w4 ⟨v4, rfl, ho4, hb4⟩; obtain ⟨A4, e4, rfl⟩ := own_form ho4; have HO4 := Lib.hid ho4; have HB4 := Lib.hid hb4; clear ho4 hb4)
          | ((with_reducible refine (HCF.out w4 A4 e4 HB4.out HO4.out).mono ?_); rintro e w5 ⟨rfl, hb5⟩; have HB5 := Lib.hid hb5; clear hb5)
          | go_in)
        go_roundw
        case rel =>
          refine ⟨j + 1, hlt, by go_num, fun i hi => ?_, ?_⟩
          · by_cases e : i = j
            · subst e; exact HMM.out
            · exact HMS.out i (by omega)
          · have h1 := HBR.out.trans (HB3.out.mono HBR.out.size)
            have h2 := h1.trans (HB4.out.mono h1.size)
            exact h2.trans (HB5.out.mono h2.size)
        case measure => simp [intOf]; omega
      · rw [hm] at HCF
        have HMM := Lib.hid hm
        clear hm
        go_wp2_with (first
          | ((with_reducible refine HND.out.mono ?_); rintro e w4 ⟨v4, rfl, ho4, hb4⟩; obtain ⟨A4, e4, rfl⟩ := own_form ho4; have HO4 := Lib.hid ho4; have HB4 := Lib.hid hb4; clear ho4 hb4)
          | ((with_reducible refine (HCF.out w4 A4 e4 HB4.out HO4.out).mono ?_); rintro e w5 ⟨rfl, hb5⟩; have HB5 := Lib.hid hb5; clear hb5)
          | go_in)
        go_ret2
        refine ⟨_, _, rfl, .inr ⟨HC.out, .inr ⟨j, by have := HAN.out; omega, rfl, rfl, HMM.out, HMS.out⟩⟩, ?_⟩
        have h0 := HBR.out
        have h1 := h0.trans (HB3.out.mono h0.size)
        have h2 := h1.trans (HB4.out.mono h1.size)
        have h3 := h2.trans (HB5.out.mono h2.size)
        exact HB.out.trans ((HB2.out.trans (h3.mono HB2.out.size)).mono HB.out.size)
    · have d1 : decide (j < n) = false := decide_eq_false hlt
      have e : j = n := by omega
      subst e
      have hkw := HK.out.next (HB2.out.trans (hb.mono HB2.out.size))
      have c0 := hkw.c0
      have c1 := hkw.c1
      have c2 := hkw.c2
      clear hkw hb hms
      go_wp2
      go_ret2
      exact ⟨_, _, rfl, .inr ⟨HC.out, .inl ⟨rfl, by have := HNO.out; omega, fun i hi => HMS.out i (by have := HAN.out; omega)⟩⟩, HB.out.trans ((HB2.out.trans (HBR.out.mono HB2.out.size)).mono HB.out.size)⟩
end Go.Proofs.YtjbabpnepjhllaaGreat

/- law21: op, need; light. -/
namespace Go.Proofs.YtjbabpnepjhllaaGreat
open Go.RowKit

theorem op_any (kind d a b c imm : Int) (w : World) : Calls Tryz.prog 26 #[.int .i64 kind, .int .i64 d, .int .i64 a, .int .i64 b, .int .i64 c, .int .u64 imm] w fun e w' => e = .returned (.agg #[.int .i64 kind, .int .i64 d, .int .i64 (-1), .int .i64 a, .int .i64 b, .int .i64 c, .int .u64 imm]) ∧ Below w.heap.size w w' := by
  go_enter Tryz.func26, Tryz.ntmps26
  go_wp2
  refine bodyPost_ret (results_cell_row (ty := 43) rfl _ _ w.heap.size 43 _ (0, 0) _ rfl (heap_alloc_new w _) Tryz.underlying43 rfl (by kernel_rfl)) rfl ⟨rfl, (Below.refl _ _).alloc (Nat.le_refl _) _⟩
theorem lneed_any (kind a b : Int) (hk : IntKind.u64.wrap kind = kind) (w : World) : Calls Tryz.prog 17 #[.int .i64 kind, .int .i64 a, .int .i64 b] w fun e w' => e = .returned (.agg #[.int .i64 17, .int .i64 (-1), .int .i64 (-1), .int .i64 a, .int .i64 b, .int .i64 (-1), .int .u64 kind]) ∧ Below w.heap.size w w' := by
  have HA := Lib.hid op_any
  go_enter Tryz.func17, Tryz.ntmps17
  go_wp2_with (first
    | ((with_reducible refine (HA.out _ _ _ _ _ _ _).mono ?_); rintro e w1 ⟨rfl, hb1⟩
       have hbk : w1.heap[w.heap.size]? = some (.cells #[.int .i64 0, .int .i64 0, .int .i64 0, .int .i64 0, .int .i64 0, .int .i64 0, .int .u64 0] 43 (0, 0)) := (hb1.block _ (by simp)).trans (heap_alloc_new w _)
       have HBK := Lib.hid hbk
       have HB1 := Lib.hid hb1
       clear hbk hb1)
    | (refine wpList_store_row rfl 43 _ _ rfl w.heap.size _ rfl rfl 43 #[.int .i64 0, .int .i64 0, .int .i64 0, .int .i64 0, .int .i64 0, .int .i64 0, .int .u64 0] HBK.out (by kernel_rfl) (by rfl) (by kernel_rfl) ?_)
    | go_in)
  refine bodyPost_ret (results_cell_row (ty := 43) rfl _ _ w.heap.size 43 _ (0, 0) _ rfl (setRow_heap _ _ _ _ _ _ HBK.out) Tryz.underlying43 rfl (by kernel_rfl)) rfl ⟨rfl, ?_⟩
  exact below_setRow (((Below.refl _ _).alloc (Nat.le_refl _) _).trans (HB1.out.mono (by simp))) (Nat.le_refl _) _
/-- Is a kernel gone through? -/
def lightK (k : Krn) : Bool := k.vars.all (fun v => decide (v.limbs ≤ 12)) && (decide (k.vars.length ≤ 16) && (decide (k.ops.length ≤ 40) && decide (k.reqs.length ≤ 40)))
set_option maxRecDepth 100000 in
set_option maxHeartbeats 8000000 in
theorem LightKern_any (Av Ao Ar : Option Addr) (nv cv no co nr cr : Nat) (k : Krn) (w : World) (F : Nat → Prop) (hk : KernAt w F [.slice Av nv cv, .slice Ao no co, .slice Ar nr cr] k) (hF : ∀ k, F k → k < w.heap.size) :
    Calls Tryz.prog 32 #[.agg #[.slice Av nv cv, .slice Ao no co, .slice Ar nr cr], .int .i64 16, .int .i64 12, .int .i64 40] w fun e w' => e = .returned (.bool (lightK k)) ∧ Below w.heap.size w w' := by
  obtain ⟨W, hW⟩ : ∃ W, W = w.alloc (.cells #[.slice Av nv cv, .slice Ao no co, .slice Ar nr cr] 25) := ⟨_, rfl⟩
  have hb : Below w.heap.size w W := by rw [hW]; exact (Below.refl _ _).alloc (Nat.le_refl _) _
  have hbox : W.heap[w.heap.size]? = some (.cells #[.slice Av nv cv, .slice Ao no co, .slice Ar nr cr] 25 (0, 0)) := by rw [hW]; exact heap_alloc_new w _
  have hk2 : KernAt W (fun k => k < W.heap.size) [.slice Av nv cv, .slice Ao no co, .slice Ar nr cr] k := (hk.keep (SameOn.of_below hb hF)).mono fun j hj => by have := hF j hj; have := hb.size; omega
  have hkb := kbox_of hbox hk2
  have HW := Lib.hid hW
  have HB := Lib.hid hb
  have HK := Lib.hid hkb
  have HNV := Lib.hid hkb.nv
  have n63 : nv ≤ 9223372036854775807 := by have := hk.nv; have := hkb.nv; omega
  clear hW hb hbox hk2 hkb hk hF
  go_enter Tryz.func32, Tryz.ntmps32
  go_upto_region 1 with (first | go_in)
  rw [← HW.out]
  clear HW
  have c0 := HK.out.c0
  have c1 := HK.out.c1
  have c2 := HK.out.c2
  go_wp2
  go_loopw [8, 9] (fun s8 s9 wr => ∃ j : Nat, j ≤ nv ∧ s9 = .int .i64 (j : Nat) ∧ s8 = .bool false ∧ (∀ i v, i < j → k.vars[i]? = some v → v.limbs ≤ 12) ∧ wr = W) (fun _ s9 _ => nv - (intOf s9).toNat)
  case atStart => exact ⟨0, Nat.zero_le _, rfl, rfl, fun i v hi => absurd hi (by omega), rfl⟩
  case round =>
    obtain ⟨j, hj, rfl, rfl, hms, hw⟩ := hrel
    subst hw
    have HMS := Lib.hid hms
    clear hms
    by_cases hlt : j < nv
    · have d1 : decide (j < nv) = true := decide_eq_true hlt
      obtain ⟨v, hx⟩ : ∃ v, k.vars[j]? = some v := ⟨_, List.getElem?_eq_getElem (by have := HNV.out.1; omega)⟩
      obtain ⟨gg, off, hA, hgg, x0, x1, x2⟩ := HK.out.vars.at_ hx
      have HX := Lib.hid hx
      subst hA
      have i0 : (0 : Int) ≤ (j : Int) := by omega
      have i1 : (j : Int) < (nv : Int) := by omega
      have i2 : IntKind.i64.wrap (j : Int) = j := by rw [IntKind.wrap_i64]; omega
      clear hx
      by_cases hle : v.limbs ≤ 12
      · have d2 : decide (12 < v.limbs) = false := decide_eq_false (by omega)
        have HLE := Lib.hid hle
        clear hle
        go_wp2
        go_roundw
        case rel =>
          refine ⟨j + 1, hlt, by go_num, rfl, fun i u hi hu => ?_, trivial⟩
          by_cases e : i = j
          · subst e; rw [HX.out] at hu; cases hu; exact HLE.out
          · exact HMS.out i u (by omega) hu
        case measure => simp [intOf]; omega
      · have d2 : decide (12 < v.limbs) = true := decide_eq_true (by omega)
        have HL := Lib.hid (show lightK k = false by
          unfold lightK
          rw [show k.vars.all (fun v => decide (v.limbs ≤ 12)) = false from by
            rw [List.all_eq_false]
            exact ⟨v, List.mem_of_getElem? HX.out, by simpa using hle⟩, Bool.false_and])
        clear hle
        go_wp2
        go_ret
        exact ⟨by rw [HL.out]; rfl, HB.out⟩
    · have d1 : decide (j < nv) = false := decide_eq_false hlt
      have e : j = nv := by omega
      subst e
      have hall : k.vars.all (fun v => decide (v.limbs ≤ 12)) = true := by
        rw [List.all_eq_true]
        intro v hv
        obtain ⟨i, hi, he⟩ := List.getElem_of_mem hv
        exact decide_eq_true (HMS.out i v (by have := HNV.out.1; omega) (by rw [List.getElem?_eq_getElem hi, he]))
      have HL := Lib.hid (show lightK k = (decide (j ≤ 16) && (decide (no ≤ 40) && decide (nr ≤ 40))) by
        unfold lightK
        rw [hall, Bool.true_and, ← HNV.out.1, ← HNV.out.2.1, ← HNV.out.2.2])
      clear hall HMS
      by_cases h1 : j ≤ 16
      rotate_left
      · have d3 : decide ((j : Int) ≤ 16) = false := decide_eq_false (by omega)
        have HV := Lib.hid (show lightK k = false by rw [HL.out, decide_eq_false h1]; rfl)
        clear h1 HL
        go_wp2
        go_ret
        exact ⟨by rw [HV.out]; rfl, HB.out⟩
      have d3 : decide ((j : Int) ≤ 16) = true := decide_eq_true (by omega)
      by_cases h2 : no ≤ 40
      rotate_left
      · have d4 : decide ((no : Int) ≤ 40) = false := decide_eq_false (by omega)
        have HV := Lib.hid (show lightK k = false by rw [HL.out, decide_eq_false h2]; simp)
        clear h1 h2 HL
        go_wp2
        go_ret
        exact ⟨by rw [HV.out]; rfl, HB.out⟩
      have d4 : decide ((no : Int) ≤ 40) = true := decide_eq_true (by omega)
      by_cases h3 : nr ≤ 40
      rotate_left
      · have d5 : decide ((nr : Int) ≤ 40) = false := decide_eq_false (by omega)
        have HV := Lib.hid (show lightK k = false by rw [HL.out, decide_eq_false h3]; simp)
        clear h1 h2 h3 HL
        go_wp2
        go_ret
        exact ⟨by rw [HV.out]; rfl, HB.out⟩
      have d5 : decide ((nr : Int) ≤ 40) = true := decide_eq_true (by omega)
      have HV := Lib.hid (show lightK k = true by rw [HL.out, decide_eq_true h1, decide_eq_true h2, decide_eq_true h3]; rfl)
      clear h1 h2 h3 HL
      go_wp2
      go_ret
      exact ⟨by rw [HV.out]; rfl, HB.out⟩
set_option maxRecDepth 100000 in
set_option maxHeartbeats 8000000 in
theorem light_any (Av Ao Ar : Option Addr) (nv cv no co nr cr : Nat) (k : Krn) (w : World) (F : Nat → Prop) (hk : KernAt w F [.slice Av nv cv, .slice Ao no co, .slice Ar nr cr] k) (hF : ∀ k, F k → k < w.heap.size) :
    Calls Tryz.prog 9 #[.agg #[.slice Av nv cv, .slice Ao no co, .slice Ar nr cr]] w fun e w' => e = .returned (.bool (lightK k)) ∧ Below w.heap.size w w' := by
  obtain ⟨W, hW⟩ : ∃ W, W = w.alloc (.cells #[.slice Av nv cv, .slice Ao no co, .slice Ar nr cr] 25) := ⟨_, rfl⟩
  have hb : Below w.heap.size w W := by rw [hW]; exact (Below.refl _ _).alloc (Nat.le_refl _) _
  have hbox : W.heap[w.heap.size]? = some (.cells #[.slice Av nv cv, .slice Ao no co, .slice Ar nr cr] 25 (0, 0)) := by rw [hW]; exact heap_alloc_new w _
  have hk2 : KernAt W (fun k => k < W.heap.size) [.slice Av nv cv, .slice Ao no co, .slice Ar nr cr] k := (hk.keep (SameOn.of_below hb hF)).mono fun j hj => by have := hF j hj; have := hb.size; omega
  have hkb := kbox_of hbox hk2
  have HL := Lib.hid (LightKern_any Av Ao Ar nv cv no co nr cr k W _ hk2 (fun k hk => hk))
  have HW := Lib.hid hW
  have HB := Lib.hid hb
  have c0 := hkb.c0
  have c1 := hkb.c1
  have c2 := hkb.c2
  clear hW hb hbox hk2 hkb hk hF
  go_enter Tryz.func9, Tryz.ntmps9
  go_upto_region 1 with (first | go_in)
  rw [← HW.out]
  clear HW
  go_wp2_with (first | ((with_reducible refine HL.out.mono ?_); rintro e w1 ⟨rfl, hb1⟩) | go_in)
  go_ret
  exact ⟨rfl, HB.out.trans (hb1.mono HB.out.size)⟩
theorem LightFacts_any (A : Option Addr) (n c : Nat) (w : World) :
    Calls Tryz.prog 30 #[.slice A n c] w fun e w' => e = .returned (.bool (decide (n ≤ 40))) ∧ w' = w := by
  have e1 : decide ((n : Int) ≤ 40) = decide (n ≤ 40) := by rw [Bool.eq_iff_iff]; simp; omega
  have HE := Lib.hid e1
  clear e1
  go_enter Tryz.func30, Tryz.ntmps30
  go_wp2
  go_ret
  exact ⟨by rw [← HE.out]; rfl, rfl⟩
end Go.Proofs.YtjbabpnepjhllaaGreat
