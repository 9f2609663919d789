/- Facts of variables, plain: their order, rows without doubles, what is known of a row; what an operation makes known. -/
import Derived.WalkKit
namespace Go.Proofs.YtjbabpnepjhllaaGreat

structure Fct where
  kind : Int
  a : Int
  b : Int
theorem Fct.ext_ {x y : Fct} (h1 : x.kind = y.kind) (h2 : x.a = y.a) (h3 : x.b = y.b) : x = y := by cases x; cases y; simp at *; exact ⟨h1, h2, h3⟩
instance : DecidableEq Fct := fun x y => if h : x.kind = y.kind ∧ x.a = y.a ∧ x.b = y.b then .isTrue (Fct.ext_ h.1 h.2.1 h.2.2) else .isFalse fun e => h (by subst e; exact ⟨rfl, rfl, rfl⟩)
/-- The order. -/
def ltF (x y : Fct) : Bool := decide (x.kind < y.kind) || (x.kind == y.kind && (decide (x.a < y.a) || (x.a == y.a && decide (x.b < y.b))))
theorem ltF_iff (x y : Fct) : ltF x y = true ↔ x.kind < y.kind ∨ (x.kind = y.kind ∧ (x.a < y.a ∨ (x.a = y.a ∧ x.b < y.b))) := by
  unfold ltF
  simp only [Bool.or_eq_true, Bool.and_eq_true, decide_eq_true_eq, beq_iff_eq]
theorem ltF_irr (x : Fct) : ltF x x = false := by
  cases h : ltF x x
  · rfl
  · rw [ltF_iff] at h; omega
theorem ltF_trans {x y z : Fct} (h1 : ltF x y = true) (h2 : ltF y z = true) : ltF x z = true := by
  rw [ltF_iff] at *; omega
theorem ltF_total {x y : Fct} (h1 : ltF x y = false) (h2 : x ≠ y) : ltF y x = true := by
  rw [ltF_iff]
  have h3 : ¬ (x.kind < y.kind ∨ (x.kind = y.kind ∧ (x.a < y.a ∨ (x.a = y.a ∧ x.b < y.b)))) := fun h => by rw [(ltF_iff x y).2 h] at h1; cases h1
  have h4 : ¬ (x.kind = y.kind ∧ x.a = y.a ∧ x.b = y.b) := fun h => h2 (Fct.ext_ h.1 h.2.1 h.2.2)
  omega
theorem ltF_asymm {x y : Fct} (h : ltF x y = true) : ltF y x = false := by
  cases h2 : ltF y x
  · rfl
  · have := ltF_trans h h2; rw [ltF_irr] at this; cases this
def OrdF (l : List Fct) : Prop := l.Pairwise fun x y => ltF x y = true
theorem ordF_ext : ∀ {a b : List Fct}, OrdF a → OrdF b → (∀ f, f ∈ a ↔ f ∈ b) → a = b
  | [], [], _, _, _ => rfl
  | [], y :: b, _, _, h => absurd ((h y).2 List.mem_cons_self) (by simp)
  | x :: a, [], _, _, h => absurd ((h x).1 List.mem_cons_self) (by simp)
  | x :: a, y :: b, ha, hb, h => by
    obtain ⟨h1, h2⟩ := List.pairwise_cons.1 ha
    obtain ⟨h3, h4⟩ := List.pairwise_cons.1 hb
    have e : x = y := by
      rcases List.mem_cons.1 ((h x).1 List.mem_cons_self) with e | hx
      · exact e
      · rcases List.mem_cons.1 ((h y).2 List.mem_cons_self) with e | hy
        · exact e.symm
        · have g1 := h3 x hx
          have g2 := h1 y hy
          rw [ltF_asymm g1] at g2; cases g2
    subst e
    refine congrArg _ (ordF_ext h2 h4 fun f => ⟨fun hf => ?_, fun hf => ?_⟩)
    · rcases List.mem_cons.1 ((h f).1 (List.mem_cons_of_mem _ hf)) with e | h5
      · subst e; have := h1 _ hf; rw [ltF_irr] at this; cases this
      · exact h5
    · rcases List.mem_cons.1 ((h f).2 (List.mem_cons_of_mem _ hf)) with e | h5
      · subst e; have := h3 _ hf; rw [ltF_irr] at this; cases this
      · exact h5
def insF (f : Fct) : List Fct → List Fct
  | [] => [f]
  | x :: r => if ltF x f then x :: insF f r else if x = f then x :: r else f :: x :: r
theorem mem_insF {f g : Fct} : ∀ {l : List Fct}, g ∈ insF f l ↔ g = f ∨ g ∈ l
  | [] => by simp [insF]
  | x :: r => by
    unfold insF
    split
    · simp only [List.mem_cons, mem_insF (l := r)]
      constructor
      · rintro (h | h | h) <;> simp [h]
      · rintro (h | h | h) <;> simp [h]
    · split
      · rename_i e
        subst e
        simp
      · simp
theorem ord_insF {f : Fct} : ∀ {l : List Fct}, OrdF l → OrdF (insF f l)
  | [], _ => List.pairwise_singleton _ _
  | x :: r, h => by
    obtain ⟨h1, h2⟩ := List.pairwise_cons.1 h
    unfold insF
    split
    · rename_i hx
      refine List.pairwise_cons.2 ⟨fun g hg => ?_, ord_insF h2⟩
      rcases mem_insF.1 hg with e | hg
      · subst e; exact hx
      · exact h1 g hg
    · split
      · exact h
      · rename_i hx he
        have hfx : ltF f x = true := ltF_total (by simpa using hx) he
        refine List.pairwise_cons.2 ⟨fun g hg => ?_, h⟩
        rcases List.mem_cons.1 hg with e | hg
        · subst e; exact hfx
        · exact ltF_trans hfx (h1 g hg)
/-- A fact that may be: not 'a is less than a'. -/
def mayF (f : Fct) : Bool := !(f.kind == 2 && f.a == f.b)
def putF (l : List Fct) (f : Fct) : List Fct := if mayF f then insF f l else l
theorem mem_putF {l : List Fct} {f g : Fct} : g ∈ putF l f ↔ (g = f ∧ mayF f = true) ∨ g ∈ l := by
  unfold putF
  split
  · rename_i h; rw [mem_insF]; simp [h]
  · rename_i h; simp [h]
theorem ord_putF {l : List Fct} {f : Fct} (h : OrdF l) : OrdF (putF l f) := by
  unfold putF
  split
  · exact ord_insF h
  · exact h
def putsF (l more : List Fct) : List Fct := more.foldl putF l
theorem mem_putsF {more : List Fct} : ∀ {l : List Fct} {g : Fct}, g ∈ putsF l more ↔ (g ∈ more ∧ mayF g = true) ∨ g ∈ l := by
  induction more with
  | nil => intro l g; simp [putsF]
  | cons f r ih =>
    intro l g
    show g ∈ putsF (putF l f) r ↔ _
    rw [ih, mem_putF, List.mem_cons]
    constructor
    · rintro (⟨h1, h2⟩ | ⟨rfl, h2⟩ | h)
      · exact .inl ⟨.inr h1, h2⟩
      · exact .inl ⟨.inl rfl, h2⟩
      · exact .inr h
    · rintro (⟨rfl | h1, h2⟩ | h)
      · exact .inr (.inl ⟨rfl, h2⟩)
      · exact .inl ⟨h1, h2⟩
      · exact .inr (.inr h)
theorem ord_putsF {more : List Fct} : ∀ {l : List Fct}, OrdF l → OrdF (putsF l more) := by
  induction more with
  | nil => exact fun h => h
  | cons f r ih => exact fun h => ih (ord_putF h)
/-- Facts in order. -/
def sortF (l : List Fct) : List Fct := putsF [] l
theorem mem_sortF {l : List Fct} {g : Fct} : g ∈ sortF l ↔ g ∈ l ∧ mayF g = true := by unfold sortF; rw [mem_putsF]; simp
theorem ord_sortF (l : List Fct) : OrdF (sortF l) := ord_putsF List.Pairwise.nil
theorem sortF_id {l : List Fct} (h : OrdF l) (hm : ∀ f ∈ l, mayF f = true) : sortF l = l := ordF_ext (ord_sortF l) h fun f => by rw [mem_sortF]; exact ⟨fun h => h.1, fun hf => ⟨hf, hm f hf⟩⟩
/-- Is a fact known of some? -/
def saysF (x f : Fct) : Bool := x == f || (f.kind == 3 && ((x.kind == 1 && x.a == f.a) || (x.kind == 2 && x.b == f.a)))
def knowsF (l : List Fct) (f : Fct) : Bool := l.any fun x => saysF x f
theorem knowsF_mem {l : List Fct} {f : Fct} (h : f ∈ l) : knowsF l f = true := List.any_eq_true.2 ⟨f, h, by simp [saysF]⟩
theorem knowsF_mono {l m : List Fct} {f : Fct} (h : ∀ x ∈ l, x ∈ m) (hk : knowsF l f = true) : knowsF m f = true := by
  obtain ⟨x, hx, h1⟩ := List.any_eq_true.1 hk
  exact List.any_eq_true.2 ⟨x, h x hx, h1⟩
def hasF (f : Fct) (v : Int) : Bool := f.a == v || (f.kind == 2 && f.b == v)
structure KOp where
  kind : Int
  d : Int
  e : Int
  a : Int
  b : Int
  c : Int
  imm : Nat
structure KVar where
  limbs : Int
  secret : Bool
  mode : Int
structure Krn where
  vars : List KVar
  ops : List KOp
  reqs : List KOp
def aloneF (k a : Int) : Fct := ⟨k, a, -1⟩
def lessF (a b : Int) : Fct := ⟨2, a, b⟩
/-- What an operation needs. -/
def needsF (o : KOp) : List Fct :=
  if o.kind = 9 then [aloneF 3 o.c]
  else if o.kind = 10 ∨ o.kind = 11 then [lessF o.a o.c, lessF o.b o.c]
  else if o.kind = 12 then [aloneF 1 o.c, lessF o.a o.c, lessF o.b o.c]
  else if o.kind = 13 then [aloneF 1 o.c, lessF o.a o.c]
  else if o.kind = 17 then
    if o.imm = 2 then [lessF o.a o.b] else if o.imm = 1 then [aloneF 1 o.a] else if o.imm = 3 then [aloneF 3 o.a] else []
  else []
def askF (l : List Fct) (of : Int → Fct) (a b : Int) (told : List Int) : List Fct := if knowsF l (of a) && knowsF l (of b) then told.map of else []
/-- What is known of two variables alike, told of some. -/
def bothF (n : Nat) (l : List Fct) (a b p q : Int) (told : List Int) : List Fct :=
  askF l (aloneF 1) a b told ++ askF l (aloneF 3) a b told ++ ((List.range n).map fun y : Nat => if (y : Int) = p ∨ (y : Int) = q then [] else askF l (fun v => lessF v y) a b told ++ askF l (fun v => lessF y v) a b told).flatten
def copyF (l : List Fct) (u v : Int) : List Fct := (l.filter fun f => hasF f u && !hasF f v).map fun f => if f.a = u then ⟨f.kind, v, f.b⟩ else ⟨f.kind, f.a, v⟩
def limbsF (vs : List KVar) (v : Int) : Int := (vs.getD v.toNat ⟨0, false, 0⟩).limbs
def newsF (vs : List KVar) (o : KOp) (l : List Fct) : List Fct :=
  if o.kind = 1 then (if o.imm % 2 = 1 then [aloneF 1 o.d] else []) ++ (if 0 < o.imm then [aloneF 3 o.d] else [])
  else if o.kind = 2 then (if limbsF vs o.a ≤ limbsF vs o.d then copyF l o.a o.d else [])
  else if o.kind = 9 ∨ o.kind = 10 ∨ o.kind = 11 ∨ o.kind = 12 ∨ o.kind = 13 then (if o.d ≠ o.c then [lessF o.d o.c] else [])
  else if o.kind = 8 then bothF vs.length l o.a o.b o.d o.d [o.d]
  else if o.kind = 14 then bothF vs.length l o.d o.e o.d o.e [o.d, o.e]
  else if o.kind = 17 then needsF o
  else []
def goneF (o : KOp) (f : Fct) : Bool := (decide (0 ≤ o.d) && hasF f o.d) || (decide (0 ≤ o.e) && hasF f o.e)
/-- What is known behind an operation. -/
def afterF (vs : List KVar) (o : KOp) (l : List Fct) : List Fct :=
  if o.kind = 2 ∧ o.d = o.a then l else putsF ((sortF l).filter fun f => !goneF o f) (newsF vs o l)
theorem ord_afterF {vs : List KVar} {o : KOp} {l : List Fct} (h : OrdF l) : OrdF (afterF vs o l) := by
  unfold afterF
  split
  · exact h
  · exact ord_putsF ((ord_sortF l).filter _)
theorem mem_afterF {vs : List KVar} {o : KOp} {l : List Fct} (h : ¬ (o.kind = 2 ∧ o.d = o.a)) (f : Fct) : f ∈ afterF vs o l ↔ mayF f = true ∧ (f ∈ newsF vs o l ∨ (f ∈ l ∧ goneF o f = false)) := by
  unfold afterF
  rw [if_neg h, mem_putsF, List.mem_filter, mem_sortF]
  constructor
  · rintro (⟨h1, h2⟩ | ⟨⟨h1, h2⟩, h3⟩)
    · exact ⟨h2, .inl h1⟩
    · exact ⟨h2, .inr ⟨h1, by simpa using h3⟩⟩
  · rintro ⟨h1, h2 | ⟨h2, h3⟩⟩
    · exact .inl ⟨h2, h1⟩
    · exact .inr ⟨⟨h2, h1⟩, by simpa using h3⟩
/-- Of more facts ahead no fewer come. -/
theorem askF_mono {l m : List Fct} (h : ∀ x ∈ l, x ∈ m) {of : Int → Fct} {a b : Int} {told : List Int} {f : Fct} (hf : f ∈ askF l of a b told) : f ∈ askF m of a b told := by
  unfold askF at *
  split at hf
  · rename_i hk
    rw [Bool.and_eq_true] at hk
    rw [if_pos (by rw [knowsF_mono h hk.1, knowsF_mono h hk.2]; rfl)]
    exact hf
  · cases hf
theorem bothF_mono {l m : List Fct} (h : ∀ x ∈ l, x ∈ m) {n : Nat} {a b p q : Int} {told : List Int} {f : Fct} (hf : f ∈ bothF n l a b p q told) : f ∈ bothF n m a b p q told := by
  unfold bothF at *
  simp only [List.mem_append, List.mem_flatten, List.mem_map] at *
  rcases hf with (hf | hf) | ⟨s, ⟨y, hy, rfl⟩, hf⟩
  · exact .inl (.inl (askF_mono h hf))
  · exact .inl (.inr (askF_mono h hf))
  · refine .inr ⟨_, ⟨y, hy, rfl⟩, ?_⟩
    split at hf
    · cases hf
    · rename_i hn
      rw [if_neg hn]
      rcases List.mem_append.1 hf with hf | hf
      · exact List.mem_append_left _ (askF_mono h hf)
      · exact List.mem_append_right _ (askF_mono h hf)
theorem copyF_mono {l m : List Fct} (h : ∀ x ∈ l, x ∈ m) {u v : Int} {f : Fct} (hf : f ∈ copyF l u v) : f ∈ copyF m u v := by
  unfold copyF at *
  obtain ⟨x, hx, rfl⟩ := List.mem_map.1 hf
  obtain ⟨h1, h2⟩ := List.mem_filter.1 hx
  exact List.mem_map.2 ⟨x, List.mem_filter.2 ⟨h x h1, h2⟩, rfl⟩
theorem newsF_mono {l m : List Fct} (h : ∀ x ∈ l, x ∈ m) {vs : List KVar} {o : KOp} {f : Fct} (hf : f ∈ newsF vs o l) : f ∈ newsF vs o m := by
  unfold newsF at *
  split
  · rename_i hk; rw [if_pos hk] at hf; exact hf
  rename_i hk; rw [if_neg hk] at hf
  split
  · rename_i hk; rw [if_pos hk] at hf
    split
    · rename_i hc; rw [if_pos hc] at hf; exact copyF_mono h hf
    · rename_i hc; rw [if_neg hc] at hf; cases hf
  rename_i hk; rw [if_neg hk] at hf
  split
  · rename_i hk; rw [if_pos hk] at hf; exact hf
  rename_i hk; rw [if_neg hk] at hf
  split
  · rename_i hk; rw [if_pos hk] at hf; exact bothF_mono h hf
  rename_i hk; rw [if_neg hk] at hf
  split
  · rename_i hk; rw [if_pos hk] at hf; exact bothF_mono h hf
  rename_i hk; rw [if_neg hk] at hf
  exact hf
theorem afterF_mono {l m : List Fct} (h : ∀ x ∈ l, x ∈ m) {vs : List KVar} {o : KOp} {f : Fct} (hf : f ∈ afterF vs o l) : f ∈ afterF vs o m := by
  by_cases hc : o.kind = 2 ∧ o.d = o.a
  · unfold afterF at *
    rw [if_pos hc] at *
    exact h f hf
  · rw [mem_afterF hc] at *
    exact ⟨hf.1, hf.2.imp (newsF_mono h) fun ⟨h1, h2⟩ => ⟨h f h1, h2⟩⟩
def commonF (a b : List Fct) : List Fct := sortF (a.filter fun f => b.contains f)
theorem mem_commonF {a b : List Fct} {f : Fct} : f ∈ commonF a b ↔ f ∈ a ∧ f ∈ b ∧ mayF f = true := by
  unfold commonF
  rw [mem_sortF, List.mem_filter, List.contains_iff_mem]
  constructor
  · rintro ⟨⟨h1, h2⟩, h3⟩; exact ⟨h1, h2, h3⟩
  · rintro ⟨h1, h2, h3⟩; exact ⟨⟨h1, h2⟩, h3⟩
end Go.Proofs.YtjbabpnepjhllaaGreat
