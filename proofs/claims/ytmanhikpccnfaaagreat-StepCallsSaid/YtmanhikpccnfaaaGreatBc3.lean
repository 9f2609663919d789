/- The sort by insertion, on lists: plain. -/
import Derived.Test.YtmanhikpccnfaaaGreatBc2
import Derived.Test.YtmanhikpccnfaaaGreatBc1
import Derived.Test.YtmanhikpccnfaaaGreatShelf
import Derived.Maps.AppendAt
namespace Go.Proofs.YtmanhikpccnfaaaGreat

/-- x is laid among what is before it, the last one first. -/
def insBy {α : Type} (k : α → Nat) : List α → α → List α
  | [], x => [x]
  | p :: ps, x => if k x < k p then p :: insBy k ps x else x :: p :: ps
def sortBy {α : Type} (k : α → Nat) (E : List α) : List α := (E.foldl (insBy k) []).reverse

theorem insBy_length {α : Type} (k : α → Nat) (l : List α) (x : α) : (insBy k l x).length = l.length + 1 := by
  induction l with
  | nil => rfl
  | cons p ps ih => unfold insBy; split <;> simp [ih]
theorem foldl_insBy_length {α : Type} (k : α → Nat) (E a : List α) : (E.foldl (insBy k) a).length = a.length + E.length := by
  induction E generalizing a with
  | nil => rfl
  | cons x E ih => rw [List.foldl_cons, ih, insBy_length]; simp; omega
theorem insBy_map {α β : Type} (k : β → Nat) (f : α → β) (l : List α) (x : α) : insBy k (l.map f) (f x) = (insBy (fun a => k (f a)) l x).map f := by
  induction l with
  | nil => rfl
  | cons p ps ih =>
    simp only [List.map_cons, insBy]
    split
    · rw [ih]; rfl
    · rfl
theorem foldl_insBy_map {α β : Type} (k : β → Nat) (f : α → β) (E a : List α) : (E.map f).foldl (insBy k) (a.map f) = (E.foldl (insBy fun x => k (f x)) a).map f := by
  induction E generalizing a with
  | nil => rfl
  | cons x E ih => rw [List.map_cons, List.foldl_cons, List.foldl_cons, insBy_map, ih]
theorem sortBy_map {α β : Type} (k : β → Nat) (f : α → β) (E : List α) : sortBy k (E.map f) = (sortBy (fun x => k (f x)) E).map f := by
  have := foldl_insBy_map k f E []
  simp only [List.map_nil] at this
  rw [sortBy, this, sortBy, List.map_reverse]
theorem insBy_perm {α : Type} (k : α → Nat) (l : List α) (x : α) : (insBy k l x).Perm (x :: l) := by
  induction l with
  | nil => exact .refl _
  | cons p ps ih =>
    unfold insBy
    split
    · exact (ih.cons p).trans (.swap ..)
    · exact .refl _
theorem foldl_insBy_perm {α : Type} (k : α → Nat) (E a : List α) : (E.foldl (insBy k) a).Perm (E ++ a) := by
  induction E generalizing a with
  | nil => exact .refl _
  | cons x E ih => exact (ih _).trans (((insBy_perm k a x).append_left E).trans List.perm_middle)
theorem sortBy_perm {α : Type} (k : α → Nat) (E : List α) : (sortBy k E).Perm E := by
  have := foldl_insBy_perm k E []
  rw [List.append_nil] at this
  exact (List.reverse_perm _).trans this
theorem insBy_congr {α : Type} {k k' : α → Nat} (l : List α) (x : α) (hx : k x = k' x) (hl : ∀ p ∈ l, k p = k' p) : insBy k l x = insBy k' l x := by
  induction l with
  | nil => rfl
  | cons p ps ih =>
    unfold insBy
    rw [hx, hl p (List.mem_cons_self ..), ih (fun q hq => hl q (List.mem_cons_of_mem _ hq))]
theorem foldl_insBy_congr {α : Type} {k k' : α → Nat} (E a : List α) (hE : ∀ p ∈ E, k p = k' p) (ha : ∀ p ∈ a, k p = k' p) : E.foldl (insBy k) a = E.foldl (insBy k') a := by
  induction E generalizing a with
  | nil => rfl
  | cons x E ih =>
    have hx := hE x (List.mem_cons_self ..)
    rw [List.foldl_cons, List.foldl_cons, insBy_congr a x hx ha]
    refine ih _ (fun p hp => hE p (List.mem_cons_of_mem _ hp)) (fun p hp => ?_)
    rcases List.mem_cons.1 ((insBy_perm k' a x).mem_iff.1 hp) with rfl | hp
    · exact hx
    · exact ha p hp
theorem sortBy_congr {α : Type} {k k' : α → Nat} (E : List α) (hE : ∀ p ∈ E, k p = k' p) : sortBy k E = sortBy k' E := by
  rw [sortBy, sortBy, foldl_insBy_congr E [] hE (by simp)]
theorem sortBy_length {α : Type} (k : α → Nat) (E : List α) : (sortBy k E).length = E.length := (sortBy_perm k E).length_eq
theorem insBy_sorted {α : Type} (k : α → Nat) (l : List α) (x : α) (h : l.Pairwise fun a b => k b ≤ k a) : (insBy k l x).Pairwise fun a b => k b ≤ k a := by
  induction l with
  | nil => simp [insBy]
  | cons p ps ih =>
    obtain ⟨h1, h2⟩ := List.pairwise_cons.1 h
    unfold insBy
    split
    · rename_i hlt
      refine List.pairwise_cons.2 ⟨fun b hb => ?_, ih h2⟩
      rcases List.mem_cons.1 ((insBy_perm k ps x).mem_iff.1 hb) with rfl | hb
      · omega
      · exact h1 b hb
    · rename_i hge
      refine List.pairwise_cons.2 ⟨fun b hb => ?_, h⟩
      rcases List.mem_cons.1 hb with rfl | hb
      · omega
      · have := h1 b hb; omega
theorem sortBy_sorted {α : Type} (k : α → Nat) (E : List α) : (sortBy k E).Pairwise fun a b => k a ≤ k b := by
  rw [sortBy, List.pairwise_reverse]
  have : ∀ (E a : List α), a.Pairwise (fun a b => k b ≤ k a) → (E.foldl (insBy k) a).Pairwise (fun a b => k b ≤ k a) := by
    intro E
    induction E with
    | nil => intro a h; exact h
    | cons x E ih => intro a h; exact ih _ (insBy_sorted k a x h)
  exact this E [] .nil

end Go.Proofs.YtmanhikpccnfaaaGreat

/- Regions that may be, sorted by their addresses: plain. -/
namespace Go.Proofs.YtmanhikpccnfaaaGreat

/-- Regions that may be, in order. -/
structure Good (rs : List Reg) : Prop where
  len : rs.length ≤ 8
  bytes : ∀ r ∈ rs, r.bytes ≠ [] ∧ r.bytes.length ≤ 1048576
  end_ : ∀ r ∈ rs, r.base + r.bytes.length ≤ 18446744073709551616
  gap : rs.Pairwise fun a b => a.base + a.bytes.length ≤ b.base

theorem Good.base {rs : List Reg} (h : Good rs) : ∀ r ∈ rs, r.base < 18446744073709551616 ∧ r.bytes.length ≤ 9223372036854775807 := fun r hr => by
  have h1 := h.end_ r hr
  have h2 := (h.bytes r hr)
  have : 0 < r.bytes.length := List.length_pos_iff.2 h2.1
  exact ⟨by omega, by omega⟩
theorem Good.pos {rs : List Reg} (h : Good rs) : ∀ r ∈ rs, 0 < r.bytes.length := fun r hr => List.length_pos_iff.2 (h.bytes r hr).1
theorem Good.last {rs : List Reg} (h : Good rs) : ∀ r ∈ rs, lastOf r = r.base + r.bytes.length - 1 := fun r hr => by
  have h1 := h.end_ r hr
  have := h.pos r hr
  unfold lastOf
  omega

/-- What Check lets by, sorted. -/
theorem good_of_check {l : List Reg} (h : checkF l = 0) (hb : ∀ r ∈ l, r.base < 18446744073709551616) : Good (sortBy Reg.base l) := by
  unfold checkF at h
  split at h
  · cases h
  · rename_i h8
    split at h
    · cases h
    · rename_i hbad
      simp only [not_or, Nat.not_lt, Bool.not_eq_true] at h8
      have hbad' : ∀ k < l.length, chkBad l k = false := fun k hk => by
        cases hc : chkBad l k
        · rfl
        · exact absurd (List.any_eq_true.2 ⟨k, by simpa using hk, hc⟩) hbad
      have hr : ∀ r ∈ l, r.bytes ≠ [] ∧ r.bytes.length ≤ 1048576 ∧ r.base + r.bytes.length ≤ 18446744073709551616 := fun r hr => by
        obtain ⟨k, hk⟩ := List.mem_iff_getElem?.1 hr
        have hkl : k < l.length := (List.getElem?_eq_some_iff.1 hk).1
        have h1 := hbad' k hkl
        simp only [chkBad, hk, Bool.or_eq_false_iff, decide_eq_false_iff_not] at h1
        have h2 : ¬ 1048576 < r.bytes.length := by
          have := List.any_eq_false.1 h8.2 r hr
          simpa using this
        have h3 : r.bytes ≠ [] := by simpa using h1.1.1
        have h4 := h1.1.2
        have h5 := hb r hr
        have : 0 < r.bytes.length := List.length_pos_iff.2 h3
        unfold lastOf at h4
        exact ⟨h3, by omega, by omega⟩
      have hpair : l.Pairwise fun a b => a.base + a.bytes.length ≤ b.base ∨ b.base + b.bytes.length ≤ a.base := by
        rw [List.pairwise_iff_getElem]
        intro i j hi hj hij
        have h1 := hbad' j hj
        simp only [chkBad, List.getElem?_eq_getElem hj, Bool.or_eq_false_iff] at h1
        have h2 := List.any_eq_false.1 h1.2 l[i] (by
          rw [List.mem_iff_getElem]
          exact ⟨i, by simp; omega, by simp⟩)
        simp only [meets, decide_eq_true_eq] at h2
        obtain ⟨a1, a2, a3⟩ := hr l[i] (List.getElem_mem hi)
        obtain ⟨b1, b2, b3⟩ := hr l[j] (List.getElem_mem hj)
        have a4 : 0 < l[i].bytes.length := List.length_pos_iff.2 a1
        have b4 : 0 < l[j].bytes.length := List.length_pos_iff.2 b1
        unfold lastOf at h2
        omega
      have hperm := sortBy_perm Reg.base l
      have hmem : ∀ r ∈ sortBy Reg.base l, r ∈ l := fun r hr => hperm.mem_iff.1 hr
      refine ⟨by rw [sortBy_length]; omega, fun r h => ⟨(hr r (hmem r h)).1, (hr r (hmem r h)).2.1⟩, fun r h => (hr r (hmem r h)).2.2, ?_⟩
      have hp2 : (sortBy Reg.base l).Pairwise fun a b => a.base + a.bytes.length ≤ b.base ∨ b.base + b.bytes.length ≤ a.base := (hperm.pairwise_iff (fun h => h.symm)).2 hpair
      have hp3 := sortBy_sorted Reg.base l
      have hp4 := hp2.and hp3
      refine List.Pairwise.imp_of_mem (fun {a b} ha hb' hab => ?_) hp4
      obtain ⟨b1, b2, b3⟩ := hr b (hmem b hb')
      have b4 : 0 < b.bytes.length := List.length_pos_iff.2 b1
      omega

/-- Where the region would be that has an address. -/
def findI (rs : List Reg) (at_ : Nat) : Nat := rs.findIdx fun r => decide (at_ ≤ lastOf r)
/-- .. that has so many bytes from it on. -/
def placeF (rs : List Reg) (at_ n : Nat) : Option (Nat × Nat) := match rs[findI rs at_]? with
  | none => none
  | some r => if at_ < r.base then none else if r.bytes.length - (at_ - r.base) < n then none else some (findI rs at_, at_ - r.base)

theorem findI_eq {rs : List Reg} {at_ i : Nat} (hi : i ≤ rs.length) (h1 : ∀ (k : Nat) (r : Reg), k < i → rs[k]? = some r → lastOf r < at_) (h2 : ∀ r, rs[i]? = some r → at_ ≤ lastOf r) : findI rs at_ = i := by
  unfold findI
  rcases Nat.lt_or_ge i rs.length with h | h
  · rw [List.findIdx_eq h]
    refine ⟨by simpa using h2 rs[i] (List.getElem?_eq_getElem h), fun j hj => ?_⟩
    have := h1 j rs[j] hj (List.getElem?_eq_getElem (by omega))
    simp; omega
  · obtain rfl : i = rs.length := by omega
    rw [List.findIdx_eq_length]
    intro r hr
    obtain ⟨k, hk⟩ := List.mem_iff_getElem?.1 hr
    have := h1 k r (List.getElem?_eq_some_iff.1 hk).1 hk
    simp; omega

theorem findI_le {rs : List Reg} {at_ : Nat} {r : Reg} (h : rs[findI rs at_]? = some r) : at_ ≤ lastOf r := by
  obtain ⟨hlt, rfl⟩ := List.getElem?_eq_some_iff.1 h
  have h3 := List.findIdx_getElem (p := fun r => decide (at_ ≤ lastOf r)) (xs := rs) (w := hlt)
  exact of_decide_eq_true h3

theorem last_mono {rs : List Reg} (h : Good rs) {i j : Nat} {a b : Reg} (ha : rs[i]? = some a) (hb : rs[j]? = some b) (hij : i ≤ j) : lastOf a ≤ lastOf b := by
  rcases Nat.eq_or_lt_of_le hij with rfl | hlt
  · rw [ha] at hb; cases hb; exact Nat.le_refl _
  · obtain ⟨hi, rfl⟩ := List.getElem?_eq_some_iff.1 ha
    obtain ⟨hj, rfl⟩ := List.getElem?_eq_some_iff.1 hb
    have := List.pairwise_iff_getElem.1 h.gap i j hi hj hlt
    rw [h.last _ (List.getElem_mem hi), h.last _ (List.getElem_mem hj)]
    have := h.pos _ (List.getElem_mem hj)
    omega

end Go.Proofs.YtmanhikpccnfaaaGreat

/- slices.SortFunc over regions, by their bases, of at most 12. -/
namespace Go.Proofs.YtmanhikpccnfaaaGreat
open Go.RowKit

def cmpN (x y : Nat) : Int := if x < y then -1 else if y < x then 1 else 0

set_option maxHeartbeats 400000 in
theorem Compare_any (x y : Nat) (w : World) : Calls Tryz.prog 59 #[.int .u64 x, .int .u64 y] w fun e w' => e = .returned (.int .i64 (cmpN x y)) ∧ w = w' := by
  have hb : ∀ z : Nat, ((z : Int) == z) = true := fun z => by simp
  have hn : ∀ z : Nat, ((z : Int) != z) = false := fun z => by simp
  by_cases h1 : x < y
  · have hd : decide (x < y) = true := by simpa using h1
    have hr : cmpN x y = -1 := by simp [cmpN, h1]
    have HR := Lib.hid hr; clear hr
    go_enter Tryz.func59, Tryz.ntmps59
    go_wp2
    go_ret
    exact ⟨ret_int HR.out.symm, rfl⟩
  · have hd : decide (x < y) = false := by simpa using h1
    by_cases h2 : y < x
    · have hd2 : decide (y < x) = true := by simpa using h2
      have hr : cmpN x y = 1 := by simp [cmpN, h1, h2]
      have HR := Lib.hid hr; clear hr
      go_enter Tryz.func59, Tryz.ntmps59
      go_wp2
      go_ret
      exact ⟨ret_int HR.out.symm, rfl⟩
    · have hd2 : decide (y < x) = false := by simpa using h2
      have hr : cmpN x y = 0 := by simp [cmpN, h1, h2]
      have HR := Lib.hid hr; clear hr
      go_enter Tryz.func59, Tryz.ntmps59
      go_wp2
      go_ret
      exact ⟨ret_int HR.out.symm, rfl⟩

set_option maxHeartbeats 400000 in
theorem own1_any (x y : Nat) (x1 x2 y1 y2 : Value) (w : World) :
    Calls Tryz.prog 58 #[.agg #[.int .u64 x, x1, x2], .agg #[.int .u64 y, y1, y2]] w fun e w' => e = .returned (.int .i64 (cmpN x y)) ∧ Below w.heap.size w w' := by
  have hb : Below w.heap.size w ((w.alloc (.cells #[.int .u64 x, x1, x2] 38)).alloc (.cells #[.int .u64 y, y1, y2] 38)) := ((Below.refl _ _).alloc (Nat.le_refl _) _).alloc (by simp) _
  have HB := Lib.hid hb; clear hb
  go_enter Tryz.func58, Tryz.ntmps58
  go_wp2_with (go_at_call 59; refine (Compare_any _ _ _).mono ?_; rintro e w' ⟨rfl, rfl⟩)
  go_ret
  exact ⟨rfl, HB.out⟩
/-- So many are sorted. -/
def sortTo (E : List Ent) (k : Nat) : List Ent := ((E.take k).foldl (insBy Ent.key) []).reverse ++ E.drop k
def sortEnts (E : List Ent) : List Ent := sortBy Ent.key E

theorem sortTo_length (E : List Ent) (k : Nat) : (sortTo E k).length = E.length := by
  simp [sortTo, foldl_insBy_length]; omega
theorem sortTo_start (E : List Ent) : sortTo E 1 = E := by
  cases E with
  | nil => rfl
  | cons x E => simp [sortTo, insBy]
theorem sortTo_end (E : List Ent) {k : Nat} (h : E.length ≤ k) : sortTo E k = sortEnts E := by
  simp [sortTo, sortEnts, sortBy, List.take_of_length_le h, List.drop_eq_nil_of_le h]
theorem sortTo_step (E : List Ent) {k : Nat} (h : k < E.length) : ∃ A x B, sortTo E k = A ++ x :: B ∧ A.length = k ∧ sortTo E (k + 1) = (insBy Ent.key A.reverse x).reverse ++ B := by
  refine ⟨((E.take k).foldl (insBy Ent.key) []).reverse, E[k], E.drop (k + 1), ?_, ?_, ?_⟩
  · rw [sortTo, ← List.drop_eq_getElem_cons h]
  · simp [foldl_insBy_length]; omega
  · rw [sortTo, List.take_succ_eq_append_getElem h, List.foldl_append, List.reverse_reverse]; rfl

/-- The row of number i, where one is taken out of the middle. -/
theorem row_at (A : List Ent) (x : Ent) (B : List Ent) : ((A ++ x :: B).map entRow)[A.length]? = some (entRow x) := by
  rw [List.getElem?_map, List.getElem?_append_right (Nat.le_refl _)]; simp

theorem swap_rows (A : List Ent) (p x : Ent) (B : List Ent) {q : Nat} (h : A.length = q) :
    (((A.concat p ++ x :: B).map entRow).set (q + 1) (entRow p)).set q (entRow x) = (A ++ x :: p :: B).map entRow := by
  subst h
  have : (A.concat p ++ x :: B).map entRow = A.map entRow ++ entRow p :: entRow x :: B.map entRow := by simp
  rw [this, List.set_append_right _ _ (by simp), List.set_append_right _ _ (by simp)]
  simp
theorem insRev_step (A : List Ent) (p x : Ent) (B : List Ent) (h : x.key < p.key) : (insBy Ent.key (A.concat p).reverse x).reverse ++ B = (insBy Ent.key A.reverse x).reverse ++ p :: B := by
  simp [insBy, h]
theorem insRev_stop (A : List Ent) (x : Ent) (B : List Ent) (h : ∀ (p : Ent) (A' : List Ent), A = A'.concat p → ¬ x.key < p.key) : (insBy Ent.key A.reverse x).reverse ++ B = A ++ x :: B := by
  rcases List.eq_nil_or_concat A with rfl | ⟨A', p, rfl⟩
  · rfl
  · have := h p A' rfl
    simp [insBy, this]

set_option maxRecDepth 100000 in
set_option maxHeartbeats 1600000 in
theorem insertionSort_any (g cap n : Nat) (E : List Ent) (w : World) (hn : E.length = n) (hn2 : n ≤ 140737488351232) (hr : RowsBlk w g 38 3 (E.map entRow)) :
    Calls Tryz.prog 110 #[.slice (some ⟨g, 0, none⟩) n cap, .int .i64 0, .int .i64 n, .func (.func 58) #[] #[]] w fun e w' =>
      e = .returned (.tuple #[]) ∧ Chg (· = g) w w' ∧ RowsBlk w' g 38 3 ((sortEnts E).map entRow) := by
  have HR := Lib.hid hr
  have HN := Lib.hid hn
  clear hr hn
  go_enter Tryz.func110, Tryz.ntmps110
  go_wp2
  go_loopw [8] (fun i wr => ∃ k : Nat, 1 ≤ k ∧ k ≤ n + 1 ∧ i = .int .i64 k ∧ Chg (· = g) w wr ∧ RowsBlk wr g 38 3 ((sortTo E k).map entRow)) (fun i _ => n + 1 - (intOf i).toNat)
  case atStart => exact ⟨1, by omega, by omega, rfl, Chg.refl _ _, by rw [sortTo_start]; exact HR.out⟩
  case round =>
    obtain ⟨k, hk1, hk, rfl, hch, hrow⟩ := hrel
    have HROW := Lib.hid hrow
    have HCH := Lib.hid hch
    clear hrow hch
    by_cases hlt : k < n
    · obtain ⟨A0, x, B0, hs0, hA0, hs1⟩ := sortTo_step E (k := k) (by have := HN.out; omega)
      have HS0 := Lib.hid hs0
      have HS1 := Lib.hid hs1
      have HA0 := Lib.hid hA0
      clear hs0 hs1 hA0
      go_wp2
      obtain ⟨wo, rfl⟩ : ∃ wo : World, wo = wr := ⟨_, rfl⟩
      go_loopw [9] (fun j wr => ∃ (q : Nat) (A B : List Ent), A.length = q ∧ q ≤ k ∧ j = .int .i64 q ∧ Chg (· = g) w wr ∧ RowsBlk wr g 38 3 ((A ++ x :: B).map entRow) ∧ (insBy Ent.key A.reverse x).reverse ++ B = sortTo E (k + 1)) (fun j _ => (intOf j).toNat)
      case atStart => exact ⟨k, A0, B0, HA0.out, by omega, rfl, HCH.out, by rw [← HS0.out]; exact HROW.out, HS1.out.symm⟩
      case round =>
        obtain ⟨q, A, B, hA, hq, rfl, hch, hrow, hfin⟩ := hrel
        have HFIN := Lib.hid hfin
        have HROW := Lib.hid hrow
        have HCH := Lib.hid hch
        have HA := Lib.hid hA
        clear hrow hfin hch hA
        rcases List.eq_nil_or_concat A with rfl | ⟨A', p, rfl⟩
        · obtain rfl : q = 0 := by have := HA.out; simp at this; omega
          clear HA
          go_wp2
          (refine wp_region_lines (Below wr.heap.size wr) (by kernel_rfl) (by kernel_rfl) (Below.refl _ _).drew ?_)
          have hS := (Below.refl wr.heap.size wr).drew
          (try simp only [])
          repeat (first | (refine runL_no (by rfl) ?_; (try simp only [Act.put, List.setIfInBounds_toArray, List.set_cons_zero, List.set_cons_succ])) | (refine runL_val (v := ?_) (by rfl) ?_ ?_; rotate_left; (focus (intro w_ hw_; have hc_ := bcell hw_; go_simp; (try with_reducible rfl); done)); (try simp only [Act.put, List.setIfInBounds_toArray, List.set_cons_zero, List.set_cons_succ])) | (refine runL_call (f := ?_) (args := ?_) (w1 := ?_) (by rfl) (by rfl) ?_ ?_; rotate_left 3; (focus (go_simp; refine ⟨⟨?_, ?_⟩, ?_⟩ <;> with_reducible rfl)); refine (own1_any _ _ _ _ _ _ _).mono ?_; rintro e w1 ⟨rfl, hb1⟩; replace hS := hS.trans (hb1.mono hS.size); refine ⟨_, rfl, .inr hS, ?_⟩; clear hb1; (try simp only [Act.put, List.setIfInBounds_toArray, List.set_cons_zero, List.set_cons_succ])))
          (refine runL_nil ?_)
          have hch1 : Chg (· = g) w wr.drew := HCH.out.drew
          have HCH1 := Lib.hid hch1
          clear hch1 hS HCH
          go_wp2
          go_roundw
          case rel => exact ⟨k + 1, by omega, by omega, by go_num, HCH1.out, by rw [← HFIN.out]; exact HROW.out⟩
          case measure => simp [intOf]; omega
        · obtain ⟨q', rfl⟩ : ∃ q', q = q' + 1 := ⟨A'.length, by have := HA.out; simp at this; omega⟩
          have hA' : A'.length = q' := by have := HA.out; simp at this; omega
          have e1 : (A'.concat p ++ x :: B).map entRow = (A'.concat p).map entRow ++ entRow x :: B.map entRow := by simp
          have r1 : ((A'.concat p ++ x :: B).map entRow)[q' + 1]? = some (entRow x) := by rw [← hA']; have := row_at (A'.concat p) x B; rw [List.length_concat] at this; exact this
          have r0 : ((A'.concat p ++ x :: B).map entRow)[q']? = some (entRow p) := by rw [← hA']; have := row_at A' p (x :: B); rw [List.concat_eq_append, List.append_assoc]; exact this
          have c0 := HROW.out.cell r0 (j := 0) (by rfl)
          have c1 := HROW.out.cell r0 (j := 1) (by rfl)
          have c2 := HROW.out.cell r0 (j := 2) (by rfl)
          have d0 := HROW.out.cell r1 (j := 0) (by rfl)
          have d1 := HROW.out.cell r1 (j := 1) (by rfl)
          have d2 := HROW.out.cell r1 (j := 2) (by rfl)
          have hg := HROW.out.lt
          simp only [Nat.add_zero] at c0 d0
          clear r0 r1 e1 hA'
          have i0 : (0 : Int) ≤ (q' : Int) + 1 := by omega
          have i1 : (q' : Int) + 1 < (n : Int) := by omega
          have i2 : (0 : Int) ≤ (q' : Int) := by omega
          have i3 : (q' : Int) < (n : Int) := by omega
          have i5 : IntKind.i64.wrap (q' : Int) = (q' : Int) := IntWalk.i64_in _ (by omega)
          by_cases hc : x.key < p.key
          · have hd : decide (cmpN x.key p.key < 0) = true := by simp [cmpN, hc]
            go_wp2
            (refine wp_region_lines (Below wr.heap.size wr) (by kernel_rfl) (by kernel_rfl) (Below.refl _ _).drew ?_)
            have hS := (Below.refl wr.heap.size wr).drew
            (try simp only [])
            repeat (first | (refine runL_no (by rfl) ?_; (try simp only [Act.put, List.setIfInBounds_toArray, List.set_cons_zero, List.set_cons_succ])) | (refine runL_val (v := ?_) (by rfl) ?_ ?_; rotate_left; (focus (intro w_ hw_; have hc_ := bcell hw_; go_simp; (try with_reducible rfl); done)); (try simp only [Act.put, List.setIfInBounds_toArray, List.set_cons_zero, List.set_cons_succ])) | (refine runL_call (f := ?_) (args := ?_) (w1 := ?_) (by rfl) (by rfl) ?_ ?_; rotate_left 3; (focus (go_simp; refine ⟨⟨?_, ?_⟩, ?_⟩ <;> with_reducible rfl)); refine (own1_any _ _ _ _ _ _ _).mono ?_; rintro e w1 ⟨rfl, hb1⟩; replace hS := hS.trans (hb1.mono hS.size); refine ⟨_, rfl, .inr hS, ?_⟩; clear hb1; (try simp only [Act.put, List.setIfInBounds_toArray, List.set_cons_zero, List.set_cons_succ])))
            (refine runL_nil ?_)
            have hrw : RowsBlk w1 g 38 3 ((A'.concat p ++ x :: B).map entRow) := HROW.out.keep (hS.block g hg)
            have hch1 : Chg (· = g) w w1 := HCH.out.trans (.of_below hS)
            have HRW := Lib.hid hrw
            have HCH1 := Lib.hid hch1
            have c0' := (hS.cell (p := ⟨g, q' * 3, none⟩) hg).trans c0
            have c1' := (hS.cell (p := ⟨g, q' * 3 + 1, none⟩) hg).trans c1
            have c2' := (hS.cell (p := ⟨g, q' * 3 + 2, none⟩) hg).trans c2
            have d0' := (hS.cell (p := ⟨g, (q' + 1) * 3, none⟩) hg).trans d0
            have d1' := (hS.cell (p := ⟨g, (q' + 1) * 3 + 1, none⟩) hg).trans d1
            have d2' := (hS.cell (p := ⟨g, (q' + 1) * 3 + 2, none⟩) hg).trans d2
            have f0 := hrw.frozen
            have hlen : ((A'.concat p ++ x :: B).map entRow).length = A'.length + 2 + B.length := by simp; omega
            have hA' : A'.length = q' := by have := HA.out; simp at this; omega
            obtain ⟨_, ⟨t1, k1⟩, ⟨t2, k2⟩⟩ := hrw.mid3 (i := q' + 1) (by omega) (.int .u64 p.key) (.slice p.ad p.n p.c)
            have hr2 := hrw.set3 (i := q' + 1) (by omega) (.int .u64 p.key) (.slice p.ad p.n p.c) (.bool p.wr)
            obtain ⟨⟨t3, k3⟩, ⟨t4, k4⟩, ⟨t5, k5⟩⟩ := hr2.mid3 (i := q') (by simp; omega) (.int .u64 x.key) (.slice x.ad x.n x.c)
            have hr3 := hr2.set3 (i := q') (by simp; omega) (.int .u64 x.key) (.slice x.ad x.n x.c) (.bool x.wr)
            have HR3 := Lib.hid hr3
            have HA' := Lib.hid hA'
            clear hlen hA' hr2 hr3
            clear hrw hch1 c0 c1 c2 d0 d1 d2 hd hS HROW HCH
            go_wp2
            go_region
            go_wp2
            go_roundw
            case rel => exact ⟨q', A', p :: B, HA'.out, by omega, by go_num, (((((((HCH1.out.setCell (.inl rfl) _).setCell (.inl rfl) _).setCell (.inl rfl) _).setCell (.inl rfl) _).setCell (.inl rfl) _).setCell (.inl rfl) _).drew), (by rw [← swap_rows A' p x B HA'.out]; exact (RowsBlk.drew HR3.out)), by rw [← insRev_step A' p x B hc]; exact HFIN.out⟩
            case measure => simp [intOf]
          · have hd : decide (cmpN x.key p.key < 0) = false := by simp only [cmpN, if_neg hc]; split <;> decide
            go_wp2
            (refine wp_region_lines (Below wr.heap.size wr) (by kernel_rfl) (by kernel_rfl) (Below.refl _ _).drew ?_)
            have hS := (Below.refl wr.heap.size wr).drew
            (try simp only [])
            repeat (first | (refine runL_no (by rfl) ?_; (try simp only [Act.put, List.setIfInBounds_toArray, List.set_cons_zero, List.set_cons_succ])) | (refine runL_val (v := ?_) (by rfl) ?_ ?_; rotate_left; (focus (intro w_ hw_; have hc_ := bcell hw_; go_simp; (try with_reducible rfl); done)); (try simp only [Act.put, List.setIfInBounds_toArray, List.set_cons_zero, List.set_cons_succ])) | (refine runL_call (f := ?_) (args := ?_) (w1 := ?_) (by rfl) (by rfl) ?_ ?_; rotate_left 3; (focus (go_simp; refine ⟨⟨?_, ?_⟩, ?_⟩ <;> with_reducible rfl)); refine (own1_any _ _ _ _ _ _ _).mono ?_; rintro e w1 ⟨rfl, hb1⟩; replace hS := hS.trans (hb1.mono hS.size); refine ⟨_, rfl, .inr hS, ?_⟩; clear hb1; (try simp only [Act.put, List.setIfInBounds_toArray, List.set_cons_zero, List.set_cons_succ])))
            (refine runL_nil ?_)
            have hrw : RowsBlk w1 g 38 3 ((A'.concat p ++ x :: B).map entRow) := HROW.out.keep (hS.block g hg)
            have hch1 : Chg (· = g) w w1 := HCH.out.trans (.of_below hS)
            have HRW := Lib.hid hrw
            have HCH1 := Lib.hid hch1
            clear hrw hch1 c0 c1 c2 d0 d1 d2 hd hS HROW HCH
            go_wp2
            go_roundw
            case rel => exact ⟨k + 1, by omega, by omega, by go_num, HCH1.out, by
              rw [← HFIN.out, insRev_stop _ _ _ (fun p' A'' he => by rw [List.concat_eq_append, List.concat_eq_append] at he; obtain ⟨_, h2⟩ := List.append_inj' he rfl; cases h2; exact hc)]
              exact HRW.out⟩
            case measure => simp [intOf]; omega
    · go_wp2
      go_end0
      exact ⟨rfl, HCH.out, by rw [← sortTo_end E (k := k) (by have := HN.out; omega)]; exact HROW.out⟩
end Go.Proofs.YtmanhikpccnfaaaGreat

/- slices.SortFunc over regions, of at most 12: the sort by insertion. -/
namespace Go.Proofs.YtmanhikpccnfaaaGreat
open Go.RowKit

set_option maxRecDepth 100000 in
set_option maxHeartbeats 400000 in
theorem insertionSort_zero (A : Option Addr) (cap : Nat) (f : Value) (w : World) :
    Calls Tryz.prog 110 #[.slice A 0 cap, .int .i64 0, .int .i64 0, f] w fun e w' => e = .returned (.tuple #[]) ∧ w = w' := by
  go_enter Tryz.func110, Tryz.ntmps110
  go_wp2
  refine wp_loop_rounds 1 ?_
  rw [rounds_succ]
  go_wp2
  go_end0
  exact ⟨rfl, rfl⟩

set_option maxRecDepth 100000 in
set_option maxHeartbeats 400000 in
theorem pdqsort_any (g cap n : Nat) (E : List Ent) (lim : Int) (w : World) (hn : E.length = n) (hn2 : n ≤ 12) (hr : RowsBlk w g 38 3 (E.map entRow)) :
    Calls Tryz.prog 78 #[.slice (some ⟨g, 0, none⟩) n cap, .int .i64 0, .int .i64 n, .int .i64 lim, .func (.func 58) #[] #[]] w fun e w' =>
      e = .returned (.tuple #[]) ∧ Chg (· = g) w w' ∧ RowsBlk w' g 38 3 ((sortEnts E).map entRow) := by
  have H := Lib.hid (insertionSort_any g cap n E w hn (by omega) hr)
  have h12 : (n : Int) ≤ 12 := by omega
  clear hn hr
  go_enter Tryz.func78, Tryz.ntmps78
  go_wp2
  refine wp_loop_rounds 1 ?_
  rw [rounds_succ]
  go_wp2_with ((with_reducible refine (H.out).mono ?_); rintro e w1 ⟨rfl, hch, hrow⟩)
  refine bodyPost_ret (v := .tuple #[]) (results_none rfl _ _ _) rfl ?_
  exact ⟨rfl, hch, hrow⟩

set_option maxRecDepth 100000 in
set_option maxHeartbeats 400000 in
theorem pdqsort_zero (A : Option Addr) (cap : Nat) (lim : Int) (f : Value) (w : World) :
    Calls Tryz.prog 78 #[.slice A 0 cap, .int .i64 0, .int .i64 0, .int .i64 lim, f] w fun e w' => e = .returned (.tuple #[]) ∧ w = w' := by
  have H := Lib.hid (insertionSort_zero A cap f w)
  go_enter Tryz.func78, Tryz.ntmps78
  go_wp2
  refine wp_loop_rounds 1 ?_
  rw [rounds_succ]
  go_wp2_with ((with_reducible refine (H.out).mono ?_); rintro e w1 ⟨rfl, rfl⟩)
  refine bodyPost_ret (v := .tuple #[]) (results_none rfl _ _ _) rfl ?_
  exact ⟨rfl, rfl⟩

set_option maxHeartbeats 400000 in
theorem SortFunc_any (g cap n : Nat) (E : List Ent) (w : World) (hn : E.length = n) (hn2 : n ≤ 12) (hr : RowsBlk w g 38 3 (E.map entRow)) :
    Calls Tryz.prog 57 #[.slice (some ⟨g, 0, none⟩) n cap, .func (.func 58) #[] #[]] w fun e w' =>
      e = .returned (.tuple #[]) ∧ Chg (· = g) w w' ∧ RowsBlk w' g 38 3 ((sortEnts E).map entRow) := by
  have H := fun lim => pdqsort_any g cap n E lim w hn hn2 hr
  have H := Lib.hid H
  have h0 : (0 : Int) ≤ n := by omega
  have h1 : (n : Int) ≤ 18446744073709551615 := by omega
  clear hn hr
  go_enter Tryz.func57, Tryz.ntmps57
  go_wp2_with (first | (go_at_call 79; (refine (Tryz.bits_Len _ _ (by omega) (by omega)).mono ?_); rintro e w1 ⟨rfl, rfl⟩) | ((with_reducible refine (H.out _).mono ?_); rintro e w1 ⟨rfl, hch, hrow⟩))
  go_end0
  exact ⟨rfl, hch, hrow⟩

set_option maxHeartbeats 400000 in
theorem SortFunc_zero (A : Option Addr) (cap : Nat) (f : Value) (w : World) :
    Calls Tryz.prog 57 #[.slice A 0 cap, f] w fun e w' => e = .returned (.tuple #[]) ∧ w = w' := by
  have H := fun lim => pdqsort_zero A cap lim f w
  have H := Lib.hid H
  go_enter Tryz.func57, Tryz.ntmps57
  go_wp2_with (first | (go_at_call 79; (refine (Tryz.bits_Len _ _ (by omega) (by omega)).mono ?_); rintro e w1 ⟨rfl, rfl⟩) | ((with_reducible refine (H.out _).mono ?_); rintro e w1 ⟨rfl, rfl⟩))
  go_end0
  exact ⟨rfl, rfl⟩
end Go.Proofs.YtmanhikpccnfaaaGreat

/- slices.Clone, of bytes and of regions. -/
namespace Go.Proofs.YtmanhikpccnfaaaGreat
open Go.RowKit

theorem infoU8 : (Tryz.prog.info? 5).map (fun i => (i.zero, i.size, i.bytes)) = some (some (.int .u8 0), 1, 1) := by kernel_rfl
theorem infoReg : (Tryz.prog.info? 38).map (fun i => (i.zero, i.size, i.bytes)) = some (some (.agg #[.int .u64 0, .slice none 0 0, .bool false]), 3, 40) := by kernel_rfl

/-- A new block of no cells is a row of no elements of the call's own. -/
theorem own_zero (w : World) (e sz : Nat) : (w.alloc (.cells #[] e)).ownsRow w.heap.size e sz (.slice (some ⟨w.heap.size, 0, none⟩) 0 0) 0 [] :=
  ⟨by simp, .inr ⟨w.heap.size, 0, #[], rfl, Nat.le_refl _, heap_alloc_new w _, Nat.le_refl _, by decide, by simp, by simp⟩⟩

set_option maxHeartbeats 400000 in
theorem CloneB_nil (c : Nat) (w : World) :
    Calls Tryz.prog 56 #[.slice none 0 c] w fun e w' => e = .returned (.slice none 0 0) ∧ Below w.heap.size w w' := by
  go_enter Tryz.func56, Tryz.ntmps56
  have h0 := fun (w : World) => Lib.run_eql_slice_nil (P := Tryz.prog) w 36 5 none 0 c 0 0 Tryz.underlying36
  go_wp2
  go_ret
  exact ⟨rfl, Below.refl _ _⟩

set_option maxHeartbeats 400000 in
theorem CloneB_some (ad : Addr) (n c : Nat) (w : World) (news : List Value) (hl : news.length = n * 1) (hc : ∀ (j : Nat) (u : Value), news[j]? = some u → w.cell? (ad.add j) = some u) (h1 : ∀ u ∈ news, u.oneCell' = true) (hn : n ≤ 140737488351232) :
    Calls Tryz.prog 56 #[.slice (some ad) n c] w fun e w' => ∃ v, e = .returned v ∧ w'.ownsRow w.heap.size 5 1 v n news ∧ Below w.heap.size w w' := by
  obtain ⟨i0, hi, hz0, hz1, hz2⟩ := info_parts infoU8
  have h0 := fun (w : World) => Lib.run_eql_slice_nil (P := Tryz.prog) w 36 5 (some ad) n c 0 0 Tryz.underlying36
  have hc2 : ∀ (j : Nat) (u : Value), news[j]? = some u → (w.alloc (.cells #[] 5)).cell? (ad.add j) = some u := fun j u hu => by
    have := hc j u hu
    rw [World.cell?_alloc_lt _ _ _ (World.block_lt_of_cell? w _ this)]; exact this
  have HC := Lib.hid hc2
  have HL := Lib.hid hl
  have H1 := Lib.hid h1
  clear hc hc2 hl h1
  go_enter Tryz.func56, Tryz.ntmps56
  go_wp2_with ((at_builtin; refine wpList_append_own_at _ rfl _ _ 36 rfl w.heap.size 5 i0 (.int .u8 0) 1 1 Tryz.underlying36 hi hz0 hz1 hz2 rfl (by decide) _ 0 [] rfl (own_zero w _ _) ad n c news rfl HL.out HC.out H1.out (by unfold maxLen; omega) (by omega) (by simp) ?_); intro v w1 hown hg _ _)
  go_ret
  exact ⟨v, rfl, by simpa using hown, ((Below.refl _ _).alloc (Nat.le_refl _) _).grown hg (by simp) (fun k hk => Nat.le_of_eq (Option.some.inj hk))⟩

theorem CloneB_rows (v : Value) (w : World) (F : Nat → Prop) (rows : List (List Value)) (hr : Rows w F 1 v rows) (h1 : ∀ u ∈ rows.flatten, u.oneCell' = true) (hn : rows.length ≤ 3518437208000) :
    Calls Tryz.prog 56 #[v] w fun e w' => ∃ v, e = .returned v ∧ w'.ownsRow w.heap.size 5 1 v rows.length rows.flatten ∧ Below w.heap.size w w' := by
  have hr' := hr
  obtain ⟨A, c, rfl, hc, hl, hne⟩ := hr'
  cases A with
  | none =>
    have h0 : rows = [] := by
      rcases rows with _ | ⟨r, rs⟩
      · rfl
      · obtain ⟨b, off, hA, _⟩ := hne (by simp); cases hA
    subst h0
    refine (CloneB_nil c w).mono ?_
    rintro e w' ⟨rfl, hb⟩
    exact ⟨_, rfl, ⟨by simp, .inl ⟨rfl, rfl⟩⟩, hb⟩
  | some ad =>
    obtain ⟨hfl, hfc⟩ := hr.flat (by decide)
    exact CloneB_some ad rows.length c w rows.flatten hfl hfc h1 (by omega)

set_option maxHeartbeats 400000 in
theorem CloneR_nil (c : Nat) (w : World) :
    Calls Tryz.prog 55 #[.slice none 0 c] w fun e w' => e = .returned (.slice none 0 0) ∧ Below w.heap.size w w' := by
  go_enter Tryz.func55, Tryz.ntmps55
  have h0 := fun (w : World) => Lib.run_eql_slice_nil (P := Tryz.prog) w 30 38 none 0 c 0 0 Tryz.underlying30
  go_wp2
  go_ret
  exact ⟨rfl, Below.refl _ _⟩

set_option maxHeartbeats 400000 in
theorem CloneR_some (ad : Addr) (n c : Nat) (w : World) (news : List Value) (hl : news.length = n * 3) (hc : ∀ (j : Nat) (u : Value), news[j]? = some u → w.cell? (ad.add j) = some u) (h1 : ∀ u ∈ news, u.oneCell' = true) (hn : n ≤ 3518437208000) :
    Calls Tryz.prog 55 #[.slice (some ad) n c] w fun e w' => ∃ v, e = .returned v ∧ w'.ownsRow w.heap.size 38 3 v n news ∧ Below w.heap.size w w' := by
  obtain ⟨i0, hi, hz0, hz1, hz2⟩ := info_parts infoReg
  have h0 := fun (w : World) => Lib.run_eql_slice_nil (P := Tryz.prog) w 30 38 (some ad) n c 0 0 Tryz.underlying30
  have hc2 : ∀ (j : Nat) (u : Value), news[j]? = some u → (w.alloc (.cells #[] 38)).cell? (ad.add j) = some u := fun j u hu => by
    have := hc j u hu
    rw [World.cell?_alloc_lt _ _ _ (World.block_lt_of_cell? w _ this)]; exact this
  have HC := Lib.hid hc2
  have HL := Lib.hid hl
  have H1 := Lib.hid h1
  clear hc hc2 hl h1
  go_enter Tryz.func55, Tryz.ntmps55
  go_wp2_with ((at_builtin; refine wpList_append_own_at _ rfl _ _ 30 rfl w.heap.size 38 i0 (.agg #[.int .u64 0, .slice none 0 0, .bool false]) 3 40 Tryz.underlying30 hi hz0 hz1 hz2 rfl (by decide) _ 0 [] rfl (own_zero w _ _) ad n c news rfl HL.out HC.out H1.out (by unfold maxLen; omega) (by omega) (by simp) ?_); intro v w1 hown hg _ _)
  go_ret
  exact ⟨v, rfl, by simpa using hown, ((Below.refl _ _).alloc (Nat.le_refl _) _).grown hg (by simp) (fun k hk => Nat.le_of_eq (Option.some.inj hk))⟩

theorem CloneR_rows (v : Value) (w : World) (F : Nat → Prop) (rows : List (List Value)) (hr : Rows w F 3 v rows) (h1 : ∀ u ∈ rows.flatten, u.oneCell' = true) (hn : rows.length ≤ 3518437208000) :
    Calls Tryz.prog 55 #[v] w fun e w' => ∃ v, e = .returned v ∧ w'.ownsRow w.heap.size 38 3 v rows.length rows.flatten ∧ Below w.heap.size w w' := by
  have hr' := hr
  obtain ⟨A, c, rfl, hc, hl, hne⟩ := hr'
  cases A with
  | none =>
    have h0 : rows = [] := by
      rcases rows with _ | ⟨r, rs⟩
      · rfl
      · obtain ⟨b, off, hA, _⟩ := hne (by simp); cases hA
    subst h0
    refine (CloneR_nil c w).mono ?_
    rintro e w' ⟨rfl, hb⟩
    exact ⟨_, rfl, ⟨by simp, .inl ⟨rfl, rfl⟩⟩, hb⟩
  | some ad =>
    obtain ⟨hfl, hfc⟩ := hr.flat (by decide)
    exact CloneR_some ad rows.length c w rows.flatten hfl hfc h1 (by omega)

end Go.Proofs.YtmanhikpccnfaaaGreat

/- memory.own: regions on their own, by their addresses. -/
namespace Go.Proofs.YtmanhikpccnfaaaGreat
open Go.RowKit

def byteRows (l : List UInt8) : List (List Value) := l.map fun x => [byteV x]
theorem byteRows_len (l : List UInt8) : ∀ r ∈ byteRows l, r.length = 1 := by
  intro r hr
  obtain ⟨x, _, rfl⟩ := List.mem_map.1 hr
  rfl
theorem byteRows_one (l : List UInt8) : ∀ u ∈ (byteRows l).flatten, u.oneCell' = true := by
  intro u hu
  obtain ⟨r, hr, hu⟩ := List.mem_flatten.1 hu
  obtain ⟨x, _, rfl⟩ := List.mem_map.1 hr
  simp at hu
  subst hu
  rfl
theorem entRows_one (P : List (Reg × Ent)) : ∀ u ∈ (P.map fun x => entRow x.2).flatten, u.oneCell' = true := by
  intro u hu
  obtain ⟨r, hr, hu⟩ := List.mem_flatten.1 hu
  obtain ⟨x, _, rfl⟩ := List.mem_map.1 hr
  simp [entRow] at hu
  rcases hu with rfl | rfl | rfl <;> rfl
theorem entRows_len (P : List (Reg × Ent)) : ∀ r ∈ P.map (fun x => entRow x.2), r.length = 3 := by
  intro r hr
  obtain ⟨x, _, rfl⟩ := List.mem_map.1 hr
  rfl

/-- The cells hold the region, whose bytes lie in a block of F of their own. -/
structure EntOwn (w : World) (F : Nat → Prop) (r : Reg) (e : Ent) : Prop where
  key : e.key = r.base
  n : e.n = r.bytes.length
  wr : e.wr = r.write
  cap : e.n ≤ e.c
  blk : ∃ bb, e.ad = some ⟨bb, 0, none⟩ ∧ F bb ∧ RowsBlk w bb 5 1 (byteRows r.bytes)

theorem EntOwn.keep {w w' : World} {F : Nat → Prop} {r : Reg} {e : Ent} (h : EntOwn w F r e) (hk : SameOn F w w') : EntOwn w' F r e := by
  obtain ⟨bb, h1, h2, h3⟩ := h.blk
  exact ⟨h.key, h.n, h.wr, h.cap, bb, h1, h2, h3.keep (hk bb h2)⟩
theorem EntOwn.mono {w : World} {F G : Nat → Prop} {r : Reg} {e : Ent} (h : EntOwn w F r e) (hk : ∀ k, F k → G k) : EntOwn w G r e := by
  obtain ⟨bb, h1, h2, h3⟩ := h.blk
  exact ⟨h.key, h.n, h.wr, h.cap, bb, h1, hk _ h2, h3⟩

/-- A slice of regions in blocks of F of its own. -/
def RegsOwn (w : World) (F : Nat → Prop) (v : Value) (l : List Reg) : Prop :=
  ∃ (A : Option Addr) (c : Nat) (P : List (Reg × Ent)), v = .slice A l.length c ∧ l.length ≤ c ∧ P.map (·.1) = l ∧ (∀ x ∈ P, EntOwn w F x.1 x.2) ∧ (P.map (·.2.ad)).Nodup ∧
    (l ≠ [] → ∃ g, A = some ⟨g, 0, none⟩ ∧ F g ∧ RowsBlk w g 38 3 (P.map fun x => entRow x.2))

theorem RegsOwn.keep {w w' : World} {F : Nat → Prop} {v : Value} {l : List Reg} (h : RegsOwn w F v l) (hk : SameOn F w w') : RegsOwn w' F v l := by
  obtain ⟨A, c, P, h1, h2, h3, h4, h5, h6⟩ := h
  refine ⟨A, c, P, h1, h2, h3, fun x hx => (h4 x hx).keep hk, h5, fun hne => ?_⟩
  obtain ⟨g, hA, hF, hr⟩ := h6 hne
  exact ⟨g, hA, hF, hr.keep (hk g hF)⟩

def seg (s e : Nat) : Nat → Prop := fun k => s ≤ k ∧ k < e

/-- Blocks of different element types are different. -/
theorem RowsBlk.ne {w : World} {g g' e e' sz sz' : Nat} {rows rows' : List (List Value)} (h : RowsBlk w g e sz rows) (h' : RowsBlk w g' e' sz' rows') (hne : e ≠ e') : g ≠ g' := by
  rintro rfl
  obtain ⟨c, h1, _⟩ := h
  obtain ⟨c', h1', _⟩ := h'
  rw [h1] at h1'
  injection h1' with h1'
  injection h1' with _ he
  exact hne he

/-- It reads as regions. -/
theorem RegsOwn.at_ {w : World} {F : Nat → Prop} {v : Value} {l : List Reg} (h : RegsOwn w F v l) (hb : ∀ r ∈ l, r.base < 18446744073709551616 ∧ r.bytes.length ≤ 9223372036854775807) : RegsAt w F v l := by
  obtain ⟨A, c, P, h1, h2, h3, h4, h5, h6⟩ := h
  have hlen : P.length = l.length := by rw [← h3]; simp
  refine ⟨P, h3, ⟨A, c, by rw [h1]; simp [hlen], by simpa [hlen] using h2, entRows_len P, fun hne => ?_⟩, fun x hx => ?_⟩
  · obtain ⟨g, hA, hF, hr⟩ := h6 (fun e => hne (by rw [e] at hlen; simp [List.eq_nil_of_length_eq_zero hlen]))
    refine ⟨g, 0, hA, hF, fun i j r u hi hj => ?_⟩
    rw [Nat.zero_add]
    exact hr.cell hi hj
  · have hx4 := h4 x hx
    obtain ⟨bb, b1, b2, b3⟩ := hx4.blk
    have hxl : x.1 ∈ l := by rw [← h3]; exact List.mem_map_of_mem hx
    refine ⟨hx4.key, hx4.n, hx4.wr, ⟨x.2.ad, x.2.c, by simp [hx4.n], by simpa [hx4.n] using (hx4.n ▸ hx4.cap), byteRows_len _, fun _ => ⟨bb, 0, b1, b2, fun i j r u hi hj => ?_⟩⟩, (hb _ hxl).1, (hb _ hxl).2⟩
    rw [Nat.zero_add]
    exact b3.cell hi hj

/-- .. where only a block of another element type changed. -/
theorem EntOwn.keep2 {w w' : World} {F G : Nat → Prop} {r : Reg} {e : Ent} {g t sz : Nat} {rows : List (List Value)} (h : EntOwn w F r e) (hg : RowsBlk w g t sz rows) (ht : 5 ≠ t)
    (hk : ∀ k, k < w.heap.size → k ≠ g → w'.heap[k]? = w.heap[k]?) (hG : ∀ k, F k → k < w.heap.size → G k) : EntOwn w' G r e := by
  obtain ⟨bb, h1, h2, h3⟩ := h.blk
  exact ⟨h.key, h.n, h.wr, h.cap, bb, h1, hG _ h2 h3.lt, h3.keep (hk bb h3.lt (h3.ne hg ht))⟩

theorem set_mid (P1 P2 : List (Reg × Ent)) (x : Reg × Ent) {k : Nat} (hk : P1.length = k) (A : Option Addr) (n c : Nat) :
    ((P1 ++ x :: P2).map fun x => entRow x.2).set k ((entRow x.2).set 1 (.slice A n c)) = ((P1 ++ [((x.1, ⟨x.2.key, A, n, c, x.2.wr⟩) : Reg × Ent)]) ++ P2).map fun x => entRow x.2 := by
  subst hk
  rw [List.map_append, List.map_cons, List.set_append_right _ _ (by simp)]
  simp [entRow]

theorem ad_new {w : World} {F : Nat → Prop} {P : List (Reg × Ent)} (h : ∀ x ∈ P, EntOwn w F x.1 x.2) (hn : (P.map (·.2.ad)).Nodup) {bb : Nat} (hb : w.heap.size ≤ bb) (x : Reg × Ent) (hx : x.2.ad = some ⟨bb, 0, none⟩) : ((P ++ [x]).map (·.2.ad)).Nodup := by
  rw [List.map_append, List.nodup_append]
  refine ⟨hn, by simp, fun a ha b hb' => ?_⟩
  obtain ⟨y, hy, rfl⟩ := List.mem_map.1 ha
  simp only [List.map_cons, List.map_nil, List.mem_singleton] at hb'
  subst hb'
  obtain ⟨b2, h1, _, h3⟩ := (h y hy).blk
  rw [hx, h1]
  intro he
  cases he
  have := h3.lt
  omega

set_option maxRecDepth 100000 in
set_option maxHeartbeats 800000 in
theorem own_any (v : Value) (w : World) (F : Nat → Prop) (l : List Reg) (hl : RegsAt w F v l) (hF : ∀ k, F k → k < w.heap.size) (h8 : l.length ≤ 12) (hb : ∀ r ∈ l, r.bytes ≠ [] ∧ r.bytes.length ≤ 1048576) :
    Calls Tryz.prog 35 #[v] w fun e w' => ∃ v', e = .returned v' ∧ RegsOwn w' (seg w.heap.size w'.heap.size) v' (sortBy Reg.base l) ∧ Below w.heap.size w w' := by
  obtain ⟨P, hP, hrows, hsrc⟩ := hl
  obtain ⟨A, c, hv, hc, hlen3, hne⟩ := hrows
  subst hP
  simp only [List.length_map] at hv h8 hc
  subst hv
  rcases Nat.eq_zero_or_pos P.length with h0 | hpos
  · obtain rfl := List.eq_nil_of_length_eq_zero h0
    have HC := Lib.hid (CloneR_rows (.slice A 0 c) w F [] ⟨A, c, rfl, by simp, by simp, by simp⟩ (by simp) (by simp))
    clear hF hsrc hlen3 hne hb h8 hc h0
    go_enter Tryz.func35, Tryz.ntmps35
    go_wp2_with ((with_reducible refine (HC.out).mono ?_); rintro e w1 ⟨v1, rfl, hown, hb1⟩)
    obtain ⟨A1, c1, rfl⟩ : ∃ A1 c1, v1 = .slice A1 0 c1 := by
      rcases hown.2 with ⟨rfl, _⟩ | ⟨g, cap, _, rfl, _⟩
      · exact ⟨_, _, rfl⟩
      · exact ⟨_, _, rfl⟩
    clear hown
    have HB1 := Lib.hid hb1
    clear hb1
    clear HC
    go_wp2
    go_simp
    go_wp2
    refine wp_loop_rounds 1 ?_
    rw [rounds_succ]
    go_wp2_with (go_at_call 57; (refine (SortFunc_zero _ _ _ _).mono ?_); rintro e w2 ⟨rfl, rfl⟩)
    go_ret
    exact ⟨_, rfl, ⟨A1, c1, [], rfl, by simp [sortBy], rfl, by simp, by simp, by simp [sortBy]⟩, HB1.out⟩
  · have HC := Lib.hid (CloneR_rows (.slice A P.length c) w F (P.map fun x => entRow x.2) ⟨A, c, by simp, by simpa using hc, hlen3, hne⟩ (entRows_one P) (by simp; omega))
    have HSRC := Lib.hid hsrc
    have HF := Lib.hid hF
    have HB := Lib.hid hb
    clear hsrc hlen3 hne hb hF
    generalize hn : P.length = n at *
    have HN := Lib.hid hn
    clear hn
    go_enter Tryz.func35, Tryz.ntmps35
    go_wp2_with ((with_reducible refine (HC.out).mono ?_); rintro e w1 ⟨v1, rfl, hown, hb1⟩)
    obtain ⟨g, cap, rfl, hg, hcap, hrow⟩ := rowsBlk_of_own hown (entRows_len P) (by have := HN.out; simp; omega)
    simp only [List.length_map, HN.out] at hcap
    have HROW := Lib.hid hrow
    have HB1 := Lib.hid hb1
    clear hown hrow hb1
    simp only [List.length_map, HN.out]
    clear HC
    go_wp2
    go_simp
    go_wp2
    go_loopw [4, 9] (fun _ i wr => ∃ (k : Nat) (P1 P2 : List (Reg × Ent)), P1.length = k ∧ k ≤ n ∧ i = .int .i64 k ∧ (P1 ++ P2).map (·.1) = P.map (·.1) ∧ Below w.heap.size w wr ∧ RowsBlk wr g 38 3 ((P1 ++ P2).map fun x => entRow x.2) ∧
        (∀ x ∈ P1, EntOwn wr (seg w.heap.size wr.heap.size) x.1 x.2) ∧ (P1.map (·.2.ad)).Nodup ∧ (∀ x ∈ P2, EntSrc w F x.1 x.2)) (fun _ i _ => n - (intOf i).toNat)
    case atStart => exact ⟨0, [], P, rfl, by omega, rfl, rfl, HB1.out, HROW.out, by simp, by simp, HSRC.out⟩
    case round =>
      obtain ⟨k, P1, P2, hk1, hk, rfl, hfst, hbl, hrw, hown, hnd, hsrc⟩ := hrel
      have hlen : (P1 ++ P2).length = n := by have := congrArg List.length hfst; have := HN.out; simp at *; omega
      have HFST := Lib.hid hfst
      have HBL := Lib.hid hbl
      have HRW := Lib.hid hrw
      have HOWN := Lib.hid hown
      have HND := Lib.hid hnd
      have HSRC2 := Lib.hid hsrc
      have HK1 := Lib.hid hk1
      have HLEN := Lib.hid hlen
      clear hfst hbl hrw hown hnd hsrc hk1 hlen HSRC HROW HB1
      by_cases hlt : k < n
      · obtain ⟨x, P2', rfl⟩ : ∃ x P2', P2 = x :: P2' := by
          cases P2 with
          | nil => have := HLEN.out; have := HK1.out; simp at *; omega
          | cons x P2' => exact ⟨x, P2', rfl⟩
        have hx := HSRC2.out x (List.mem_cons_self ..)
        have hxl := HB.out x.1 (by
          have h1 : x.1 ∈ (P1 ++ x :: P2').map (·.1) := by simp
          rw [HFST.out] at h1; exact h1)
        have hri : ((P1 ++ x :: P2').map fun x => entRow x.2)[k]? = some (entRow x.2) := by
          rw [List.getElem?_map, List.getElem?_append_right (by have := HK1.out; omega), show k - P1.length = 0 from by have := HK1.out; omega]; rfl
        have hcell : wr.cell? ⟨g, k * 3 + 1, none⟩ = some (.slice x.2.ad x.2.n x.2.c) := HRW.out.cell hri (j := 1) (by rfl)
        have hg2 := HRW.out.lt
        have HX := Lib.hid hx
        have hxl' := hxl
        have HXL := Lib.hid hxl
        have HRI := Lib.hid hri
        have HCB := Lib.hid (CloneB_rows (.slice x.2.ad x.2.n x.2.c) wr F (byteRows x.1.bytes) (hx.bytes.keep (SameOn.of_below HBL.out HF.out)) (byteRows_one _) (by have := hxl.2; simp [byteRows]; omega))
        clear hx hxl hri
        have i0 : (0 : Int) ≤ (k : Int) := by omega
        have i1 : (k : Int) < (n : Int) := by omega
        have hbn : 0 < (byteRows x.1.bytes).length := by
          have := hxl'.1
          cases hbs : x.1.bytes with
          | nil => exact absurd hbs this
          | cons => simp [byteRows]
        have HBN := Lib.hid hbn
        clear hbn hxl'
        go_wp2_with ((with_reducible refine (HCB.out).mono ?_); rintro e w2 ⟨v2, rfl, hown2, hb2⟩; obtain ⟨bb, cap2, rfl, hbb, hcap2, hrow2⟩ := rowsBlk_of_own hown2 (byteRows_len _) HBN.out; have hcell2 := (hb2.cell (p := ⟨g, k * 3 + 1, none⟩) hg2).trans hcell; have hfr2 := (HRW.out.keep (hb2.block g hg2)).frozen (k * 3 + 1); have HR2 := Lib.hid hrow2; have HC2 := Lib.hid hcap2; have HB2 := Lib.hid hb2; clear hown2 hrow2 hcap2 hb2 hcell)
        go_roundw
        case rel =>
          have hx := HX.out
          refine ⟨k + 1, P1 ++ [(x.1, ⟨x.2.key, some ⟨bb, 0, none⟩, (byteRows x.1.bytes).length, cap2, x.2.wr⟩)], P2', by have := HK1.out; simp; omega, by omega, by go_num, ?_, ?_, ?_, ?_, ?_, fun y hy => HSRC2.out y (List.mem_cons_of_mem _ hy)⟩
          · rw [← HFST.out]; simp
          · exact (HBL.out.trans (HB2.out.mono HBL.out.size)).setCell hg _
          · rw [← set_mid P1 P2' x HK1.out]
            exact (HRW.out.keep (HB2.out.block g hg2)).set_ HRI.out (j := 1) (by decide) _
          · intro y hy
            have hsz : (w2.setCell ⟨g, k * 3 + 1, none⟩ (.slice (some ⟨bb, 0, none⟩) (byteRows x.1.bytes).length cap2)).heap.size = w2.heap.size := by simp [World.setCell]
            have hw2 := HB2.out.size
            have hwr := HBL.out.size
            rcases List.mem_append.1 hy with hy | hy
            · refine (HOWN.out y hy).keep2 HRW.out (by decide) (fun q hq hne => (Below.heap_setCell _ _ _ _ hne).trans (HB2.out.block q hq)) (fun q hq hlq => ⟨hq.1, ?_⟩)
              rw [hsz]; omega
            · simp only [List.mem_singleton] at hy
              subst hy
              have hbbne : bb ≠ g := by omega
              refine ⟨hx.key, by simp [byteRows], hx.wr, HC2.out, bb, rfl, ⟨by omega, by rw [hsz]; exact HR2.out.lt⟩, HR2.out.keep (Below.heap_setCell _ _ _ _ hbbne)⟩
          · exact ad_new HOWN.out HND.out hbb _ rfl
        case measure => simp [intOf]; omega
      · obtain rfl : P2 = [] := by
          have h1 := HLEN.out; have h2 := HK1.out
          cases P2 with
          | nil => rfl
          | cons => simp at h1; omega
        have hlen2 : (P1.map (·.2)).length = n := by have h1 := HLEN.out; simpa using h1
        have hrow2 : RowsBlk wr g 38 3 ((P1.map (·.2)).map entRow) := by have h1 := HRW.out; rw [List.append_nil] at h1; rw [List.map_map]; exact h1
        have HS := Lib.hid (SortFunc_any g cap n (P1.map (·.2)) wr hlen2 h8 hrow2)
        clear hlen2 hrow2
        go_wp2_with ((with_reducible refine (HS.out).mono ?_); rintro e w2 ⟨rfl, hch, hrow3⟩)
        go_ret
        refine ⟨_, rfl, ⟨some ⟨g, 0, none⟩, cap, sortBy (fun x => x.2.key) P1, ?_, ?_, ?_, ?_, ?_, ?_⟩, ?_⟩
        · have h1 := HLEN.out; simp at h1
          have h2 := HN.out
          rw [sortBy_length]; simp [h2]
        · rw [sortBy_length]; simp only [List.length_map]; rw [HN.out]; exact hcap
        · have h1 := HFST.out
          rw [List.append_nil] at h1
          rw [← h1, sortBy_map, sortBy_congr P1 (k := fun x => x.2.key) (k' := fun x => x.1.base) (fun x hx => (HOWN.out x hx).key)]
        · intro y hy
          exact (HOWN.out y ((sortBy_perm _ _).mem_iff.1 hy)).keep2 HRW.out (by decide) (fun q hq hne => hch.block q hq hne) (fun q hq hlq => ⟨hq.1, by have := hch.size; have := hq.2; omega⟩)
        · exact ((sortBy_perm _ _).map _).nodup_iff.2 HND.out
        · intro _
          refine ⟨g, rfl, ⟨hg, by have := hrow3.lt; omega⟩, ?_⟩
          have h1 : sortEnts (P1.map (·.2)) = (sortBy (fun x => x.2.key) P1).map (·.2) := sortBy_map Ent.key (fun x : Reg × Ent => x.2) P1
          rw [h1, List.map_map] at hrow3
          exact hrow3
        · exact HBL.out.trans (hch.below (fun q hq he => by subst he; omega) HBL.out.size)
end Go.Proofs.YtmanhikpccnfaaaGreat

/- (*memory.Memory).find, and the search that it calls. -/
namespace Go.Proofs.YtmanhikpccnfaaaGreat
open Go.RowKit

set_option maxHeartbeats 400000 in
theorem find1_any (r : Reg) (at_ : Nat) (w : World) (A : Option Addr) (c : Nat) :
    Calls Tryz.prog 134 #[regV r A c, .int .u64 at_] w fun e w' => e = .returned (.int .i64 (if lastOf r < at_ then -1 else 1)) ∧ Below w.heap.size w w' := by
  obtain ⟨W, hW, hbw, hsz, hnew, hold⟩ := boxed w #[.int .u64 r.base, .slice A r.bytes.length c, .bool r.write] 38
  have HW := Lib.hid hW
  have n0 := hnew 0
  have n1 := hnew 1
  have n2 := hnew 2
  have m0 : w.heap.size < W.heap.size := by omega
  clear hW hnew hold hsz
  unfold regV
  by_cases h : lastOf r < at_
  · have hd : decide (lastOf r < at_) = true := by simpa using h
    rw [if_pos h]
    go_enter Tryz.func134, Tryz.ntmps134
    go_wp2_with (go_at_call 53; refine (last_any _ _ _ _).mono ?_; rintro e w1 ⟨rfl, hb1⟩)
    go_ret
    exact ⟨rfl, hbw.trans ((HW.out ▸ hb1).mono hbw.size)⟩
  · have hd : decide (lastOf r < at_) = false := by simpa using h
    rw [if_neg h]
    go_enter Tryz.func134, Tryz.ntmps134
    go_wp2_with (go_at_call 53; refine (last_any _ _ _ _).mono ?_; rintro e w1 ⟨rfl, hb1⟩)
    go_ret
    exact ⟨rfl, hbw.trans ((HW.out ▸ hb1).mono hbw.size)⟩

set_option maxRecDepth 100000 in
set_option maxHeartbeats 800000 in
theorem BinarySearch_any (A : Option Addr) (n c : Nat) (w : World) (F : Nat → Prop) (rs : List Reg) (at_ : Nat) (hl : RegsAt w F (.slice A n c) rs) (hF : ∀ k, F k → k < w.heap.size) (hg : Good rs) :
    Calls Tryz.prog 133 #[.slice A n c, .int .u64 at_, .func (.func 134) #[] #[]] w fun e w' =>
      e = .returned (.tuple #[.int .i64 (findI rs at_), .bool false]) ∧ Below w.heap.size w w' := by
  obtain ⟨hnl, hnc⟩ := hl.len
  have hn8 := hg.len
  rw [← hnl] at hn8
  have HNL := Lib.hid hnl
  have HL := Lib.hid hl
  have HF := Lib.hid hF
  have HG := Lib.hid hg
  clear hnl hl hF hg
  go_enter Tryz.func133, Tryz.ntmps133
  go_wp2
  go_loopw [9, 10, 11] (fun i j _ wr => ∃ p q : Nat, p ≤ q ∧ q ≤ n ∧ i = .int .i64 p ∧ j = .int .i64 q ∧ Below w.heap.size w wr ∧ (∀ (k : Nat) (r : Reg), k < p → rs[k]? = some r → lastOf r < at_) ∧ (∀ (k : Nat) (r : Reg), q ≤ k → rs[k]? = some r → at_ ≤ lastOf r)) (fun i j _ _ => (intOf j).toNat - (intOf i).toNat)
  case atStart => exact ⟨0, n, by omega, by omega, rfl, rfl, Below.refl _ _, fun k r hk => absurd hk (by omega), fun k r hk hr => by
    have := HNL.out
    rw [List.getElem?_eq_none (by omega)] at hr; cases hr⟩
  case round =>
    obtain ⟨p, q, hpq, hqn, rfl, rfl, hbl, hlo, hhi⟩ := hrel
    have HLO := Lib.hid hlo
    have HHI := Lib.hid hhi
    clear hlo hhi
    by_cases hlt : p < q
    · obtain ⟨m, hm⟩ : ∃ m : Nat, ((p : Int) + q) / 2 = m := ⟨(p + q) / 2, by omega⟩
      have hpm : p ≤ m := by omega
      have hmq : m < q := by omega
      have h0 : (0 : Int) ≤ (p : Int) + q := by omega
      have h1 : (p : Int) + q ≤ 16 := by omega
      have h2 : (0 : Int) ≤ (m : Int) := by omega
      have h3 : (m : Int) < (n : Int) := by omega
      obtain ⟨r, hr⟩ : ∃ r, rs[m]? = some r := ⟨_, List.getElem?_eq_getElem (by have := HNL.out; omega)⟩
      obtain ⟨b, off, A', c', rfl, hFb, h0, h1, h2, hby, hb64, hlen⟩ := HL.out.at_ hr
      have hb := HF.out b hFb
      have g0 := (hbl.cell (p := ⟨b, off + m * 3, none⟩) hb).trans h0
      have g1 := (hbl.cell (p := ⟨b, off + m * 3 + 1, none⟩) hb).trans h1
      have g2 := (hbl.cell (p := ⟨b, off + m * 3 + 2, none⟩) hb).trans h2
      have HR := Lib.hid hr
      have HC := Lib.hid (find1_any r at_ wr A' c')
      clear h0 h1 h2 hby hr
      unfold regV at HC
      by_cases hc : lastOf r < at_
      · rw [if_pos hc] at HC
        have HCC := Lib.hid hc
        clear hc
        go_wp2_with ((with_reducible refine (HC.out).mono ?_); rintro e w1 ⟨rfl, hb1⟩)
        go_roundw
        case rel => exact ⟨m + 1, q, by omega, by omega, by go_num, rfl, hbl.trans (hb1.mono hbl.size), fun k r' hk hr' => Nat.lt_of_le_of_lt (last_mono HG.out hr' HR.out (by omega)) HCC.out, HHI.out⟩
        case measure => simp [intOf]; omega
      · rw [if_neg hc] at HC
        have HCC := Lib.hid hc
        clear hc
        go_wp2_with ((with_reducible refine (HC.out).mono ?_); rintro e w1 ⟨rfl, hb1⟩)
        go_roundw
        case rel => exact ⟨p, m, by omega, by omega, rfl, rfl, hbl.trans (hb1.mono hbl.size), HLO.out, fun k r' hk hr' => Nat.le_trans (Nat.not_lt.1 HCC.out) (last_mono HG.out HR.out hr' hk)⟩
        case measure => simp [intOf]; omega
    · obtain rfl : p = q := by omega
      have hfi : findI rs at_ = p := findI_eq (by have := HNL.out; omega) HLO.out (fun r hr => HHI.out p r (Nat.le_refl _) hr)
      have HFI := Lib.hid hfi
      clear hfi
      by_cases hpn : p < n
      · obtain ⟨r, hr⟩ : ∃ r, rs[p]? = some r := ⟨_, List.getElem?_eq_getElem (by have := HNL.out; omega)⟩
        have hge := HHI.out p r (Nat.le_refl _) hr
        obtain ⟨b, off, A', c', rfl, hFb, h0, h1, h2, hby, hb64, hlen⟩ := HL.out.at_ hr
        have hb := HF.out b hFb
        have g0 := (hbl.cell (p := ⟨b, off + p * 3, none⟩) hb).trans h0
        have g1 := (hbl.cell (p := ⟨b, off + p * 3 + 1, none⟩) hb).trans h1
        have g2 := (hbl.cell (p := ⟨b, off + p * 3 + 2, none⟩) hb).trans h2
        have hc := fun w => find1_any r at_ w A' c'
        unfold regV at hc
        rw [if_neg (by omega)] at hc
        have HC := Lib.hid hc
        have hd : decide (p < n) = true := by simpa using hpn
        have i1 : (p : Int) < (n : Int) := by omega
        have i0 : (0 : Int) ≤ (p : Int) := by omega
        have e1 : ((1 : Int) == 0) = false := rfl
        clear h0 h1 h2 hby hr hge hc
        go_wp2_with ((with_reducible refine (HC.out _).mono ?_); rintro e w1 ⟨rfl, hb1⟩)
        go_ret2
        exact ⟨(by rw [HFI.out]; rfl), hbl.trans (hb1.mono hbl.size)⟩
      · have hd : decide (p < n) = false := by simpa using hpn
        have hdi : ((p : Int) < (n : Int)) = False := by simp; omega
        go_wp2
        go_ret2
        exact ⟨(by rw [HFI.out]; rfl), hbl⟩
/-- A memory: a block of one cell, that holds regions of its own, in order. -/
def MemAt (w : World) (F : Nat → Prop) (p : Value) (rs : List Reg) : Prop :=
  ∃ bm v, p = .pointer (some ⟨bm, 0, none⟩) ∧ F bm ∧ w.heap[bm]? = some (.cells #[v] 75 (0, 0)) ∧ RegsOwn w F v rs ∧ Good rs

theorem MemAt.keep {w w' : World} {F : Nat → Prop} {p : Value} {rs : List Reg} (h : MemAt w F p rs) (hk : SameOn F w w') : MemAt w' F p rs := by
  obtain ⟨bm, v, h1, h2, h3, h4, h5⟩ := h
  exact ⟨bm, v, h1, h2, (hk bm h2).trans h3, h4.keep hk, h5⟩

theorem lt_of_block {w : World} {g : Nat} {o : Obj} (h : w.heap[g]? = some o) : g < w.heap.size := by
  rcases Nat.lt_or_ge g w.heap.size with h' | h'
  · exact h'
  · rw [Array.getElem?_eq_none h'] at h; cases h

theorem RegsOwn.ent {w : World} {F : Nat → Prop} {A : Option Addr} {n c i : Nat} {l : List Reg} {r : Reg} (h : RegsOwn w F (.slice A n c) l) (hr : l[i]? = some r) :
    ∃ g bb cc, A = some ⟨g, 0, none⟩ ∧ F g ∧ F bb ∧ g < w.heap.size ∧ bb < w.heap.size ∧ w.cell? ⟨g, i * 3, none⟩ = some (.int .u64 r.base) ∧ w.cell? ⟨g, i * 3 + 1, none⟩ = some (.slice (some ⟨bb, 0, none⟩) r.bytes.length cc) ∧
      w.cell? ⟨g, i * 3 + 2, none⟩ = some (.bool r.write) ∧ r.bytes.length ≤ cc ∧ RowsBlk w bb 5 1 (byteRows r.bytes) := by
  obtain ⟨A', c', P, hv, hlc, hfst, hent, hnd, hblk⟩ := h
  cases hv
  obtain ⟨g, hA, hFg, hrow⟩ := hblk (fun e => by rw [e] at hr; cases hr)
  rw [← hfst, List.getElem?_map] at hr
  cases hpk : P[i]? with
  | none => rw [hpk] at hr; cases hr
  | some x =>
    rw [hpk] at hr
    cases hr
    have hx := hent x (List.mem_of_getElem? hpk)
    obtain ⟨bb, hb1, hb2, hb3⟩ := hx.blk
    have hri : (P.map fun x => entRow x.2)[i]? = some (entRow x.2) := by rw [List.getElem?_map, hpk]; rfl
    have c0 := hrow.cell hri (j := 0) (by rfl)
    have c1 := hrow.cell hri (j := 1) (by rfl)
    have c2 := hrow.cell hri (j := 2) (by rfl)
    rw [hx.key] at c0
    rw [hb1, hx.n] at c1
    rw [hx.wr] at c2
    have hcap := hx.cap
    rw [hx.n] at hcap
    exact ⟨g, bb, x.2.c, hA, hFg, hb2, hrow.lt, hb3.lt, c0, c1, c2, hcap, hb3⟩

/-- The memory's region number i has its bytes in block bb. -/
def EntryAt (w : World) (p : Value) (i bb n c : Nat) : Prop :=
  ∃ bm g m c', p = .pointer (some ⟨bm, 0, none⟩) ∧ w.cell? ⟨bm, 0, none⟩ = some (.slice (some ⟨g, 0, none⟩) m c') ∧ w.cell? ⟨g, i * 3 + 1, none⟩ = some (.slice (some ⟨bb, 0, none⟩) n c)

/-- What find hands back: nothing, or bytes in place. -/
def FindOut (w : World) (F : Nat → Prop) (p : Value) (rs : List Reg) (at_ n : Nat) (v : Value) : Prop :=
  (placeF rs at_ n = none ∧ v = .tuple #[.slice none 0 0, .bool false]) ∨
  (∃ i k r bb c, placeF rs at_ n = some (i, k) ∧ rs[i]? = some r ∧ F bb ∧ k + n ≤ r.bytes.length ∧ k < r.bytes.length ∧ r.bytes.length ≤ c ∧ RowsBlk w bb 5 1 (byteRows r.bytes) ∧ EntryAt w p i bb r.bytes.length c ∧ v = .tuple #[.slice (some ⟨bb, k, none⟩) n (c - k), .bool r.write])

set_option maxRecDepth 100000 in
set_option maxHeartbeats 800000 in
theorem find_any (p : Value) (w : World) (F : Nat → Prop) (rs : List Reg) (at_ n : Nat) (hn : n ≤ 9223372036854775807) (hat : at_ < 18446744073709551616) (hm : MemAt w F p rs) (hF : ∀ k, F k → k < w.heap.size) :
    Calls Tryz.prog 127 #[p, .int .u64 at_, .int .i64 n] w fun e w' => ∃ v, e = .returned v ∧ FindOut w' F p rs at_ n v ∧ Below w.heap.size w w' := by
  obtain ⟨bm, v, rfl, hbm, hblk, hown, hgood⟩ := hm
  have hat2 := hown.at_ hgood.base
  obtain ⟨A, c, rfl, hlc⟩ := hat2.form
  have hcell : w.cell? ⟨bm, 0, none⟩ = some (.slice A rs.length c) := by simp [World.cell?, hblk]
  have hbl := lt_of_block hblk
  have HB := Lib.hid (BinarySearch_any A rs.length c w F rs at_ hat2 hF hgood)
  have HAT := Lib.hid hat2
  have HOWN := Lib.hid hown
  have HG := Lib.hid hgood
  have HF := Lib.hid hF
  have h8 := hgood.len
  clear hat2 hown hgood hblk hF
  generalize hrl : rs.length = nr at *
  have HRL := Lib.hid hrl
  clear hrl
  generalize hfi : findI rs at_ = i at *
  have HFI := Lib.hid hfi
  clear hfi
  rcases hri : rs[i]? with _ | r
  · have hi : i = nr := by
      have h1 := HRL.out
      have h2 : findI rs at_ ≤ rs.length := List.findIdx_le_length
      rw [HFI.out] at h2
      rcases Nat.lt_or_ge i rs.length with h | h
      · rw [List.getElem?_eq_getElem h] at hri; cases hri
      · omega
    subst hi
    have hp : placeF rs at_ n = none := by simp only [placeF, HFI.out, hri]
    have HP := Lib.hid hp
    clear hp hri
    go_enter Tryz.func127, Tryz.ntmps127
    go_wp2_with ((with_reducible refine (HB.out).mono ?_); rintro e w1 ⟨rfl, hb1⟩; have hcell1 := (hb1.cell (p := ⟨bm, 0, none⟩) hbl).trans hcell)
    go_ret2
    exact ⟨_, rfl, .inl ⟨HP.out, rfl⟩, hb1⟩
  · obtain ⟨g, bb, cc, rfl, hFg, hFb, hgl, hbbl, c0, c1, c2, hcap, hrow⟩ := HOWN.out.ent hri
    have hir : i < nr := by have := HRL.out; have := (List.getElem?_eq_some_iff.1 hri).1; omega
    have i0 : (0 : Int) ≤ (i : Int) := by omega
    have i1 : (i : Int) < (nr : Int) := by omega
    have ib : ((i : Int) == (nr : Int)) = false := by rw [beq_eq_false_iff_ne]; omega
    have ib2 : (i == nr) = false := by rw [beq_eq_false_iff_ne]; omega
    have HROW := Lib.hid hrow
    have HRI := Lib.hid hri
    clear hrow hri
    by_cases hlo : at_ < r.base
    · have hp : placeF rs at_ n = none := by simp only [placeF, HFI.out, HRI.out, if_pos hlo]
      have HP := Lib.hid hp
      have hd : decide (at_ < r.base) = true := by simpa using hlo
      clear hp hlo
      go_enter Tryz.func127, Tryz.ntmps127
      go_wp2_with ((with_reducible refine (HB.out).mono ?_); rintro e w1 ⟨rfl, hb1⟩; have hcell1 := (hb1.cell (p := ⟨bm, 0, none⟩) hbl).trans hcell; have d0 := (hb1.cell (p := ⟨g, i * 3, none⟩) hgl).trans c0)
      go_ret2
      exact ⟨_, rfl, .inl ⟨HP.out, rfl⟩, hb1⟩
    · have hd : decide (at_ < r.base) = false := by simpa using hlo
      obtain ⟨k, hk⟩ : ∃ k, at_ = r.base + k := ⟨at_ - r.base, by omega⟩
      have hgl2 := HG.out.last r (List.mem_of_getElem? HRI.out)
      have hend := HG.out.end_ r (List.mem_of_getElem? HRI.out)
      have hpos := HG.out.pos r (List.mem_of_getElem? HRI.out)
      have hbig := (HG.out.bytes r (List.mem_of_getElem? HRI.out)).2
      have hle : at_ ≤ lastOf r := by
        have h1 := HRI.out
        rw [← HFI.out] at h1
        exact findI_le h1
      have hkl : k < r.bytes.length := by omega
      obtain ⟨d, hdd⟩ : ∃ d, r.bytes.length = k + d := ⟨r.bytes.length - k, by omega⟩
      have hsub : (at_ : Int) - (r.base : Int) = (k : Int) := by omega
      have hsub2 : ((r.bytes.length : Nat) : Int) - (k : Int) = (d : Int) := by omega
      have wk : IntKind.u64.wrap (k : Int) = (k : Int) := by rw [wrapU]; omega
      have wd : IntKind.u64.wrap (d : Int) = (d : Int) := by rw [wrapU]; omega
      have wn : IntKind.u64.wrap (n : Int) = (n : Int) := by rw [wrapU]; omega
      have wl : IntKind.u64.wrap (r.bytes.length : Int) = (r.bytes.length : Int) := by rw [wrapU]; omega
      have HK := Lib.hid hk
      have HDD := Lib.hid hdd
      have HKL := Lib.hid hkl
      have HCAP := Lib.hid hcap
      have HLO := Lib.hid hlo
      clear hk hdd hgl2 hend hpos hle hlo hkl hcap
      by_cases hnd : d < n
      · have hp : placeF rs at_ n = none := by
          have h1 := HK.out; have h2 := HDD.out
          simp only [placeF, HFI.out, HRI.out]
          rw [if_neg HLO.out, if_pos (by omega)]
        have HP := Lib.hid hp
        have hd2 : decide (d < n) = true := by simpa using hnd
        clear hp hnd
        go_enter Tryz.func127, Tryz.ntmps127
        go_wp2_with ((with_reducible refine (HB.out).mono ?_); rintro e w1 ⟨rfl, hb1⟩; have hcell1 := (hb1.cell (p := ⟨bm, 0, none⟩) hbl).trans hcell; have d0 := (hb1.cell (p := ⟨g, i * 3, none⟩) hgl).trans c0; have d1 := (hb1.cell (p := ⟨g, i * 3 + 1, none⟩) hgl).trans c1; have d2 := (hb1.cell (p := ⟨g, i * 3 + 2, none⟩) hgl).trans c2; have hgl1 : g < w1.heap.size := Nat.lt_of_lt_of_le hgl hb1.size)
        go_ret2
        exact ⟨_, rfl, .inl ⟨HP.out, rfl⟩, hb1.trans ((Below.refl _ _).alloc hb1.size _)⟩
      · have hp : placeF rs at_ n = some (i, k) := by
          have h1 := HK.out; have h2 := HDD.out
          simp only [placeF, HFI.out, HRI.out]
          rw [if_neg HLO.out, if_neg (by omega)]
          simp; omega
        have HP := Lib.hid hp
        have hd2 : decide (d < n) = false := by simpa using hnd
        have wkn : IntKind.u64.wrap ((k : Int) + (n : Int)) = (k : Int) + (n : Int) := by have := HDD.out; rw [wrapU]; omega
        have j0 : (0 : Int) ≤ (k : Int) := by omega
        have j1 : (k : Int) ≤ (k : Int) + (n : Int) := by omega
        have j2 : (k : Int) + (n : Int) ≤ (cc : Int) := by have := HDD.out; have := HCAP.out; omega
        have j3 : ((k : Int) + (n : Int)).toNat = k + n := by omega
        have j4 : (cc = k) = False := by have := HKL.out; have := HCAP.out; simp; omega
        clear hp hnd
        go_enter Tryz.func127, Tryz.ntmps127
        go_wp2_with ((with_reducible refine (HB.out).mono ?_); rintro e w1 ⟨rfl, hb1⟩; have hcell1 := (hb1.cell (p := ⟨bm, 0, none⟩) hbl).trans hcell; have d0 := (hb1.cell (p := ⟨g, i * 3, none⟩) hgl).trans c0; have d1 := (hb1.cell (p := ⟨g, i * 3 + 1, none⟩) hgl).trans c1; have d2 := (hb1.cell (p := ⟨g, i * 3 + 2, none⟩) hgl).trans c2; have hgl1 : g < w1.heap.size := Nat.lt_of_lt_of_le hgl hb1.size)
        obtain ⟨W, hW, hbw, hsz, hnew, hold⟩ := boxed w1 #[.int .u64 r.base, .slice (some ⟨bb, 0, none⟩) r.bytes.length cc, .bool r.write] 38
        have n0 := hnew 0
        have n1 := hnew 1
        have n2 := hnew 2
        have m0 : w1.heap.size < W.heap.size := by omega
        rw [← hW]
        have HW := Lib.hid hW
        clear hW hnew hold hsz
        (refine wp_region_lines (Below W.heap.size W) (by kernel_rfl) (by kernel_rfl) (Below.refl _ _).drew ?_)
        have hS := (Below.refl W.heap.size W).drew
        (try simp only [])
        repeat (first | (refine runL_no (by rfl) ?_; (try simp only [Act.put, List.setIfInBounds_toArray, List.set_cons_zero, List.set_cons_succ])) | (refine runL_val (v := ?_) (by rfl) ?_ ?_; rotate_left; (focus (intro w_ hw_; have hc_ := bcell hw_; go_simp; (try with_reducible rfl); done)); (try simp only [Act.put, List.setIfInBounds_toArray, List.set_cons_zero, List.set_cons_succ])))
        (refine runL_nil ?_)
        go_wp2
        go_ret2
        have hall := (hb1.trans (hbw.mono hb1.size)).trans (hS.mono (Nat.le_trans hb1.size hbw.size))
        exact ⟨_, rfl, .inr ⟨i, k, r, bb, cc, HP.out, HRI.out, hFb, by have := HDD.out; have := of_decide_eq_false hd2; omega, HKL.out, HCAP.out, HROW.out.keep (hall.block bb hbbl), ⟨bm, g, nr, c, rfl, (hall.cell (p := ⟨bm, 0, none⟩) hbl).trans hcell, (hall.cell (p := ⟨g, i * 3 + 1, none⟩) hgl).trans c1⟩, rfl⟩, hall⟩
end Go.Proofs.YtmanhikpccnfaaaGreat
