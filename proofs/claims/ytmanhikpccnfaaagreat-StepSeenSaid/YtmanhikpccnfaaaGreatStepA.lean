/- The stepper's small methods: flags, sum, rest, plain, shift, chain, see. -/
import Derived.Test.YtmanhikpccnfaaaGreatStepAt
import Derived.Deep.DeepCutAuto
import Derived.Outline
namespace Go.Proofs.YtmanhikpccnfaaaGreat
open Go.RowKit

variable {w : World} {base b : Nat} {x : Stp} {evs : List Ev}

set_option maxRecDepth 100000 in
set_option maxHeartbeats 400000 in
theorem flags_any (h : Run w base b x evs) (k : Nat) (caps : Array Value) (o : Bool) (r : Nat) (c : Bool) (hg : ∀ args w, (callFunc k args).run Tryz.prog w = .ok (.enter k args) w) (hf : Calls Tryz.prog k caps w fun e w' => e = .returned (.bool o) ∧ w = w') :
    Calls Tryz.prog 122 #[.pointer (some ⟨b, 0, none⟩), .int .u64 r, .bool c, .func (.func k) #[] caps] w fun e w' => e = .returned (.int .u64 r) ∧ Below base w w' ∧ Run w' base b { x with st := { x.st with cf := c, of_ := o, zf := r == 0 } } evs := by
  have hz : ((r : Int) == 0) = (r == 0) := by rw [Bool.eq_iff_iff, beq_iff_eq, beq_iff_eq]; omega
  generalize (r == 0) = z at *
  have H := Lib.hid h
  have HF := Lib.hid hf
  obtain ⟨_, c17, c18, c19, _⟩ := h.cells
  have f17 := h.frozen 17
  have f18 := h.frozen 18
  have f19 := h.frozen 19
  clear h hf
  go_enter Tryz.func122, Tryz.ntmps122
  go_wp2_with (refine HF.out.mono ?_; rintro e w1 ⟨rfl, rfl⟩)
  go_ret
  exact ⟨rfl, (((Below.refl _ _).setCell H.out.le _).setCell H.out.le _).setCell H.out.le _, ((H.out.setCf c).setOf o).setZf z⟩

theorem top_int {x : Nat} {o : Bool} (h : (x / 9223372036854775808 == 1) = o) : (((x : Nat) : Int) / 9223372036854775808 == 1) = o := by
  rw [← h, Bool.eq_iff_iff, beq_iff_eq, beq_iff_eq]; omega

set_option maxHeartbeats 400000 in
theorem sum1_any (w : World) (a bb r : Nat) (pa pr pb : Addr) (ha : a < 18446744073709551616) (hb : bb < 18446744073709551616) (hr : r < 18446744073709551616) (h1 : w.cell? pa = some (.int .u64 a)) (h2 : w.cell? pr = some (.int .u64 r)) (h3 : w.cell? pb = some (.int .u64 bb)) :
    Calls Tryz.prog 123 #[.pointer (some pa), .pointer (some pr), .pointer (some pb)] w fun e w' => e = .returned (.bool ((topB a == topB bb) && (topB r != topB a))) ∧ w = w' := by
  have e := top_int (ofSum ha hb hr)
  have b1 := bits_xor_u64_nat a r ha hr
  have b2 := bits_xor_u64_nat bb r hb hr
  have b3 := bits_and_u64_nat (a ^^^ r) (bb ^^^ r) (xor_lt ha hr) (xor_lt hb hr)
  generalize ((topB a == topB bb) && (topB r != topB a)) = o at *
  generalize ((a ^^^ r) &&& (bb ^^^ r)) = q at *
  go_enter Tryz.func123, Tryz.ntmps123
  go_wp2
  go_ret
  exact ⟨rfl, rfl⟩

set_option maxHeartbeats 400000 in
theorem rest1_any (w : World) (a bb r : Nat) (pa pb pr : Addr) (ha : a < 18446744073709551616) (hb : bb < 18446744073709551616) (hr : r < 18446744073709551616) (h1 : w.cell? pa = some (.int .u64 a)) (h2 : w.cell? pr = some (.int .u64 r)) (h3 : w.cell? pb = some (.int .u64 bb)) :
    Calls Tryz.prog 125 #[.pointer (some pa), .pointer (some pb), .pointer (some pr)] w fun e w' => e = .returned (.bool ((topB a != topB bb) && (topB r != topB a))) ∧ w = w' := by
  have e := top_int (ofRest ha hb hr)
  have b1 := bits_xor_u64_nat a bb ha hb
  have b2 := bits_xor_u64_nat a r ha hr
  have b3 := bits_and_u64_nat (a ^^^ bb) (a ^^^ r) (xor_lt ha hb) (xor_lt ha hr)
  generalize ((topB a != topB bb) && (topB r != topB a)) = o at *
  generalize ((a ^^^ bb) &&& (a ^^^ r)) = q at *
  go_enter Tryz.func125, Tryz.ntmps125
  go_wp2
  go_ret
  exact ⟨rfl, rfl⟩

theorem plain1_any (w : World) : Calls Tryz.prog 126 #[] w fun e w' => e = .returned (.bool false) ∧ w = w' := by
  go_enter Tryz.func126, Tryz.ntmps126
  go_wp2
  go_ret
  exact ⟨rfl, rfl⟩

/-- Three boxes of one cell. -/
theorem three (w : World) (u v z : Value) (t : Nat) : ∃ W, W = ((w.alloc (.cells #[u] t)).alloc (.cells #[v] t)).alloc (.cells #[z] t) ∧ W.cell? ⟨w.heap.size, 0, none⟩ = some u ∧ W.cell? ⟨w.heap.size + 1, 0, none⟩ = some v ∧ W.cell? ⟨w.heap.size + 1 + 1, 0, none⟩ = some z ∧ Below w.heap.size w W := by
  refine ⟨_, rfl, ?_, ?_, ?_, (((Below.refl _ _).alloc (Nat.le_refl _) _).alloc (by simp) _).alloc (by simp; omega) _⟩
  · rw [World.cell?_alloc_lt _ _ _ (by simp; omega), World.cell?_alloc_lt _ _ _ (by simp), World.cell?_alloc_at _ _ _ _ rfl]; rfl
  · rw [World.cell?_alloc_lt _ _ _ (by simp), World.cell?_alloc_at _ _ _ _ (by simp)]; rfl
  · rw [World.cell?_alloc_at _ _ _ _ (by simp)]; rfl

set_option maxRecDepth 100000 in
set_option maxHeartbeats 400000 in
theorem sum_any (h : Run w base b x evs) (a bb : Nat) (c : Bool) (ha : a < 18446744073709551616) (hb : bb < 18446744073709551616) :
    Calls Tryz.prog 86 #[.pointer (some ⟨b, 0, none⟩), .int .u64 a, .int .u64 bb, .bool c] w fun e w' => e = .returned (.int .u64 ((addF a bb c).1 : Nat)) ∧ Below base w w' ∧ Run w' base b { x with st := (valueF.sumS x.st a bb c).1 } evs := by
  have hmf : ∀ (fn : Fn) (first cap : Array Value) (w : World), (Instr.makeFunc fn first cap).run Tryz.prog w = .ok (.func fn first cap) w := fun _ _ _ _ => rfl
  have hr := addF_lt a bb c
  have HA := Lib.hid (fun w => Add_any a bb c w ha hb)
  obtain ⟨r, hre⟩ : ∃ r, r = (addF a bb c).1 := ⟨_, rfl⟩
  obtain ⟨o, hoe⟩ : ∃ o, o = (addF a bb c).2 := ⟨_, rfl⟩
  have e1 : (valueF.sumS x.st a bb c).1 = { x.st with cf := o, of_ := (valueF.sumS x.st a bb c).1.of_, zf := r == 0 } := by rw [hre, hoe]; rfl
  obtain ⟨W, hW, g1, g2, g3, hbW⟩ := three w (.int .u64 a) (.int .u64 bb) (.int .u64 r) 22
  have H := Lib.hid (h.next hbW)
  have HB := Lib.hid (hbW.mono (Nat.le_of_lt (Nat.lt_of_le_of_lt h.le h.lt)))
  have HO : (valueF.sumS x.st a bb c).1.of_ = (valueF.sumS x.st a bb c).1.of_ := rfl
  have HW := Lib.hid hW
  have HE := Lib.hid e1
  rw [← hre] at hr
  rw [← hre, ← hoe] at HA
  rw [← hre]
  have G := Lib.hid (And.intro g1 (And.intro g2 (And.intro g3 (And.intro ha (And.intro hb hr)))))
  have HR := Lib.hid hre
  clear HO hW g1 g2 g3 hbW h hre hoe ha hb hr e1
  go_enter Tryz.func86, Tryz.ntmps86
  go_wp2_with (with_reducible refine (HA.out _).mono ?_; rintro e w1 ⟨rfl, rfl⟩)
  rw [← HW.out]
  obtain ⟨g1, g2, g3, ha, hb, hr⟩ := G.out
  refine (flags_any H.out _ _ _ _ _ (fun _ _ => rfl) (sum1_any W a bb r _ _ _ ha hb hr g1 g3 g2)).mono ?_
  rintro e w2 ⟨rfl, hb2, hr2⟩
  have HB2 := Lib.hid hb2
  have HR2 := Lib.hid hr2
  clear g1 g2 g3 ha hb hr hb2 hr2
  go_wp2
  go_ret
  have h3 := HR2.out
  refine ⟨rfl, HB.out.trans HB2.out, ?_⟩
  have h4 := HE.out
  rw [h4]
  have h5 := HR.out
  subst h5
  exact h3

set_option maxRecDepth 100000 in
set_option maxHeartbeats 400000 in
theorem rest_any (h : Run w base b x evs) (a bb : Nat) (c : Bool) (ha : a < 18446744073709551616) (hb : bb < 18446744073709551616) :
    Calls Tryz.prog 89 #[.pointer (some ⟨b, 0, none⟩), .int .u64 a, .int .u64 bb, .bool c] w fun e w' => e = .returned (.int .u64 ((subF a bb c).1 : Nat)) ∧ Below base w w' ∧ Run w' base b { x with st := (valueF.restS x.st a bb c).1 } evs := by
  have hmf : ∀ (fn : Fn) (first cap : Array Value) (w : World), (Instr.makeFunc fn first cap).run Tryz.prog w = .ok (.func fn first cap) w := fun _ _ _ _ => rfl
  have hr := subF_lt a bb c
  have HA := Lib.hid (fun w => Sub_any a bb c w ha hb)
  obtain ⟨r, hre⟩ : ∃ r, r = (subF a bb c).1 := ⟨_, rfl⟩
  obtain ⟨o, hoe⟩ : ∃ o, o = (subF a bb c).2 := ⟨_, rfl⟩
  have e1 : (valueF.restS x.st a bb c).1 = { x.st with cf := o, of_ := (valueF.restS x.st a bb c).1.of_, zf := r == 0 } := by rw [hre, hoe]; rfl
  obtain ⟨W, hW, g1, g2, g3, hbW⟩ := three w (.int .u64 a) (.int .u64 bb) (.int .u64 r) 22
  have H := Lib.hid (h.next hbW)
  have HB := Lib.hid (hbW.mono (Nat.le_of_lt (Nat.lt_of_le_of_lt h.le h.lt)))
  have HO : (valueF.restS x.st a bb c).1.of_ = (valueF.restS x.st a bb c).1.of_ := rfl
  have HW := Lib.hid hW
  have HE := Lib.hid e1
  rw [← hre] at hr
  rw [← hre, ← hoe] at HA
  rw [← hre]
  have G := Lib.hid (And.intro g1 (And.intro g2 (And.intro g3 (And.intro ha (And.intro hb hr)))))
  have HR := Lib.hid hre
  clear HO hW g1 g2 g3 hbW h hre hoe ha hb hr e1
  go_enter Tryz.func89, Tryz.ntmps89
  go_wp2_with (with_reducible refine (HA.out _).mono ?_; rintro e w1 ⟨rfl, rfl⟩)
  rw [← HW.out]
  obtain ⟨g1, g2, g3, ha, hb, hr⟩ := G.out
  refine (flags_any H.out _ _ _ _ _ (fun _ _ => rfl) (rest1_any W a bb r _ _ _ ha hb hr g1 g3 g2)).mono ?_
  rintro e w2 ⟨rfl, hb2, hr2⟩
  have HB2 := Lib.hid hb2
  have HR2 := Lib.hid hr2
  clear g1 g2 g3 ha hb hr hb2 hr2
  go_wp2
  go_ret
  have h3 := HR2.out
  refine ⟨rfl, HB.out.trans HB2.out, ?_⟩
  have h4 := HE.out
  rw [h4]
  have h5 := HR.out
  subst h5
  exact h3

end Go.Proofs.YtmanhikpccnfaaaGreat
