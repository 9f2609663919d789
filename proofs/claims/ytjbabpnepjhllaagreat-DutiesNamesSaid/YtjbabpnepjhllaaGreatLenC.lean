/- lengths.alike: a map of functions. -/
import Derived.Test.YtjbabpnepjhllaaGreatLenB
import Derived.Maps.OwnSet
import Derived.Maps.Views
namespace Go.Proofs.YtjbabpnepjhllaaGreat
open Go.RowKit
open Go.Maps (Keyed)
open Go.Maps

/-- How a function value of the map reads: as its number. -/
def funcE (v : Value) : Option (DataW Unit × List MemPlace) := match v with
  | .func (.func n) a b => if a.size = 0 ∧ b.size = 0 then some (.lit (.int .i64 n), []) else none
  | .func .. => none
  | .nilFunc => some (.lit (.int .i64 (-1)), [])
  | _ => none
theorem funcE_mk (n : Nat) : funcE (.func (.func n) #[] #[]) = some (.lit (.int .i64 n), []) := rfl
theorem funcE_inv {v : Value} {n : Nat} {ps : List MemPlace} (h : funcE v = some (.lit (.int .i64 (n : Nat)), ps)) : v = .func (.func n) #[] #[] := by
  unfold funcE at h
  split at h
  · rename_i m a b
    split at h
    · rename_i hab
      have : a = #[] := Array.eq_empty_of_size_eq_zero hab.1
      have : b = #[] := Array.eq_empty_of_size_eq_zero hab.2
      subst a b
      have h1 := congrArg (fun x : DataW Unit × List MemPlace => x.1) (Option.some.inj h)
      simp only [DataW.lit.injEq, Lit.int.injEq, true_and] at h1
      have : m = n := Int.ofNat.inj h1
      subst this
      rfl
    · cases h
  · cases h
  · have h1 := congrArg (fun x : DataW Unit × List MemPlace => x.1) (Option.some.inj h)
    simp only [DataW.lit.injEq, Lit.int.injEq, true_and] at h1
    omega
  · cases h
theorem keyedI : Keyed Tryz.prog 3 := Go.Maps.int_keyed Tryz.underlying3
theorem wpList_insert_in {H : Type} {P : Program} (w : World) {ops : Array Oper} {rest : List Oper} {o : Oper} {a : Act} {Q : Exit → Act → World → Prop} (hg : o.guard = none) (m x v : Operand) (t : TypeId) (hop : o.op = Op.insert t m x v)
    (k e : TypeId) (K : Keyed P k) (ht : P.underlying t = some (.map k e)) (R : Value → Option (DataW H × List MemPlace)) (b n : Nat) (D : DataW H)
    (hm : a.eval m = .map (some b)) (hown : w.ownsMap P k R b n D) (hn : n < maxLen) (key val : Value) (kl : Lit) (hx : a.eval x = key) (hv : a.eval v = val) (hkey : keyOf P k key = some kl)
    (d : DataW H) (ps : List MemPlace) (hval : R val = some (d, ps))
    (hK : ∀ w', w'.ownsMap P k R b (n + 1) (D.put kl d) → w.mapTurned w' b → wpList P ops Q rest (a.put o.dst undef) w') :
    wpList P ops Q (o :: rest) a w := by
  refine wpList_plain hg fun K' hK' => ?_
  obtain ⟨w', hrun, r1, r2⟩ := hown.store K ht hn hkey hval
  unfold Oper.wp
  simp [execOp, hop, hm, hx, hv, hrun, Result.andThen]
  exact hK' _ _ (hK w' r1 r2)
def fnN (n : Nat) : DataW Unit := .lit (.int .i64 n)
/-- The map that alike tells. -/
def alikeD : DataW Unit := ((((((((DataW.map []).put (.int .i64 6) (fnN 142)).put (.int .i64 14) (fnN 143)).put (.int .i64 8) (fnN 144)).put (.int .i64 9) (fnN 145)).put (.int .i64 10) (fnN 141)).put (.int .i64 11) (fnN 141)).put (.int .i64 12) (fnN 141)).put (.int .i64 13) (fnN 146)
set_option maxRecDepth 100000 in
set_option maxHeartbeats 4000000 in
theorem alike_any (w : World) : Calls Tryz.prog 119 #[] w fun e w' => e = .returned (.map (some w.heap.size)) ∧ w'.ownsMap Tryz.prog 3 funcE w.heap.size 8 alikeD ∧ Below w.heap.size w w' := by
  have HM := Lib.hid (World.ownsMap_made w Tryz.prog 3 funcE)
  have HG := Lib.hid ((Below.refl w.heap.size w).alloc (Nat.le_refl _) (.map #[] 0))
  have hmm := @run_makeMap Tryz.prog
  go_enter Tryz.func119, Tryz.ntmps119
  go_upto_region 2 with fail
  go_wp2_with (first
    | (refine wpList_insert_in _ rfl _ _ _ 140 rfl 3 98 keyedI Tryz.underlying140 funcE w.heap.size _ _ rfl HM.out (by unfold maxLen; decide) _ _ _ rfl rfl (Go.Maps.keyOf_int_mk Tryz.underlying3 (by decide)) _ _ (funcE_mk _) ?_; intro w1 hm1 ht1; have HM := Lib.hid hm1; have HG := Lib.hid (HG.out.grown ht1.grown (by have := HG.out.size; omega) (fun j e => by cases e; exact Nat.le_refl _)); clear hm1 ht1)
    | go_in)
  go_ret
  exact ⟨rfl, HM.out, HG.out⟩
/-- Is a kind asked in alike's map? -/
def alikeIs (k : Int) : Bool := k == 6 || (k == 14 || (k == 8 || (k == 9 || (k == 10 || (k == 11 || (k == 12 || k == 13))))))
theorem alike_no {k : Int} (h : alikeIs k = false) : Maps.has alikeD (.int .i64 k) = false := by
  unfold alikeIs at h
  simp only [Bool.or_eq_false_iff, beq_eq_false_iff_ne] at h
  obtain ⟨h1, h2, h3, h4, h5, h6, h7, h8⟩ := h
  have hne : ∀ j : Int, k ≠ j → (Lit.int .i64 k) ≠ .int .i64 j := fun j hj e => hj (by injection e)
  unfold alikeD
  rw [has_put_other (hne _ h8), has_put_other (hne _ h7), has_put_other (hne _ h6), has_put_other (hne _ h5), has_put_other (hne _ h4), has_put_other (hne _ h3), has_put_other (hne _ h2), has_put_other (hne _ h1)]
  rfl
theorem infoFn : (Tryz.prog.info? 98).map (fun i => i.zero) = some (some .nilFunc) := by kernel_rfl
theorem look_yes {w : World} {n b N : Nat} {k : Int} (hk : (Lit.int .i64 k).wf = true) (hown : w.ownsMap Tryz.prog 3 funcE b n alikeD) (h2 : Maps.has alikeD (.int .i64 k) = true) (h3 : alikeD.atKey (.int .i64 k) (.lit (.int .i64 (-1))) = fnN N) :
    (Instr.lookup 140 (.map (some b)) (.int .i64 k) true).run Tryz.prog w = .ok (.tuple #[.func (.func N) #[] #[], .bool true]) w := by
  have hz : (zeroValue 98).run Tryz.prog w = .ok .nilFunc w := by
    obtain ⟨i0, hi, hz0⟩ := Option.map_eq_some_iff.1 infoFn
    simp [zeroValue, typeInfo, hi, hz0]
  obtain ⟨v, ps, hrun, hv⟩ := hown.look_ok keyedI Tryz.underlying140 hz (zd := .lit (.int .i64 (-1))) (zp := []) rfl (Go.Maps.keyOf_int_mk Tryz.underlying3 hk)
  rw [h3] at hv
  have e := funcE_inv hv
  subst e
  rw [h2] at hrun
  exact hrun
theorem look_no {w : World} {n b : Nat} {k : Int} (hk : (Lit.int .i64 k).wf = true) (hown : w.ownsMap Tryz.prog 3 funcE b n alikeD) (h : alikeIs k = false) :
    ∃ v, (Instr.lookup 140 (.map (some b)) (.int .i64 k) true).run Tryz.prog w = .ok (.tuple #[v, .bool false]) w := by
  have hz : (zeroValue 98).run Tryz.prog w = .ok .nilFunc w := by
    obtain ⟨i0, hi, hz0⟩ := Option.map_eq_some_iff.1 infoFn
    simp [zeroValue, typeInfo, hi, hz0]
  obtain ⟨v, ps, hrun, hv⟩ := hown.look_ok keyedI Tryz.underlying140 hz (zd := .lit (.int .i64 (-1))) (zp := []) rfl (Go.Maps.keyOf_int_mk Tryz.underlying3 hk)
  rw [alike_no h] at hrun
  exact ⟨v, hrun⟩
theorem alike_6 : Maps.has alikeD (.int .i64 6) = true ∧ alikeD.atKey (.int .i64 6) (.lit (.int .i64 (-1))) = fnN 142 := ⟨by kernel_rfl, by kernel_rfl⟩
theorem alike_14 : Maps.has alikeD (.int .i64 14) = true ∧ alikeD.atKey (.int .i64 14) (.lit (.int .i64 (-1))) = fnN 143 := ⟨by kernel_rfl, by kernel_rfl⟩
theorem alike_8 : Maps.has alikeD (.int .i64 8) = true ∧ alikeD.atKey (.int .i64 8) (.lit (.int .i64 (-1))) = fnN 144 := ⟨by kernel_rfl, by kernel_rfl⟩
theorem alike_9 : Maps.has alikeD (.int .i64 9) = true ∧ alikeD.atKey (.int .i64 9) (.lit (.int .i64 (-1))) = fnN 145 := ⟨by kernel_rfl, by kernel_rfl⟩
theorem alike_10 : Maps.has alikeD (.int .i64 10) = true ∧ alikeD.atKey (.int .i64 10) (.lit (.int .i64 (-1))) = fnN 141 := ⟨by kernel_rfl, by kernel_rfl⟩
theorem alike_11 : Maps.has alikeD (.int .i64 11) = true ∧ alikeD.atKey (.int .i64 11) (.lit (.int .i64 (-1))) = fnN 141 := ⟨by kernel_rfl, by kernel_rfl⟩
theorem alike_12 : Maps.has alikeD (.int .i64 12) = true ∧ alikeD.atKey (.int .i64 12) (.lit (.int .i64 (-1))) = fnN 141 := ⟨by kernel_rfl, by kernel_rfl⟩
theorem alike_13 : Maps.has alikeD (.int .i64 13) = true ∧ alikeD.atKey (.int .i64 13) (.lit (.int .i64 (-1))) = fnN 146 := ⟨by kernel_rfl, by kernel_rfl⟩
end Go.Proofs.YtjbabpnepjhllaaGreat
