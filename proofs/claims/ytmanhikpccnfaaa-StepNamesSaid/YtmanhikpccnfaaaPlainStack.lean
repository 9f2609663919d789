/- Push and pop in a memory of 32 bytes: plain. -/
import Derived.Test.YtmanhikpccnfaaaStepPl
import Derived.Test.YtmanhikpccnfaaaPlainStore
namespace Go.Proofs.Ytmanhikpccnfaaa
open Go.RowKit

/-- A memory of bytes from 64 on. -/
def rsB (l : List UInt8) : List Reg := [⟨64, l, true⟩]
theorem good_rsB {l : List UInt8} (hl : l.length = 32) : Good (rsB l) :=
  ⟨by simp [rsB], by simp only [rsB, List.mem_singleton, forall_eq]; exact ⟨by intro h; rw [h] at hl; simp at hl, by omega⟩, by simp only [rsB, List.mem_singleton, forall_eq]; omega, by simp [rsB]⟩
theorem check_rsB : checkF (rsB (List.replicate 32 0)) = 0 := by decide
theorem place_rsB {l : List UInt8} (hl : l.length = 32) {k : Nat} (hk : k ≤ 24) : placeF (rsB l) (64 + k) 8 = some (0, k) := by
  have hf : findI (rsB l) (64 + k) = 0 := findI_eq (by simp) (fun j r hj => by omega) (fun r hr => by
    simp [rsB] at hr; subst hr; simp [lastOf, hl]; omega)
  unfold placeF
  rw [hf]
  simp [rsB, hl]
  omega
theorem store_rsB {l : List UInt8} (hl : l.length = 32) {k : Nat} (hk : k ≤ 24) (v : Nat) : storeF (rsB l) (64 + k) v = some (rsB (putTo l k v 8)) := by
  unfold storeF
  rw [place_rsB hl hk]
  simp [rsB]
theorem load_rsB {l : List UInt8} (hl : l.length = 32) {k : Nat} (hk : k ≤ 24) : loadF (rsB l) (64 + k) = some (wordOf ((l.drop k).take 8)) := by
  unfold loadF
  rw [place_rsB hl hk]
  simp [rsB]
theorem put_len {l : List UInt8} (hl : l.length = 32) (k v : Nat) : (putTo l k v 8).length = 32 := by rw [putTo_length]; exact hl
theorem word_put {l : List UInt8} (hl : l.length = 32) {k v : Nat} (hk : k ≤ 24) (hv : v < 18446744073709551616) : wordOf (((putTo l k v 8).drop k).take 8) = v := by
  have h := load_store hv (good_rsB hl) (store_rsB hl hk v)
  rw [load_rsB (put_len hl k v) hk] at h
  exact Option.some.inj h
theorem put_drop {l : List UInt8} (hl : l.length = 32) {k v j : Nat} (hk : k ≤ 24) (hj : k + 8 ≤ j) : (putTo l k v 8).drop j = l.drop j := by
  refine List.ext_getElem? fun q => ?_
  rw [List.getElem?_drop, List.getElem?_drop, putTo_get 8 _ (by omega), if_neg (by omega)]

/-- A state of which registers and the place count. -/
def stP (R : List Nat) (pc : Nat) : St := ⟨R, pc, false, false, false⟩
theorem chk_push : ∀ x : Fin 16, chkP ⟨28, 0, ((x : Nat) : Int), 0, 0, 0, 0, 0, 0⟩ = true := by decide +kernel
theorem chk_pop : ∀ x : Fin 16, chkP ⟨29, ((x : Nat) : Int), 0, 0, 0, 0, 0, 0, 0⟩ = true := by decide +kernel
theorem step_push {R : List Nat} {pc x v k : Nat} {l : List UInt8} (hl : l.length = 32) (hx : x < 16) (hv : R[x]? = some v) (h4 : R[4]? = some (72 + k)) (hk : k ≤ 24) (hp : pc < 1000000) :
    stepF (stP R pc) ⟨28, 0, (x : Int), 0, 0, 0, 0, 0, 0⟩ 1 (rsB l) = ⟨0, stP (R.set 4 (64 + k)) (pc + 1), [⟨1, pc⟩, ⟨3, 64 + k⟩], rsB (putTo l k v 8)⟩ := by
  have hc := chk_push ⟨x, hx⟩
  have e : (pc + u64 1) % 18446744073709551616 = pc + 1 := by rw [show u64 1 = 1 from rfl]; omega
  have hd : doF (stP R (pc + 1)) ⟨28, 0, (x : Int), 0, 0, 0, 0, 0, 0⟩ (rsB l) 0 = (stP (R.set 4 (64 + k)) (pc + 1), [⟨3, 64 + k⟩], 0, rsB (putTo l k v 8)) := by
    have h4' : regAt (stP R (pc + 1)) 4 = 72 + k := by simp [regAt, stP, List.getD_eq_getElem?_getD, h4]
    have hx' : regAt (stP R (pc + 1)) (x : Int) = v := by simp [regAt, stP, List.getD_eq_getElem?_getD, hv]
    have e1 : (18446744073709551616 + (72 + k) - 8) % 18446744073709551616 = 64 + k := by omega
    simp only [doF, h4', hx', e1, storeVE, store_rsB hl hk]
    rfl
  have h := stepF_do (s := stP R pc) (i := ⟨28, 0, (x : Int), 0, 0, 0, 0, 0, 0⟩) (size := 1) (rs := rsB l) hc (by decide) (by decide) rfl (by
    show (doF (stP R ((pc + u64 1) % 18446744073709551616)) _ _ _).2.2.1 = 0
    rw [e, hd])
  rw [h]
  show StepR.mk 0 (doF (stP R ((pc + u64 1) % 18446744073709551616)) _ _ _).1 (_ :: (doF (stP R ((pc + u64 1) % 18446744073709551616)) _ _ _).2.1) (doF (stP R ((pc + u64 1) % 18446744073709551616)) _ _ _).2.2.2 = _
  rw [e, hd]
  rfl
theorem step_pop {R : List Nat} {pc x k : Nat} {l : List UInt8} (hl : l.length = 32) (hx : x < 16) (h4 : R[4]? = some (64 + k)) (hk : k ≤ 24) (hp : pc < 1000000) :
    stepF (stP R pc) ⟨29, (x : Int), 0, 0, 0, 0, 0, 0, 0⟩ 1 (rsB l) = ⟨0, stP ((R.set 4 (72 + k)).set x (wordOf ((l.drop k).take 8))) (pc + 1), [⟨1, pc⟩, ⟨2, 64 + k⟩], rsB l⟩ := by
  have hc := chk_pop ⟨x, hx⟩
  have e : (pc + u64 1) % 18446744073709551616 = pc + 1 := by rw [show u64 1 = 1 from rfl]; omega
  have hd : doF (stP R (pc + 1)) ⟨29, (x : Int), 0, 0, 0, 0, 0, 0, 0⟩ (rsB l) 0 = (stP ((R.set 4 (72 + k)).set x (wordOf ((l.drop k).take 8))) (pc + 1), [⟨2, 64 + k⟩], 0, rsB l) := by
    have h4' : regAt (stP R (pc + 1)) 4 = 64 + k := by simp [regAt, stP, List.getD_eq_getElem?_getD, h4]
    have e1 : (64 + k + 8) % 18446744073709551616 = 72 + k := by omega
    simp only [doF, h4', e1, load_rsB hl hk, loadVE]
    rfl
  have h := stepF_do (s := stP R pc) (i := ⟨29, (x : Int), 0, 0, 0, 0, 0, 0, 0⟩) (size := 1) (rs := rsB l) hc (by decide) (by decide) rfl (by
    show (doF (stP R ((pc + u64 1) % 18446744073709551616)) _ _ _).2.2.1 = 0
    rw [e, hd])
  rw [h]
  show StepR.mk 0 (doF (stP R ((pc + u64 1) % 18446744073709551616)) _ _ _).1 (_ :: (doF (stP R ((pc + u64 1) % 18446744073709551616)) _ _ _).2.1) (doF (stP R ((pc + u64 1) % 18446744073709551616)) _ _ _).2.2.2 = _
  rw [e, hd]
  rfl
end Go.Proofs.Ytmanhikpccnfaaa
