/- limb.fields: whether an operation has what it must. -/
import Derived.Test.YtppoiahhaclleaaDoorLimbC
namespace Go.Proofs.YtppoiahhaclleaaDoor
open Go.RowKit

def zV (k what : Int) : Int := bits .and .i64 (hasV k).1 what
def okP (z r n : Int) : Bool := !failB (noneB z r) r n
theorem okP_none (r n : Int) : okP 0 r n = (r == -1) := by
  unfold okP failB noneB
  cases h : (r == -1) <;> simp [bne, h]
theorem okP_has {z : Int} (r n : Int) (h0 : z ≠ 0) (h1 : z ≠ 64) : okP z r n = (decide (0 ≤ r) && decide (r < n)) := by
  unfold okP failB noneB
  rw [show (z == 0) = false by simpa using h0, show (z == 64) = false by simpa using h1]
  simp [← Int.not_le]
theorem okP_may (r n : Int) : okP 64 r n = ((decide (0 ≤ r) && decide (r < n)) || r == -1) := by
  unfold okP failB noneB
  by_cases h : r = -1
  · subst h; simp
  · have : (r == -1) = false := by simpa using h
    rw [this]
    simp [bne, this, ← Int.not_le]
def xB (p : LP) (o : LOp) : Bool := match p.bufs[o.buf.toNat]? with
  | some b => b.kind == 1
  | none => false
theorem fields_law (p : LP) (o : LOp) (hs : ∀ b ∈ p.bufs, 0 ≤ b.size ∧ b.size ≤ 9223372036854775807) :
    fieldsF p o = ((hasV o.kind).2 && ((okP (zV o.kind 1) o.d p.regs && (okP (zV o.kind 2) o.e p.regs && (okP (zV o.kind 68) o.a p.regs && (okP (zV o.kind 8) o.b p.regs && okP (zV o.kind 16) o.c p.regs)))) &&
      (!fail11 (zV o.kind 2) (zV o.kind 32) o.d o.e o.buf && (!fail13 (zV o.kind 32) o.buf o.kind p.bufs.length (xB p o) && numP p o)))) := by
  rcases kind_cases o.kind with hk | hk | hk | hk | hk | hk | hk | hk | hk | hk | hk | hk | hk | hk | hk | hk | hk | hk
  · have e1 : hasV o.kind = (1, true) := by rw [hk]; rfl
    have e0 : fieldsF p o = (regsB p o && bufOk p o) := fields_split (by omega) (by omega)
    rw [e0, e1]
    rw [show zV o.kind 1 = 1 by unfold zV; rw [e1]; rfl]
    rw [show zV o.kind 2 = 0 by unfold zV; rw [e1]; rfl]
    rw [show zV o.kind 68 = 0 by unfold zV; rw [e1]; rfl]
    rw [show zV o.kind 8 = 0 by unfold zV; rw [e1]; rfl]
    rw [show zV o.kind 16 = 0 by unfold zV; rw [e1]; rfl]
    rw [show zV o.kind 32 = 0 by unfold zV; rw [e1]; rfl]
    rw [show okP 1 o.d p.regs = _ from okP_has _ _ (by decide) (by decide)]
    rw [show okP 0 o.e p.regs = _ from okP_none _ _]
    rw [show okP 0 o.a p.regs = _ from okP_none _ _]
    rw [show okP 0 o.b p.regs = _ from okP_none _ _]
    rw [show okP 0 o.c p.regs = _ from okP_none _ _]
    unfold regsB
    rw [hk]
    rw [numP_plain (by unfold kM; rw [hk]; rfl)]
    unfold bufOk fail11 fail13
    rw [show kM o.kind = false by unfold kM; rw [hk]; rfl]
    simp only [regIs, kD, kE, kA, kB, kC, kM]
    simp [bne, Bool.and_assoc]
  · have e1 : hasV o.kind = (5, true) := by rw [hk]; rfl
    have e0 : fieldsF p o = (regsB p o && bufOk p o) := fields_split (by omega) (by omega)
    rw [e0, e1]
    rw [show zV o.kind 1 = 1 by unfold zV; rw [e1]; rfl]
    rw [show zV o.kind 2 = 0 by unfold zV; rw [e1]; rfl]
    rw [show zV o.kind 68 = 4 by unfold zV; rw [e1]; rfl]
    rw [show zV o.kind 8 = 0 by unfold zV; rw [e1]; rfl]
    rw [show zV o.kind 16 = 0 by unfold zV; rw [e1]; rfl]
    rw [show zV o.kind 32 = 0 by unfold zV; rw [e1]; rfl]
    rw [show okP 1 o.d p.regs = _ from okP_has _ _ (by decide) (by decide)]
    rw [show okP 0 o.e p.regs = _ from okP_none _ _]
    rw [show okP 4 o.a p.regs = _ from okP_has _ _ (by decide) (by decide)]
    rw [show okP 0 o.b p.regs = _ from okP_none _ _]
    rw [show okP 0 o.c p.regs = _ from okP_none _ _]
    unfold regsB
    rw [hk]
    rw [numP_plain (by unfold kM; rw [hk]; rfl)]
    unfold bufOk fail11 fail13
    rw [show kM o.kind = false by unfold kM; rw [hk]; rfl]
    simp only [regIs, kD, kE, kA, kB, kC, kM]
    simp [bne, Bool.and_assoc]
  · have e1 : hasV o.kind = (13, true) := by rw [hk]; rfl
    have e0 : fieldsF p o = (regsB p o && bufOk p o) := fields_split (by omega) (by omega)
    rw [e0, e1]
    rw [show zV o.kind 1 = 1 by unfold zV; rw [e1]; rfl]
    rw [show zV o.kind 2 = 0 by unfold zV; rw [e1]; rfl]
    rw [show zV o.kind 68 = 4 by unfold zV; rw [e1]; rfl]
    rw [show zV o.kind 8 = 8 by unfold zV; rw [e1]; rfl]
    rw [show zV o.kind 16 = 0 by unfold zV; rw [e1]; rfl]
    rw [show zV o.kind 32 = 0 by unfold zV; rw [e1]; rfl]
    rw [show okP 1 o.d p.regs = _ from okP_has _ _ (by decide) (by decide)]
    rw [show okP 0 o.e p.regs = _ from okP_none _ _]
    rw [show okP 4 o.a p.regs = _ from okP_has _ _ (by decide) (by decide)]
    rw [show okP 8 o.b p.regs = _ from okP_has _ _ (by decide) (by decide)]
    rw [show okP 0 o.c p.regs = _ from okP_none _ _]
    unfold regsB
    rw [hk]
    rw [numP_plain (by unfold kM; rw [hk]; rfl)]
    unfold bufOk fail11 fail13
    rw [show kM o.kind = false by unfold kM; rw [hk]; rfl]
    simp only [regIs, kD, kE, kA, kB, kC, kM]
    simp [bne, Bool.and_assoc]
  · have e1 : hasV o.kind = (13, true) := by rw [hk]; rfl
    have e0 : fieldsF p o = (regsB p o && bufOk p o) := fields_split (by omega) (by omega)
    rw [e0, e1]
    rw [show zV o.kind 1 = 1 by unfold zV; rw [e1]; rfl]
    rw [show zV o.kind 2 = 0 by unfold zV; rw [e1]; rfl]
    rw [show zV o.kind 68 = 4 by unfold zV; rw [e1]; rfl]
    rw [show zV o.kind 8 = 8 by unfold zV; rw [e1]; rfl]
    rw [show zV o.kind 16 = 0 by unfold zV; rw [e1]; rfl]
    rw [show zV o.kind 32 = 0 by unfold zV; rw [e1]; rfl]
    rw [show okP 1 o.d p.regs = _ from okP_has _ _ (by decide) (by decide)]
    rw [show okP 0 o.e p.regs = _ from okP_none _ _]
    rw [show okP 4 o.a p.regs = _ from okP_has _ _ (by decide) (by decide)]
    rw [show okP 8 o.b p.regs = _ from okP_has _ _ (by decide) (by decide)]
    rw [show okP 0 o.c p.regs = _ from okP_none _ _]
    unfold regsB
    rw [hk]
    rw [numP_plain (by unfold kM; rw [hk]; rfl)]
    unfold bufOk fail11 fail13
    rw [show kM o.kind = false by unfold kM; rw [hk]; rfl]
    simp only [regIs, kD, kE, kA, kB, kC, kM]
    simp [bne, Bool.and_assoc]
  · have e1 : hasV o.kind = (13, true) := by rw [hk]; rfl
    have e0 : fieldsF p o = (regsB p o && bufOk p o) := fields_split (by omega) (by omega)
    rw [e0, e1]
    rw [show zV o.kind 1 = 1 by unfold zV; rw [e1]; rfl]
    rw [show zV o.kind 2 = 0 by unfold zV; rw [e1]; rfl]
    rw [show zV o.kind 68 = 4 by unfold zV; rw [e1]; rfl]
    rw [show zV o.kind 8 = 8 by unfold zV; rw [e1]; rfl]
    rw [show zV o.kind 16 = 0 by unfold zV; rw [e1]; rfl]
    rw [show zV o.kind 32 = 0 by unfold zV; rw [e1]; rfl]
    rw [show okP 1 o.d p.regs = _ from okP_has _ _ (by decide) (by decide)]
    rw [show okP 0 o.e p.regs = _ from okP_none _ _]
    rw [show okP 4 o.a p.regs = _ from okP_has _ _ (by decide) (by decide)]
    rw [show okP 8 o.b p.regs = _ from okP_has _ _ (by decide) (by decide)]
    rw [show okP 0 o.c p.regs = _ from okP_none _ _]
    unfold regsB
    rw [hk]
    rw [numP_plain (by unfold kM; rw [hk]; rfl)]
    unfold bufOk fail11 fail13
    rw [show kM o.kind = false by unfold kM; rw [hk]; rfl]
    simp only [regIs, kD, kE, kA, kB, kC, kM]
    simp [bne, Bool.and_assoc]
  · have e1 : hasV o.kind = (13, true) := by rw [hk]; rfl
    have e0 : fieldsF p o = (regsB p o && bufOk p o) := fields_split (by omega) (by omega)
    rw [e0, e1]
    rw [show zV o.kind 1 = 1 by unfold zV; rw [e1]; rfl]
    rw [show zV o.kind 2 = 0 by unfold zV; rw [e1]; rfl]
    rw [show zV o.kind 68 = 4 by unfold zV; rw [e1]; rfl]
    rw [show zV o.kind 8 = 8 by unfold zV; rw [e1]; rfl]
    rw [show zV o.kind 16 = 0 by unfold zV; rw [e1]; rfl]
    rw [show zV o.kind 32 = 0 by unfold zV; rw [e1]; rfl]
    rw [show okP 1 o.d p.regs = _ from okP_has _ _ (by decide) (by decide)]
    rw [show okP 0 o.e p.regs = _ from okP_none _ _]
    rw [show okP 4 o.a p.regs = _ from okP_has _ _ (by decide) (by decide)]
    rw [show okP 8 o.b p.regs = _ from okP_has _ _ (by decide) (by decide)]
    rw [show okP 0 o.c p.regs = _ from okP_none _ _]
    unfold regsB
    rw [hk]
    rw [numP_plain (by unfold kM; rw [hk]; rfl)]
    unfold bufOk fail11 fail13
    rw [show kM o.kind = false by unfold kM; rw [hk]; rfl]
    simp only [regIs, kD, kE, kA, kB, kC, kM]
    simp [bne, Bool.and_assoc]
  · have e1 : hasV o.kind = (13, true) := by rw [hk]; rfl
    have e0 : fieldsF p o = (regsB p o && bufOk p o) := fields_split (by omega) (by omega)
    rw [e0, e1]
    rw [show zV o.kind 1 = 1 by unfold zV; rw [e1]; rfl]
    rw [show zV o.kind 2 = 0 by unfold zV; rw [e1]; rfl]
    rw [show zV o.kind 68 = 4 by unfold zV; rw [e1]; rfl]
    rw [show zV o.kind 8 = 8 by unfold zV; rw [e1]; rfl]
    rw [show zV o.kind 16 = 0 by unfold zV; rw [e1]; rfl]
    rw [show zV o.kind 32 = 0 by unfold zV; rw [e1]; rfl]
    rw [show okP 1 o.d p.regs = _ from okP_has _ _ (by decide) (by decide)]
    rw [show okP 0 o.e p.regs = _ from okP_none _ _]
    rw [show okP 4 o.a p.regs = _ from okP_has _ _ (by decide) (by decide)]
    rw [show okP 8 o.b p.regs = _ from okP_has _ _ (by decide) (by decide)]
    rw [show okP 0 o.c p.regs = _ from okP_none _ _]
    unfold regsB
    rw [hk]
    rw [numP_plain (by unfold kM; rw [hk]; rfl)]
    unfold bufOk fail11 fail13
    rw [show kM o.kind = false by unfold kM; rw [hk]; rfl]
    simp only [regIs, kD, kE, kA, kB, kC, kM]
    simp [bne, Bool.and_assoc]
  · have e1 : hasV o.kind = (5, true) := by rw [hk]; rfl
    have e0 : fieldsF p o = (regsB p o && bufOk p o) := fields_split (by omega) (by omega)
    rw [e0, e1]
    rw [show zV o.kind 1 = 1 by unfold zV; rw [e1]; rfl]
    rw [show zV o.kind 2 = 0 by unfold zV; rw [e1]; rfl]
    rw [show zV o.kind 68 = 4 by unfold zV; rw [e1]; rfl]
    rw [show zV o.kind 8 = 0 by unfold zV; rw [e1]; rfl]
    rw [show zV o.kind 16 = 0 by unfold zV; rw [e1]; rfl]
    rw [show zV o.kind 32 = 0 by unfold zV; rw [e1]; rfl]
    rw [show okP 1 o.d p.regs = _ from okP_has _ _ (by decide) (by decide)]
    rw [show okP 0 o.e p.regs = _ from okP_none _ _]
    rw [show okP 4 o.a p.regs = _ from okP_has _ _ (by decide) (by decide)]
    rw [show okP 0 o.b p.regs = _ from okP_none _ _]
    rw [show okP 0 o.c p.regs = _ from okP_none _ _]
    unfold regsB
    rw [hk]
    rw [numP_plain (by unfold kM; rw [hk]; rfl)]
    unfold bufOk fail11 fail13
    rw [show kM o.kind = false by unfold kM; rw [hk]; rfl]
    simp only [regIs, kD, kE, kA, kB, kC, kM]
    simp [bne, Bool.and_assoc]
  · have e1 : hasV o.kind = (5, true) := by rw [hk]; rfl
    have e0 : fieldsF p o = (regsB p o && bufOk p o) := fields_split (by omega) (by omega)
    rw [e0, e1]
    rw [show zV o.kind 1 = 1 by unfold zV; rw [e1]; rfl]
    rw [show zV o.kind 2 = 0 by unfold zV; rw [e1]; rfl]
    rw [show zV o.kind 68 = 4 by unfold zV; rw [e1]; rfl]
    rw [show zV o.kind 8 = 0 by unfold zV; rw [e1]; rfl]
    rw [show zV o.kind 16 = 0 by unfold zV; rw [e1]; rfl]
    rw [show zV o.kind 32 = 0 by unfold zV; rw [e1]; rfl]
    rw [show okP 1 o.d p.regs = _ from okP_has _ _ (by decide) (by decide)]
    rw [show okP 0 o.e p.regs = _ from okP_none _ _]
    rw [show okP 4 o.a p.regs = _ from okP_has _ _ (by decide) (by decide)]
    rw [show okP 0 o.b p.regs = _ from okP_none _ _]
    rw [show okP 0 o.c p.regs = _ from okP_none _ _]
    unfold regsB
    rw [hk]
    rw [numP_plain (by unfold kM; rw [hk]; rfl)]
    unfold bufOk fail11 fail13
    rw [show kM o.kind = false by unfold kM; rw [hk]; rfl]
    simp only [regIs, kD, kE, kA, kB, kC, kM]
    simp [bne, Bool.and_assoc]
  · have e1 : hasV o.kind = (15, true) := by rw [hk]; rfl
    have e0 : fieldsF p o = (regsB p o && bufOk p o) := fields_split (by omega) (by omega)
    rw [e0, e1]
    rw [show zV o.kind 1 = 1 by unfold zV; rw [e1]; rfl]
    rw [show zV o.kind 2 = 2 by unfold zV; rw [e1]; rfl]
    rw [show zV o.kind 68 = 4 by unfold zV; rw [e1]; rfl]
    rw [show zV o.kind 8 = 8 by unfold zV; rw [e1]; rfl]
    rw [show zV o.kind 16 = 0 by unfold zV; rw [e1]; rfl]
    rw [show zV o.kind 32 = 0 by unfold zV; rw [e1]; rfl]
    rw [show okP 1 o.d p.regs = _ from okP_has _ _ (by decide) (by decide)]
    rw [show okP 2 o.e p.regs = _ from okP_has _ _ (by decide) (by decide)]
    rw [show okP 4 o.a p.regs = _ from okP_has _ _ (by decide) (by decide)]
    rw [show okP 8 o.b p.regs = _ from okP_has _ _ (by decide) (by decide)]
    rw [show okP 0 o.c p.regs = _ from okP_none _ _]
    unfold regsB
    rw [hk]
    rw [numP_plain (by unfold kM; rw [hk]; rfl)]
    unfold bufOk fail11 fail13
    rw [show kM o.kind = false by unfold kM; rw [hk]; rfl]
    simp only [regIs, kD, kE, kA, kB, kC, kM]
    simp [bne, Bool.and_assoc]
  · have e1 : hasV o.kind = (31, true) := by rw [hk]; rfl
    have e0 : fieldsF p o = (regsB p o && bufOk p o) := fields_split (by omega) (by omega)
    rw [e0, e1]
    rw [show zV o.kind 1 = 1 by unfold zV; rw [e1]; rfl]
    rw [show zV o.kind 2 = 2 by unfold zV; rw [e1]; rfl]
    rw [show zV o.kind 68 = 4 by unfold zV; rw [e1]; rfl]
    rw [show zV o.kind 8 = 8 by unfold zV; rw [e1]; rfl]
    rw [show zV o.kind 16 = 16 by unfold zV; rw [e1]; rfl]
    rw [show zV o.kind 32 = 0 by unfold zV; rw [e1]; rfl]
    rw [show okP 1 o.d p.regs = _ from okP_has _ _ (by decide) (by decide)]
    rw [show okP 2 o.e p.regs = _ from okP_has _ _ (by decide) (by decide)]
    rw [show okP 4 o.a p.regs = _ from okP_has _ _ (by decide) (by decide)]
    rw [show okP 8 o.b p.regs = _ from okP_has _ _ (by decide) (by decide)]
    rw [show okP 16 o.c p.regs = _ from okP_has _ _ (by decide) (by decide)]
    unfold regsB
    rw [hk]
    rw [numP_plain (by unfold kM; rw [hk]; rfl)]
    unfold bufOk fail11 fail13
    rw [show kM o.kind = false by unfold kM; rw [hk]; rfl]
    simp only [regIs, kD, kE, kA, kB, kC, kM]
    simp [bne, Bool.and_assoc]
  · have e1 : hasV o.kind = (31, true) := by rw [hk]; rfl
    have e0 : fieldsF p o = (regsB p o && bufOk p o) := fields_split (by omega) (by omega)
    rw [e0, e1]
    rw [show zV o.kind 1 = 1 by unfold zV; rw [e1]; rfl]
    rw [show zV o.kind 2 = 2 by unfold zV; rw [e1]; rfl]
    rw [show zV o.kind 68 = 4 by unfold zV; rw [e1]; rfl]
    rw [show zV o.kind 8 = 8 by unfold zV; rw [e1]; rfl]
    rw [show zV o.kind 16 = 16 by unfold zV; rw [e1]; rfl]
    rw [show zV o.kind 32 = 0 by unfold zV; rw [e1]; rfl]
    rw [show okP 1 o.d p.regs = _ from okP_has _ _ (by decide) (by decide)]
    rw [show okP 2 o.e p.regs = _ from okP_has _ _ (by decide) (by decide)]
    rw [show okP 4 o.a p.regs = _ from okP_has _ _ (by decide) (by decide)]
    rw [show okP 8 o.b p.regs = _ from okP_has _ _ (by decide) (by decide)]
    rw [show okP 16 o.c p.regs = _ from okP_has _ _ (by decide) (by decide)]
    unfold regsB
    rw [hk]
    rw [numP_plain (by unfold kM; rw [hk]; rfl)]
    unfold bufOk fail11 fail13
    rw [show kM o.kind = false by unfold kM; rw [hk]; rfl]
    simp only [regIs, kD, kE, kA, kB, kC, kM]
    simp [bne, Bool.and_assoc]
  · have e1 : hasV o.kind = (29, true) := by rw [hk]; rfl
    have e0 : fieldsF p o = (regsB p o && bufOk p o) := fields_split (by omega) (by omega)
    rw [e0, e1]
    rw [show zV o.kind 1 = 1 by unfold zV; rw [e1]; rfl]
    rw [show zV o.kind 2 = 0 by unfold zV; rw [e1]; rfl]
    rw [show zV o.kind 68 = 4 by unfold zV; rw [e1]; rfl]
    rw [show zV o.kind 8 = 8 by unfold zV; rw [e1]; rfl]
    rw [show zV o.kind 16 = 16 by unfold zV; rw [e1]; rfl]
    rw [show zV o.kind 32 = 0 by unfold zV; rw [e1]; rfl]
    rw [show okP 1 o.d p.regs = _ from okP_has _ _ (by decide) (by decide)]
    rw [show okP 0 o.e p.regs = _ from okP_none _ _]
    rw [show okP 4 o.a p.regs = _ from okP_has _ _ (by decide) (by decide)]
    rw [show okP 8 o.b p.regs = _ from okP_has _ _ (by decide) (by decide)]
    rw [show okP 16 o.c p.regs = _ from okP_has _ _ (by decide) (by decide)]
    unfold regsB
    rw [hk]
    rw [numP_plain (by unfold kM; rw [hk]; rfl)]
    unfold bufOk fail11 fail13
    rw [show kM o.kind = false by unfold kM; rw [hk]; rfl]
    simp only [regIs, kD, kE, kA, kB, kC, kM]
    simp [bne, Bool.and_assoc]
  · have e1 : hasV o.kind = (97, true) := by rw [hk]; rfl
    have e0 : fieldsF p o = (regsB p o && bufOk p o) := fields_split (by omega) (by omega)
    rw [e0, e1]
    rw [show zV o.kind 1 = 1 by unfold zV; rw [e1]; rfl]
    rw [show zV o.kind 2 = 0 by unfold zV; rw [e1]; rfl]
    rw [show zV o.kind 68 = 64 by unfold zV; rw [e1]; rfl]
    rw [show zV o.kind 8 = 0 by unfold zV; rw [e1]; rfl]
    rw [show zV o.kind 16 = 0 by unfold zV; rw [e1]; rfl]
    rw [show zV o.kind 32 = 32 by unfold zV; rw [e1]; rfl]
    rw [show okP 1 o.d p.regs = _ from okP_has _ _ (by decide) (by decide)]
    rw [show okP 0 o.e p.regs = _ from okP_none _ _]
    rw [show okP 64 o.a p.regs = _ from okP_may _ _]
    rw [show okP 0 o.b p.regs = _ from okP_none _ _]
    rw [show okP 0 o.c p.regs = _ from okP_none _ _]
    unfold regsB
    rw [hk]
    unfold bufOk fail11 fail13 numP xB
    rw [show kM o.kind = true by unfold kM; rw [hk]; rfl, hk]
    simp only [regIs, kD, kE, kA, kB, kC, kM]
    by_cases hb : 0 ≤ o.buf ∧ o.buf < p.bufs.length
    · obtain ⟨b, hbf⟩ : ∃ b, p.bufs[o.buf.toNat]? = some b := ⟨_, List.getElem?_eq_getElem (by omega)⟩
      have hsb := hs b (List.mem_of_getElem? hbf)
      rw [hbf, decide_eq_true hb.1, decide_eq_true hb.2, decide_eq_false (by omega : ¬ o.buf < 0), decide_eq_false (by omega : ¬ (p.bufs.length : Int) ≤ o.buf)]
      simp only [Int.emod_eq_of_lt hsb.1 (by omega : b.size < 18446744073709551616)]
      simp [bne, Bool.and_assoc]
    · have h1 : (decide (0 ≤ o.buf) && decide (o.buf < p.bufs.length)) = false := by
        rw [Bool.and_eq_false_iff]
        by_cases h : 0 ≤ o.buf
        · exact .inr (decide_eq_false fun h' => hb ⟨h, h'⟩)
        · exact .inl (decide_eq_false h)
      have h2 : (decide (o.buf < 0) || decide ((p.bufs.length : Int) ≤ o.buf)) = true := by
        rw [Bool.or_eq_true, decide_eq_true_iff, decide_eq_true_iff]
        omega
      rw [h2, ← Bool.and_assoc (decide (0 ≤ o.buf)), h1]
      simp
  · have e1 : hasV o.kind = (104, true) := by rw [hk]; rfl
    have e0 : fieldsF p o = (regsB p o && bufOk p o) := fields_split (by omega) (by omega)
    rw [e0, e1]
    rw [show zV o.kind 1 = 0 by unfold zV; rw [e1]; rfl]
    rw [show zV o.kind 2 = 0 by unfold zV; rw [e1]; rfl]
    rw [show zV o.kind 68 = 64 by unfold zV; rw [e1]; rfl]
    rw [show zV o.kind 8 = 8 by unfold zV; rw [e1]; rfl]
    rw [show zV o.kind 16 = 0 by unfold zV; rw [e1]; rfl]
    rw [show zV o.kind 32 = 32 by unfold zV; rw [e1]; rfl]
    rw [show okP 0 o.d p.regs = _ from okP_none _ _]
    rw [show okP 0 o.e p.regs = _ from okP_none _ _]
    rw [show okP 64 o.a p.regs = _ from okP_may _ _]
    rw [show okP 8 o.b p.regs = _ from okP_has _ _ (by decide) (by decide)]
    rw [show okP 0 o.c p.regs = _ from okP_none _ _]
    unfold regsB
    rw [hk]
    unfold bufOk fail11 fail13 numP xB
    rw [show kM o.kind = true by unfold kM; rw [hk]; rfl, hk]
    simp only [regIs, kD, kE, kA, kB, kC, kM]
    by_cases hb : 0 ≤ o.buf ∧ o.buf < p.bufs.length
    · obtain ⟨b, hbf⟩ : ∃ b, p.bufs[o.buf.toNat]? = some b := ⟨_, List.getElem?_eq_getElem (by omega)⟩
      have hsb := hs b (List.mem_of_getElem? hbf)
      rw [hbf, decide_eq_true hb.1, decide_eq_true hb.2, decide_eq_false (by omega : ¬ o.buf < 0), decide_eq_false (by omega : ¬ (p.bufs.length : Int) ≤ o.buf)]
      simp only [Int.emod_eq_of_lt hsb.1 (by omega : b.size < 18446744073709551616)]
      simp [bne, Bool.and_assoc]
    · have h1 : (decide (0 ≤ o.buf) && decide (o.buf < p.bufs.length)) = false := by
        rw [Bool.and_eq_false_iff]
        by_cases h : 0 ≤ o.buf
        · exact .inr (decide_eq_false fun h' => hb ⟨h, h'⟩)
        · exact .inl (decide_eq_false h)
      have h2 : (decide (o.buf < 0) || decide ((p.bufs.length : Int) ≤ o.buf)) = true := by
        rw [Bool.or_eq_true, decide_eq_true_iff, decide_eq_true_iff]
        omega
      rw [h2, ← Bool.and_assoc (decide (0 ≤ o.buf)), h1]
      simp
  · have e1 : hasV o.kind = (1, true) := by rw [hk]; rfl
    have e0 : fieldsF p o = (regsB p o && bufOk p o) := fields_split (by omega) (by omega)
    rw [e0, e1]
    rw [show zV o.kind 1 = 1 by unfold zV; rw [e1]; rfl]
    rw [show zV o.kind 2 = 0 by unfold zV; rw [e1]; rfl]
    rw [show zV o.kind 68 = 0 by unfold zV; rw [e1]; rfl]
    rw [show zV o.kind 8 = 0 by unfold zV; rw [e1]; rfl]
    rw [show zV o.kind 16 = 0 by unfold zV; rw [e1]; rfl]
    rw [show zV o.kind 32 = 0 by unfold zV; rw [e1]; rfl]
    rw [show okP 1 o.d p.regs = _ from okP_has _ _ (by decide) (by decide)]
    rw [show okP 0 o.e p.regs = _ from okP_none _ _]
    rw [show okP 0 o.a p.regs = _ from okP_none _ _]
    rw [show okP 0 o.b p.regs = _ from okP_none _ _]
    rw [show okP 0 o.c p.regs = _ from okP_none _ _]
    unfold regsB
    rw [hk]
    rw [numP_plain (by unfold kM; rw [hk]; rfl)]
    unfold bufOk fail11 fail13
    rw [show kM o.kind = false by unfold kM; rw [hk]; rfl]
    simp only [regIs, kD, kE, kA, kB, kC, kM]
    simp [bne, Bool.and_assoc]
  · have e1 : hasV o.kind = (0, true) := by rw [hk]; rfl
    have e0 : fieldsF p o = (regsB p o && bufOk p o) := fields_split (by omega) (by omega)
    rw [e0, e1]
    rw [show zV o.kind 1 = 0 by unfold zV; rw [e1]; rfl]
    rw [show zV o.kind 2 = 0 by unfold zV; rw [e1]; rfl]
    rw [show zV o.kind 68 = 0 by unfold zV; rw [e1]; rfl]
    rw [show zV o.kind 8 = 0 by unfold zV; rw [e1]; rfl]
    rw [show zV o.kind 16 = 0 by unfold zV; rw [e1]; rfl]
    rw [show zV o.kind 32 = 0 by unfold zV; rw [e1]; rfl]
    rw [show okP 0 o.d p.regs = _ from okP_none _ _]
    rw [show okP 0 o.e p.regs = _ from okP_none _ _]
    rw [show okP 0 o.a p.regs = _ from okP_none _ _]
    rw [show okP 0 o.b p.regs = _ from okP_none _ _]
    rw [show okP 0 o.c p.regs = _ from okP_none _ _]
    unfold regsB
    rw [hk]
    rw [numP_plain (by unfold kM; rw [hk]; rfl)]
    unfold bufOk fail11 fail13
    rw [show kM o.kind = false by unfold kM; rw [hk]; rfl]
    simp only [regIs, kD, kE, kA, kB, kC, kM]
    simp [bne, Bool.and_assoc]
  · have h1 : hasV o.kind = (0, false) := by unfold hasV; repeat (rw [if_neg (by omega)])
    rw [h1]
    unfold fieldsF
    rcases hk with h | h
    · rw [decide_eq_false (by omega)]; rfl
    · rw [decide_eq_false (by omega : ¬ o.kind ≤ 17)]; simp

end Go.Proofs.YtppoiahhaclleaaDoor
