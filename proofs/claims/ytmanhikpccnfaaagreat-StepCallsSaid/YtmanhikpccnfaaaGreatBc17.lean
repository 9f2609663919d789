/- keysmithlaw08.StepCalls: the walk. -/
import Derived.Test.YtmanhikpccnfaaaGreatBc16
import Derived.Test.YtmanhikpccnfaaaGreatBc1
namespace Go.Proofs.YtmanhikpccnfaaaGreat
open Go.RowKit
set_option maxRecDepth 100000 in
set_option maxHeartbeats 40000000 in
theorem calls_walk (hrdo : RDoIs) (s : St) (i : Ins) (size : Int) (v : Value) (l : List Reg) (p : Ins) (va vb : Value) (a b : List Ev) (w : World) (hs : StOk s) (hi : InsOk i) (hl : RegsAt w (fun k => k < w.heap.size) v l) (hn : l.length ≤ 9223372036854775807)
    (ha : EvsAt w (fun k => k < w.heap.size) va a) (han : a.length ≤ 9223372036854775807) (hb : EvsAt w (fun k => k < w.heap.size) vb b) (hbn : b.length ≤ 9223372036854775807) :
    Calls Tryz.prog 5 #[.agg (stRow s).toArray, .agg (insRow i).toArray, .int .i64 size, v, .agg (memRow p).toArray, va, vb] w fun e w' => e = .returned (.bool true) ∧ Below w.heap.size w w' := by
  obtain ⟨A, c, rfl, hlc⟩ := hl.form
  obtain ⟨Aa, ca, rfl, hac⟩ := ha.form
  obtain ⟨Ab, cb, rfl, hbc⟩ := hb.form
  obtain ⟨W, hW, hSep⟩ := three_boxes w s i p
  have HW := Lib.hid hW
  have H := Lib.hid hSep
  have HRDO := Lib.hid hrdo
  have HL0 := Lib.hid (lives_any W)
  have HS := Lib.hid hs
  have HI := Lib.hid hi
  have HL := Lib.hid (regs_next hl hSep.below)
  have HN := Lib.hid hn
  have HA := Lib.hid ha
  have HB := Lib.hid hb
  have HAN := Lib.hid han
  have HLAN := Lib.hid han
  have HBN := Lib.hid hbn
  clear hl hlc ha hac hb hbc hW hSep hs hi hn han hbn hrdo
  generalize hln : l.length = n at *
  generalize hla : a.length = na at *
  generalize hlb : b.length = nb at *
  have HLN := Lib.hid hln
  have HLA := Lib.hid hla
  have HLB := Lib.hid hlb
  clear hln hla hlb
  go_enter Tryz.func5, Tryz.ntmps5
  go_wp2_with fail
  rw [← HW.out]
  refine HL0.out.mono ?_
  rintro e w1 ⟨rfl, hb1⟩
  have hl1 := regs_next HL.out hb1
  have hH := H.out.next hb1
  have HL1 := Lib.hid hl1
  have H1 := Lib.hid (Light_any _ w1 _ l (by rw [HLN.out]; exact HN.out) hl1)
  clear hb1 hl1 HL0 HL H HW
  have H := Lib.hid hH
  clear hH
  cases hlight : lightR l
  · rw [hlight] at H1
    go_wp2_with ((with_reducible refine (H1.out).mono ?_); rintro e w2 ⟨rfl, hb2⟩)
    go_ret
    exact ⟨rfl, (H.out.next hb2).below⟩
  rw [hlight] at H1
  clear hlight
  by_cases hna : 40 < na
  · have d1 : (40 : Int) < (na : Int) := by omega
    have d2 : decide ((40 : Int) < (na : Int)) = true := decide_eq_true d1
    go_wp2_with ((with_reducible refine (H1.out).mono ?_); rintro e w2 ⟨rfl, hb2⟩; have H2 := Lib.hid (H.out.next hb2); clear hb2)
    go_ret
    exact ⟨rfl, H2.out.below⟩
  have HNA := Lib.hid hna
  have d1 : ¬ (40 : Int) < (na : Int) := by omega
  have d2 : decide ((40 : Int) < (na : Int)) = false := decide_eq_false d1
  clear hna
  by_cases hnb : 40 < nb
  · have d3 : (40 : Int) < (nb : Int) := by omega
    have d4 : decide ((40 : Int) < (nb : Int)) = true := decide_eq_true d3
    go_wp2_with ((with_reducible refine (H1.out).mono ?_); rintro e w2 ⟨rfl, hb2⟩; have H2 := Lib.hid (H.out.next hb2); clear hb2)
    go_ret
    exact ⟨rfl, H2.out.below⟩
  have HNB := Lib.hid hnb
  have d3 : ¬ (40 : Int) < (nb : Int) := by omega
  have d4 : decide ((40 : Int) < (nb : Int)) = false := decide_eq_false d3
  clear hnb
  go_wp2_with ((with_reducible refine (H1.out).mono ?_); rintro e w2 ⟨rfl, hb2⟩; have hl2 := regs_next HL1.out hb2; have hH := H.out.next hb2; clear H; have H := Lib.hid hH; have HL2 := Lib.hid hl2; have HN2 := Lib.hid (New_any _ w2 _ l (by rw [HLN.out]; exact HN.out) hl2 (fun _ h => h)); clear hb2 hl2 hH H1 HL1)
  refine HN2.out.mono ?_
  clear d1 d2 d3 d4
  rintro e w3 ⟨hb3, hres⟩
  obtain ⟨m, ce, rfl, hce⟩ : ∃ (m : Value) (ce : Int), e = .returned (.tuple #[m, .int .i64 ce]) ∧ ce = checkF l ∧ (ce = 0 → MemAt w3 (seg w2.heap.size w3.heap.size) m (sortBy Reg.base l)) := by
    rcases hres with ⟨h0, rfl⟩ | ⟨h0, m, rfl, hm⟩
    · exact ⟨_, _, rfl, rfl, fun h => absurd h h0⟩
    · exact ⟨_, _, rfl, h0.symm, fun _ => hm⟩
  have HCE := Lib.hid hce
  have hl3 := regs_next HL2.out hb3
  have HB3 := Lib.hid hb3
  have HN3 := Lib.hid (RNew_any _ w3 _ l (by rw [HLN.out]; exact HN.out) hl3 (fun _ h => h))
  clear hres hce hl3 hb3 HN2 HL2
  go_wp2_with fail
  refine HN3.out.mono ?_
  rintro e w4 ⟨hb4, hres⟩
  obtain ⟨o, rfl, hce2⟩ : ∃ (o : Value), e = .returned (.tuple #[o, .int .i64 ce]) ∧ (ce = 0 → RMemAt w4 (seg w3.heap.size w4.heap.size) o (sortBy Reg.base l)) := by
    rcases hres with ⟨h0, rfl⟩ | ⟨h0, o, rfl, hm⟩
    · exact ⟨_, by rw [HCE.out.1], fun h => absurd (HCE.out.1 ▸ h) h0⟩
    · exact ⟨_, by rw [HCE.out.1, h0], fun _ => hm⟩
  have HCE2 := Lib.hid hce2
  have HB4 := Lib.hid hb4
  clear hres hce2 hb4 HN3
  by_cases hc0 : ce = 0
  · subst hc0
    have hm1 := HCE.out.2 rfl
    have hm2 := HCE2.out rfl
    have hH := (H.out.push (r' := memS _ _ _) HB3.out hm1 fun k hk => hk).push (r' := memR _ _ _) HB4.out hm2 fun k hk => hk
    obtain ⟨bm, rfl⟩ : ∃ bm, m = .pointer (some ⟨bm, 0, none⟩) := by obtain ⟨bm, v, h, _⟩ := hm1; exact ⟨bm, h⟩
    obtain ⟨bo, rfl⟩ : ∃ bo, o = .pointer (some ⟨bo, 0, none⟩) := by obtain ⟨bo, v, h, _⟩ := hm2; exact ⟨bo, h⟩
    generalize sortBy Reg.base l = rs at *
    clear H
    have H := Lib.hid hH
    clear hH hm1 hm2 HCE HCE2 HB3 HB4
    obtain ⟨R, hR⟩ : ∃ R, R = stepF s i size rs := ⟨_, rfl⟩
    have HR := Lib.hid hR
    have HOR := Lib.hid (show StOk R.st from by rw [hR]; exact step_ok HS.out i size rs)
    have HLE := Lib.hid (show R.evs.length ≤ 9223372036854775807 by have := step_evs s i size rs; rw [← hR] at this; omega)
    clear hR
    go_wp2_with (first | ((with_reducible refine sep_id ?_); refine H.out.load 4 rfl _ rfl rfl rfl Tryz.underlying25 rfl (sr_size HS.out) ?_) | ((with_reducible refine sep_id ?_); refine H.out.load 3 rfl _ rfl rfl rfl Tryz.underlying29 rfl (infoIns9 i) ?_))
    refine (H.out.Do 1 rfl HS.out HI.out size HR.out).mono ?_
    rintro e w5 ⟨A5, n5, rfl, hH⟩
    clear H
    have H := Lib.hid hH
    clear hH
    go_wp2_with (first | ((with_reducible refine sep_id ?_); refine H.out.storeFresh (row := stRow R.st) _ _ rfl _ (by rw [sr_len HOR.out]; rfl) rfl rfl rfl (sr_size HOR.out) (stRow_one _) ?_; intro W5 hW5; clear H; have H := Lib.hid hW5; clear hW5) | ((with_reducible refine sep_id ?_); refine H.out.load 6 rfl _ rfl rfl rfl Tryz.underlying25 rfl (sr_size HS.out) ?_) | ((with_reducible refine sep_id ?_); refine H.out.load 5 rfl _ rfl rfl rfl Tryz.underlying29 rfl (infoIns9 i) ?_))
    refine (H.out.RDo HRDO.out 2 rfl HS.out i size HR.out).mono ?_
    rintro e w6 ⟨A6, n6, rfl, hH⟩
    clear H
    have H := Lib.hid hH
    clear hH
    go_wp2_with ((with_reducible refine sep_id ?_); refine H.out.storeFresh (row := stRow R.st) _ _ rfl _ (by rw [sr_len HOR.out]; rfl) rfl rfl rfl (sr_size HOR.out) (stRow_one _) ?_; intro W6 hW6; clear H; have H := Lib.hid hW6; clear hW6)
    have HRS := Lib.hid (mem_good (H.out.get 5 rfl))
    obtain ⟨Ao, no_c, hfield⟩ := H.out.field 4 rfl
    have HV := Lib.hid hfield
    have HLR := Lib.hid (show R.rs.length ≤ 9223372036854775807 by have := HRS.out.len; omega)
    clear hfield
    have d5 : (R.code == R.code) = true := by simp
    have d6 : ((addrF s p : Nat) : Int) == ((addrF s p : Nat) : Int) := by simp
    have d7 : (sameE a b == sameE a b) = true := by simp
    have hS := (Below.refl W6.heap.size W6).drew
    (refine wp_region_lines (Below W6.heap.size W6) (by kernel_rfl) (by kernel_rfl) (Below.refl W6.heap.size W6).drew ?_)
    (try simp only [])
    repeat (first | (refine runL_no (by rfl) ?_; (try simp only [Act.put, List.setIfInBounds_toArray, List.set_cons_zero, List.set_cons_succ])) | (refine runL_val (v := ?_) (by rfl) ?_ ?_; rotate_left; (focus (intro w_ hw_; have c0_ := (HV.out w_ hw_).1; go_simp; (try with_reducible rfl); done)); (try simp only [Act.put, List.setIfInBounds_toArray, List.set_cons_zero, List.set_cons_succ])) | (refine runL_call (f := ?_) (args := ?_) (w1 := ?_) (by rfl) (by rfl) ?_ ?_; rotate_left 3; (focus (go_simp; refine ⟨⟨?_, ?_⟩, ?_⟩ <;> with_reducible rfl)); refine (SameEv_any _ _ _ _ R.evs R.evs HLE.out ((H.out.next hS).evs 3 rfl) ((H.out.next hS).evs 1 rfl) (fun _ hk => hk)).mono ?_; rintro e wA ⟨rfl, hb1⟩; rw [sameE_self]; replace hS := hS.trans (hb1.mono hS.size); clear hb1; refine ⟨_, rfl, .inr hS, ?_⟩; (try simp only [Act.put, List.setIfInBounds_toArray, List.set_cons_zero, List.set_cons_succ])) | (refine runL_call (f := ?_) (args := ?_) (w1 := ?_) (by rfl) (by rfl) ?_ ?_; rotate_left 3; (focus (go_simp; refine ⟨⟨?_, ?_⟩, ?_⟩ <;> with_reducible rfl)); refine (Regions_at (show MemAt _ _ _ R.rs from (H.out.next hS).get 5 rfl) (fun k hk => (H.out.next hS).lt_at (r := memS _ _ R.rs) 5 rfl k hk)).mono ?_; rintro e wB ⟨Ar, cr, rfl, hrg, hb1⟩; have HRG := Lib.hid hrg; replace hS := hS.trans (hb1.mono hS.size); clear hrg hb1; refine ⟨_, rfl, .inr hS, ?_⟩; (try simp only [Act.put, List.setIfInBounds_toArray, List.set_cons_zero, List.set_cons_succ])) | (refine runL_call (f := ?_) (args := ?_) (w1 := ?_) (by rfl) (by rfl) ?_ ?_; rotate_left 3; (focus (go_simp; refine ⟨⟨?_, ?_⟩, ?_⟩ <;> with_reducible rfl)); refine (Same_true HLR.out HRG.out (HV.out _ hS).2).mono ?_; rintro e wC ⟨rfl, hb1⟩; replace hS := hS.trans (hb1.mono hS.size); clear hb1; refine ⟨_, rfl, .inr hS, ?_⟩; (try simp only [Act.put, List.setIfInBounds_toArray, List.set_cons_zero, List.set_cons_succ])) | (refine runL_call (f := ?_) (args := ?_) (w1 := ?_) (by rfl) (by rfl) ?_ ?_; rotate_left 3; (focus (go_simp; refine ⟨⟨?_, ?_⟩, ?_⟩ <;> with_reducible rfl)); refine (Address_row s p HS.out _).mono ?_; rintro e wD ⟨rfl, hb1⟩; replace hS := hS.trans (hb1.mono hS.size); clear hb1; refine ⟨_, rfl, .inr hS, ?_⟩; (try simp only [Act.put, List.setIfInBounds_toArray, List.set_cons_zero, List.set_cons_succ])) | (refine runL_call (f := ?_) (args := ?_) (w1 := ?_) (by rfl) (by rfl) ?_ ?_; rotate_left 3; (focus (go_simp; refine ⟨⟨?_, ?_⟩, ?_⟩ <;> with_reducible rfl)); refine (RAddress_row s p HS.out _).mono ?_; rintro e wE ⟨rfl, hb1⟩; replace hS := hS.trans (hb1.mono hS.size); clear hb1; refine ⟨_, rfl, .inr hS, ?_⟩; (try simp only [Act.put, List.setIfInBounds_toArray, List.set_cons_zero, List.set_cons_succ])) | (refine runL_call (f := ?_) (args := ?_) (w1 := ?_) (by rfl) (by rfl) ?_ ?_; rotate_left 3; (focus (go_simp; refine ⟨⟨?_, ?_⟩, ?_⟩ <;> with_reducible rfl)); refine (SSame_any _ _ _ _ a b (by rw [HLA.out]; exact HLAN.out) (evs_next HA.out (H.out.next hS).below) (evs_next HB.out (H.out.next hS).below) (fun _ hk => hk)).mono ?_; rintro e wF ⟨rfl, hb1⟩; replace hS := hS.trans (hb1.mono hS.size); clear hb1; refine ⟨_, rfl, .inr hS, ?_⟩; (try simp only [Act.put, List.setIfInBounds_toArray, List.set_cons_zero, List.set_cons_succ])) | (refine runL_call (f := ?_) (args := ?_) (w1 := ?_) (by rfl) (by rfl) ?_ ?_; rotate_left 3; (focus (go_simp; refine ⟨⟨?_, ?_⟩, ?_⟩ <;> with_reducible rfl)); refine (RSameEv_any _ _ _ _ a b (by rw [HLA.out]; exact HLAN.out) (evs_next HA.out (H.out.next hS).below) (evs_next HB.out (H.out.next hS).below) (fun _ hk => hk)).mono ?_; rintro e wG ⟨rfl, hb1⟩; replace hS := hS.trans (hb1.mono hS.size); clear hb1; refine ⟨_, rfl, .inr hS, ?_⟩; (try simp only [Act.put, List.setIfInBounds_toArray, List.set_cons_zero, List.set_cons_succ])) | (refine runL_call (f := ?_) (args := ?_) (w1 := ?_) (by rfl) (by rfl) ?_ ?_; rotate_left 3; (focus (go_simp; refine ⟨⟨?_, ?_⟩, ?_⟩ <;> with_reducible rfl)); refine (SSame_any _ _ _ _ a a (by rw [HLA.out]; exact HLAN.out) (evs_next HA.out (H.out.next hS).below) (evs_next HA.out (H.out.next hS).below) (fun _ hk => hk)).mono ?_; rintro e wH ⟨rfl, hb1⟩; rw [sameE_self]; replace hS := hS.trans (hb1.mono hS.size); clear hb1; refine ⟨_, rfl, .inr hS, ?_⟩; (try simp only [Act.put, List.setIfInBounds_toArray, List.set_cons_zero, List.set_cons_succ])) | (refine runL_val (v := .agg (stRow R.st).toArray) (by rfl) (fun w_ hw_ => (H.out.next hw_).exec 2 rfl _ rfl rfl Tryz.underlying25 rfl (sr_size HOR.out)) ?_; (try simp only [Act.put, List.setIfInBounds_toArray, List.set_cons_zero, List.set_cons_succ])) | (refine runL_val (v := .agg (stRow R.st).toArray) (by rfl) (fun w_ hw_ => (H.out.next hw_).exec 0 rfl _ rfl rfl Tryz.underlying25 rfl (sr_size HOR.out)) ?_; (try simp only [Act.put, List.setIfInBounds_toArray, List.set_cons_zero, List.set_cons_succ])) | (refine runL_val (v := .agg (stRow s).toArray) (by rfl) (fun w_ hw_ => (H.out.next hw_).exec 8 rfl _ rfl rfl Tryz.underlying25 rfl (sr_size HS.out)) ?_; (try simp only [Act.put, List.setIfInBounds_toArray, List.set_cons_zero, List.set_cons_succ])) | (refine runL_val (v := .agg (memRow p).toArray) (by rfl) (fun w_ hw_ => (H.out.next hw_).exec 6 rfl _ rfl rfl Tryz.underlying27 rfl (memRow_size p)) ?_; (try simp only [Act.put, List.setIfInBounds_toArray, List.set_cons_zero, List.set_cons_succ])) | (refine runL_val (v := .bool true) (by rfl) (fun w_ hw_ => exec_same_st _ _ rfl HOR.out rfl rfl) ?_; (try simp only [Act.put, List.setIfInBounds_toArray, List.set_cons_zero, List.set_cons_succ])))
    (refine runL_nil ?_)
    go_wp2
    go_ret
    exact ⟨rfl, (H.out.next hS).below⟩
  · have e1 : (ce != 0) = true := by simpa using hc0
    clear hc0
    go_wp2
    go_ret
    exact ⟨rfl, ((H.out.next HB3.out).next HB4.out).below⟩
end Go.Proofs.YtmanhikpccnfaaaGreat

/- The law on a region that draws its order, where operations that change the world are not all in one order: it branches at them. -/
namespace Go.Proofs.YtmanhikpccnfaaaGreat
open Go

def tIn (ops : Array Oper) (i : Nat) : Bool := match ops[i]? with | some o => isT o | none => false
/-- Two operations that do not wait for each other, and do not both change the world, do not meet. -/
def pairB (ops : Array Oper) (i j : Nat) : Bool := direct ops i j || direct ops j i || (tIn ops i && tIn ops j) || match ops[i]?, ops[j]? with
  | some x, some y => x.apart ops y && y.apart ops x
  | _, _ => false
def branchOk (ops : Array Oper) : Bool :=
  Region.noSelect ops && (List.range ops.size).all fun j => (match ops[j]? with | some o => o.after.all fun e => !Region.binds .any e || decide (e.on < j) | none => false) && (List.range ops.size).all fun i => i == j || pairB ops i j

/-- Operations that are left, l; one that does not change the world may come first; else whichever changes it, and waits for no other one. -/
def runB (P : Program) (ops : Array Oper) (S : World → Prop) (Q : Act → World → Prop) : Nat → List Nat → Act → World → Prop
  | 0, l, a, w => l = [] ∧ Q a w
  | n + 1, l, a, w =>
    (∃ i ∈ l, tIn ops i = false ∧ (∀ k ∈ l, direct ops i k = false) ∧ ∃ o, ops[i]? = some o ∧ ∃ v, YieldsIf P ops S o v a ∧ runB P ops S Q n (l.erase i) (a.put o.dst v) w) ∨
    ((∀ j ∈ l, tIn ops j = false → ∃ k ∈ l, reaches ops ops.size j k = true) ∧ ∀ j ∈ l, tIn ops j = true → (∀ k ∈ l, direct ops j k = false) →
      ∃ o, ops[j]? = some o ∧ Region.wanted o (yielded ops a.tmps) = true ∧ TDoes P o a w fun v w' => S w' ∧ runB P ops S Q n (l.erase j) (a.put o.dst v) w')

section
variable {P : Program} {ops : Array Oper} {S : World → Prop} {Q : Act → World → Prop}

theorem runB_pull (hns : ∀ (j : Nat) (o : Oper) cs b, ops[j]? = some o → o.op ≠ .select cs b) (hpb : ∀ i j, i < ops.size → j < ops.size → i ≠ j → pairB ops i j = true) {listed : Array Bool} (hc : Closed ops listed) {j : Nat} {oj : Oper} (hj : ops[j]? = some oj) (hjT : tIn ops j = false)
    (hdir : ∀ i, direct ops j i = true → listed.getD i false = true) :
    ∀ (n : Nat) (l : List Nat) (a : Act) (w : World), l.Nodup → (∀ i ∈ l, i < ops.size ∧ listed.getD i false = false) → j ∈ l → runB P ops S Q n l a w → S w →
      ∃ v, YieldsIf P ops S oj v a ∧ ∃ m, n = m + 1 ∧ runB P ops S Q m (l.erase j) (a.put oj.dst v) w := by
  intro n
  induction n with
  | zero => intro l a w _ _ hjl h; rw [h.1] at hjl; cases hjl
  | succ n ih =>
    intro l a w hnd hl hjl h hS
    rcases h with ⟨i, hil, hiT, hid, oi, hoi, u, hy, hr⟩ | ⟨hall, _⟩
    · by_cases hij : i = j
      · subst hij
        rw [hj] at hoi
        cases hoi
        exact ⟨u, hy, n, rfl, hr⟩
      · have hji : direct ops j i = false := by
          cases hd : direct ops j i
          · rfl
          · have := hdir i hd; rw [(hl i hil).2] at this; cases this
        have hp := hpb i j (hl i hil).1 (hl j hjl).1 hij
        simp only [pairB, hid j hjl, hji, hiT, Bool.false_and, Bool.false_or, hoi, hj, Bool.and_eq_true] at hp
        obtain ⟨h1, h2, h3⟩ := Oper.apart_spec hp.1
        have hsel : ∀ cs b, oj.op ≠ .select cs b := fun cs b => hns j oj cs b hj
        have hseli : ∀ cs b, oi.op ≠ .select cs b := fun cs b => hns i oi cs b hoi
        have hjl' : j ∈ l.erase i := (List.Nodup.mem_erase_iff hnd).2 ⟨Ne.symm hij, hjl⟩
        have hil' : i ∈ l.erase j := (List.Nodup.mem_erase_iff hnd).2 ⟨hij, hil⟩
        obtain ⟨v, hv, m, hm, hr'⟩ := ih (l.erase i) _ w (hnd.erase i) (fun k hk => hl k (List.mem_of_mem_erase hk)) hjl' hr hS
        refine ⟨v, hv.of_same (execOp_put oj hsel a oi.dst u h1).symm (wanted_put oj a oi.dst u h1).symm, n, rfl, ?_⟩
        subst hm
        refine .inl ⟨i, hil', hiT, fun k hk => hid k (List.mem_of_mem_erase hk), oi, hoi, u, hy.of_same (execOp_put oi hseli a oj.dst v h3) (wanted_put oi a oj.dst v h3), ?_⟩
        rw [← Act.put_comm a u v h2, List.erase_comm]
        exact hr'
    · exfalso
      obtain ⟨k, hk, hr⟩ := hall j hjl hjT
      have := reaches_listed hc _ _ _ hr hdir
      rw [(hl k hk).2] at this; cases this

theorem runB_pullT (hns : ∀ (j : Nat) (o : Oper) cs b, ops[j]? = some o → o.op ≠ .select cs b) (hpb : ∀ i j, i < ops.size → j < ops.size → i ≠ j → pairB ops i j = true) {listed : Array Bool} {j : Nat} {oj : Oper} (hj : ops[j]? = some oj) (hjT : tIn ops j = true)
    (hdir : ∀ i, direct ops j i = true → listed.getD i false = true) :
    ∀ (n : Nat) (l : List Nat) (a : Act) (w : World), l.Nodup → (∀ i ∈ l, i < ops.size ∧ listed.getD i false = false) → j ∈ l → runB P ops S Q n l a w → S w →
      ∃ m, n = m + 1 ∧ wpOp P ops (fun _ _ _ => False) j (fun a' w' => S w' ∧ runB P ops S Q m (l.erase j) a' w') a w := by
  intro n
  induction n with
  | zero => intro l a w _ _ hjl h; rw [h.1] at hjl; cases hjl
  | succ n ih =>
    intro l a w hnd hl hjl h hS
    have hmin : ∀ k ∈ l, direct ops j k = false := fun k hk => by
      cases hd : direct ops j k
      · rfl
      · have := hdir k hd; rw [(hl k hk).2] at this; cases this
    rcases h with ⟨i, hil, hiT, hid, oi, hoi, u, hy, hr⟩ | ⟨_, hall⟩
    · have hij : i ≠ j := fun e => by rw [e, hjT] at hiT; cases hiT
      have hp := hpb i j (hl i hil).1 (hl j hjl).1 hij
      simp only [pairB, hid j hjl, hmin i hil, hiT, Bool.false_and, Bool.false_or, hoi, hj, Bool.and_eq_true] at hp
      have hsel : ∀ cs b, oj.op ≠ .select cs b := fun cs b => hns j oj cs b hj
      have hseli : ∀ cs b, oi.op ≠ .select cs b := fun cs b => hns i oi cs b hoi
      have hjl' : j ∈ l.erase i := (List.Nodup.mem_erase_iff hnd).2 ⟨Ne.symm hij, hjl⟩
      have hil' : i ∈ l.erase j := (List.Nodup.mem_erase_iff hnd).2 ⟨hij, hil⟩
      obtain ⟨m, rfl, h1⟩ := ih (l.erase i) _ w (hnd.erase i) (fun k hk => hl k (List.mem_of_mem_erase hk)) hjl' hr hS
      refine ⟨m + 1, rfl, ?_⟩
      have h2 := wpOp_putIf hj hp.1 hseli hsel (fun _ _ _ h => h) hy h1
      exact wpOp_mono (fun a' w' ⟨hy', hS', hr'⟩ => ⟨hS', .inl ⟨i, hil', hiT, fun k hk => hid k (List.mem_of_mem_erase hk), oi, hoi, u, hy', by rw [List.erase_comm]; exact hr'⟩⟩) h2
    · obtain ⟨o, ho, hw, hd⟩ := hall j hjl hjT hmin
      rw [hj] at ho
      cases ho
      refine ⟨n, rfl, ?_⟩
      unfold wpOp
      simp only [hj, hw, if_true]
      exact .inl (hd.wp fun v w' h => h)

theorem branch_orders (hok : branchOk ops = true) {Q' : Exit → Act → World → Prop} (hQ : ∀ a w, Q a w → Q' .normal a w) :
    ∀ (n : Nat) (l : List Nat) (listed : Array Bool) (a : Act) (w : World), l.length = n → listed.size = ops.size → Closed ops listed → l.Nodup → (∀ k, k ∈ l ↔ k < ops.size ∧ listed.getD k true = false) →
      runB P ops S Q n l a w → S w → wpAny P .any ops Q' n listed a w := by
  simp only [branchOk, Bool.and_eq_true, List.all_eq_true, List.mem_range] at hok
  obtain ⟨hns, hall⟩ := hok
  have hsel := Region.noSelect_spec hns
  have hpb : ∀ i j, i < ops.size → j < ops.size → i ≠ j → pairB ops i j = true := fun i j hi hj hij => by
    have := (hall j hj).2 i hi
    simpa [hij] using this
  have hafter : ∀ x, x < ops.size → ∀ o, ops[x]? = some o → ∀ e ∈ o.after, Region.binds .any e = true → e.on < x := fun x hx o ho e he hb => by
    have hb' := (hall x hx).1
    rw [ho] at hb'
    have := (Array.all_eq_true_iff_forall_mem.1 hb') e he
    rw [hb] at this
    simpa using this
  intro n
  induction n with
  | zero =>
    intro l listed a w hn hsz hc hnd hl h _
    obtain rfl := List.eq_nil_of_length_eq_zero hn
    refine ⟨?_, hQ _ _ h.2⟩
    refine List.eq_nil_iff_forall_not_mem.2 fun k hk => ?_
    obtain ⟨h1, o, ho, _⟩ := mem_ready.1 hk
    have : k < ops.size := by
      rcases Nat.lt_or_ge k ops.size with h | h
      · exact h
      · rw [Array.getElem?_eq_none h] at ho; cases ho
    exact absurd ((hl k).2 ⟨this, h1⟩) (by simp)
  | succ n ih =>
    intro l listed a w hn hsz hc hnd hl h hS
    have unl : ∀ i ∈ l, i < ops.size ∧ listed.getD i false = false := fun i hi => by
      have := (hl i).1 hi
      have hlt' : i < listed.size := by omega
      exact ⟨this.1, by simpa [hlt'] using this.2⟩
    have hlist : ∀ k, k < ops.size → k ∉ l → listed.getD k false = true := fun k hk hkl => by
      cases hg : listed.getD k false
      · exfalso
        apply hkl
        refine (hl k).2 ⟨hk, ?_⟩
        have hlt' : k < listed.size := by omega
        simp [hlt'] at hg ⊢; exact hg
      · rfl
    refine ⟨fun hr => ?_, fun j hj => ?_⟩
    · exfalso
      -- the least that is left is ready
      have hex : ∃ x ∈ l, ∀ y ∈ l, x ≤ y := by
        have : ∀ (l : List Nat), l ≠ [] → ∃ x ∈ l, ∀ y ∈ l, x ≤ y := by
          intro l
          induction l with
          | nil => intro h; exact absurd rfl h
          | cons z l ihl =>
            intro _
            by_cases he : l = []
            · subst he; exact ⟨z, by simp, by simp⟩
            · obtain ⟨x, hx, hm⟩ := ihl he
              by_cases hzx : z ≤ x
              · exact ⟨z, by simp, fun y hy => by rcases List.mem_cons.1 hy with rfl | hy; omega; have := hm y hy; omega⟩
              · exact ⟨x, by simp [hx], fun y hy => by rcases List.mem_cons.1 hy with rfl | hy; omega; exact hm y hy⟩
        exact this l (by intro e; rw [e] at hn; cases hn)
      obtain ⟨x, hxl, hmin⟩ := hex
      have hx := (hl x).1 hxl
      have : x ∈ Region.ready .any ops listed := by
        have ho : ops[x]? = some (ops[x]'hx.1) := Array.getElem?_eq_getElem hx.1
        refine mem_ready.2 ⟨hx.2, _, ho, fun e he hb => ?_⟩
        have hlt := hafter x hx.1 _ ho e he hb
        exact hlist e.on (by omega) fun hm => by have := hmin _ hm; omega
      rw [hr] at this
      cases this
    · obtain ⟨hjun, oj, hoj, hall'⟩ := mem_ready.1 hj
      have hjs : j < ops.size := by
        rcases Nat.lt_or_ge j ops.size with h | h
        · exact h
        · rw [Array.getElem?_eq_none h] at hoj; cases hoj
      have hjl : j ∈ l := (hl j).2 ⟨hjs, hjun⟩
      have hdir : ∀ i, direct ops j i = true → listed.getD i false = true := fun i hi => by
        obtain ⟨e, he, hb, rfl⟩ := (direct_iff hoj).1 hi
        exact hall' e he hb
      have main : wpOp P ops (fun _ _ _ => False) j (fun a' w' => S w' ∧ runB P ops S Q n (l.erase j) a' w') a w := by
        cases hjT : tIn ops j
        · obtain ⟨v, hy, m, hm, hr⟩ := runB_pull hsel hpb hc hoj hjT hdir (n + 1) l a w hnd unl hjl h hS
          cases hm
          exact hy.wpOp hoj hS ⟨hS, hr⟩
        · obtain ⟨m, hm, hw⟩ := runB_pullT hsel hpb hoj hjT hdir (n + 1) l a w hnd unl hjl h hS
          cases hm
          exact hw
      refine wpOp_mono (fun a' w' ⟨hS', hr'⟩ => ?_) (wpOp_weaken main)
      refine ih (l.erase j) (listed.setIfInBounds j true) a' w' (by rw [List.length_erase_of_mem hjl]; omega) (by simpa using hsz) ?_ (hnd.erase j) ?_ hr' hS'
      · intro k o hk hlk e he hb
        by_cases hkj : j = k
        · subst hkj
          rw [hoj] at hk
          cases hk
          exact getD_set_true (hall' e he hb)
        · rw [getD_set_ne false hkj] at hlk
          exact getD_set_true (hc k o hk hlk e he hb)
      · intro k
        rw [List.Nodup.mem_erase_iff hnd, hl k]
        by_cases hkj : j = k
        · subst hkj
          have hlt' : j < listed.size := by omega
          simp [hlt']
        · rw [getD_set_ne true hkj]
          constructor
          · rintro ⟨_, h⟩; exact h
          · intro h; exact ⟨Ne.symm hkj, h⟩

/-- THE LAW. -/
theorem wp_region_branch {id : Nat} {a : Act} {w : World} {Q' : Exit → Act → World → Prop} (S : World → Prop) (hm : P.follows .mixedOrders = true) (hok : branchOk ops = true) (hS : S w.drew)
    (h : runB P ops S (Q' .normal) ops.size (List.range ops.size) a w.drew) : (Code.region id ops true).wp P Q' a w := by
  refine wp_region_any hm ?_
  refine branch_orders hok (Q' := Q') (fun _ _ h => h) ops.size (List.range ops.size) (Array.replicate ops.size false) a w.drew (by simp) (by simp) ?_ List.nodup_range ?_ h hS
  · intro j o ho hl
    have hlt : j < ops.size := by
      rcases Nat.lt_or_ge j ops.size with h | h
      · exact h
      · rw [Array.getElem?_eq_none h] at ho; cases ho
    simp [hlt] at hl
  · intro k
    simp only [List.mem_range]
    constructor
    · intro h; exact ⟨h, by simp [h]⟩
    · exact fun h => h.1

/-- An operation, read off the list (it comes out as it is written). -/
def oAt : List Oper → Nat → Option Oper
  | [], _ => none
  | o :: _, 0 => some o
  | _ :: l, n + 1 => oAt l n
theorem oAt_eq : ∀ (l : List Oper) (i : Nat), oAt l i = l[i]?
  | [], _ => rfl
  | _ :: _, 0 => rfl
  | _ :: l, n + 1 => by rw [oAt, oAt_eq l n]; rfl
theorem oAt_get {ops : Array Oper} {i : Nat} {o : Oper} (h : oAt ops.toList i = some o) : ops[i]? = some o := by
  rw [oAt_eq] at h; simpa using h
theorem runB_nil {a : Act} {w : World} (h : Q a w) : runB P ops S Q 0 [] a w := ⟨rfl, h⟩
theorem runB_no {n i : Nat} {l : List Nat} {o : Oper} {a : Act} {w : World} (ho : oAt ops.toList i = some o) (hT : tIn ops i = false) (hd : ((i :: l).all fun k => !direct ops i k) = true) (hw : Region.wanted o (yielded ops a.tmps) = false)
    (h : runB P ops S Q n l (a.put o.dst undef) w) : runB P ops S Q (n + 1) (i :: l) a w :=
  .inl ⟨i, List.mem_cons_self .., hT, fun k hk => by have := List.all_eq_true.1 hd k hk; simpa using this, o, oAt_get ho, undef, .inr ⟨hw, rfl⟩, by rw [List.erase_cons_head]; exact h⟩
theorem runB_val {n i : Nat} {l : List Nat} {o : Oper} {a : Act} {w : World} {v : Value} (ho : oAt ops.toList i = some o) (hT : tIn ops i = false) (hd : ((i :: l).all fun k => !direct ops i k) = true) (hw : Region.wanted o (yielded ops a.tmps) = true)
    (hv : ∀ w, S w → (execOp a.eval o).run P w = .ok (.value v) w) (h : runB P ops S Q n l (a.put o.dst v) w) : runB P ops S Q (n + 1) (i :: l) a w :=
  .inl ⟨i, List.mem_cons_self .., hT, fun k hk => by have := List.all_eq_true.1 hd k hk; simpa using this, o, oAt_get ho, v, .inl ⟨hw, hv⟩, by rw [List.erase_cons_head]; exact h⟩
/-- Whatever is left and does not change the world waits for something; these are the ones that may come next. -/
def nextT (ops : Array Oper) (l : List Nat) : List Nat := l.filter fun j => tIn ops j && l.all fun k => !direct ops j k
def stuckB (ops : Array Oper) (l : List Nat) : Bool := l.all fun j => tIn ops j || l.any fun k => reaches ops ops.size j k
theorem runB_next {n : Nat} {l : List Nat} {a : Act} {w : World} (L : List Nat) (hL : nextT ops l = L) (hs : stuckB ops l = true)
    (h : ∀ j ∈ L, ∃ o, ops[j]? = some o ∧ Region.wanted o (yielded ops a.tmps) = true ∧ TDoes P o a w fun v w' => S w' ∧ runB P ops S Q n (l.erase j) (a.put o.dst v) w') : runB P ops S Q (n + 1) l a w := by
  refine .inr ⟨fun j hj hT => ?_, fun j hj hT hd => h j ?_⟩
  · have := List.all_eq_true.1 hs j hj
    rw [hT, Bool.false_or, List.any_eq_true] at this
    exact this
  · rw [← hL]
    simp only [nextT, List.mem_filter, Bool.and_eq_true, List.all_eq_true, Bool.not_eq_true']
    exact ⟨hj, hT, hd⟩
theorem runB_one {n : Nat} {l : List Nat} {a : Act} {w : World} (j : Nat) (hL : nextT ops l = [j]) (hs : stuckB ops l = true) {o : Oper} (ho : oAt ops.toList j = some o) (hw : Region.wanted o (yielded ops a.tmps) = true)
    (h : TDoes P o a w fun v w' => S w' ∧ runB P ops S Q n (l.erase j) (a.put o.dst v) w') : runB P ops S Q (n + 1) l a w :=
  runB_next [j] hL hs fun k hk => by rw [List.mem_singleton] at hk; subst hk; exact ⟨o, oAt_get ho, hw, h⟩
theorem runB_two {n : Nat} {l : List Nat} {a : Act} {w : World} (j k : Nat) (hL : nextT ops l = [j, k]) (hs : stuckB ops l = true) {o p : Oper} (ho : oAt ops.toList j = some o) (hw : Region.wanted o (yielded ops a.tmps) = true) (hp : oAt ops.toList k = some p) (hwp : Region.wanted p (yielded ops a.tmps) = true)
    (h : TDoes P o a w fun v w' => S w' ∧ runB P ops S Q n (l.erase j) (a.put o.dst v) w') (h' : TDoes P p a w fun v w' => S w' ∧ runB P ops S Q n (l.erase k) (a.put p.dst v) w') : runB P ops S Q (n + 1) l a w :=
  runB_next [j, k] hL hs fun x hx => by
    rcases List.mem_cons.1 hx with rfl | hx
    · exact ⟨o, oAt_get ho, hw, h⟩
    · rw [List.mem_singleton] at hx; subst hx; exact ⟨p, oAt_get hp, hwp, h'⟩
theorem tdoes_call {o : Oper} {a : Act} {w w1 : World} {K : Value → World → Prop} {f : FuncId} {args : Array Value} (hr : (execOp a.eval o).run P w = .ok (.enter f args) w1) (h : Calls P f args w1 fun e w' => ∃ v, e = .returned v ∧ K v w') : TDoes P o a w K := by
  unfold TDoes; rw [hr]; exact h
theorem tdoes_op {o : Oper} {a : Act} {w w1 : World} {K : Value → World → Prop} {v : Value} (hr : (execOp a.eval o).run P w = .ok (.value v) w1) (h : K v w1) : TDoes P o a w K := by
  unfold TDoes; rw [hr]; exact h
theorem tdoes_skip {o : Oper} {a : Act} {w w1 : World} {K : Value → World → Prop} (hr : (execOp a.eval o).run P w = .ok .skip w1) (h : K undef w1) : TDoes P o a w K := by
  unfold TDoes; rw [hr]; exact h
end
end Go.Proofs.YtmanhikpccnfaaaGreat

/- keysmithref08.Do: an operation over values; a refusal. -/
namespace Go.Proofs.YtmanhikpccnfaaaGreat
open Go.RowKit

theorem Has83 (op : Int) (w : World) : Calls Tryz.prog 28 #[.string ⟨(formR op).toArray⟩, .int .u8 83] w fun e w' => e = .returned (.bool (hasR (formR op) 83)) ∧ w = w' :=
  Has_any ⟨(formR op).toArray⟩ 83 w (form_size op)

set_option maxRecDepth 100000 in
set_option maxHeartbeats 40000000 in
theorem RDo_over (s : St) (i : Ins) (size : Int) (m : Value) (w : World) (F : Nat → Prop) (rs : List Reg) (hs : StOk s) (hm : RMemAt w F m rs) (hF : ∀ k, F k → k < w.heap.size) (hc : chkP i = true) (h1 : 1 ≤ size) (h2 : size ≤ 15)
    (p : St × Nat) (hv : valueF { s with pc := (s.pc + u64 size) % 18446744073709551616 } i.op (regAt s i.d) (if takesS i.op then regAt s i.s else u64 i.imm) = some p) :
    Calls Tryz.prog 22 #[.agg (stRow s).toArray, .agg (insRow i).toArray, .int .i64 size, m] w (RDoPost w F m (stepF s i size rs)) := by
  have hcode : stepF s i size rs = ⟨0, if keepsD i.op then p.1 else { p.1 with regs := p.1.regs.set i.d.toNat p.2 }, [⟨1, s.pc⟩], rs⟩ := stepF_over hc h1 h2 (by unfold overF; rw [show regAt { s with pc := (s.pc + u64 size) % 18446744073709551616 } i.d = regAt s i.d from rfl, show regAt { s with pc := (s.pc + u64 size) % 18446744073709551616 } i.s = regAt s i.s from rfl, hv])
  have htk := takes_form (chk_range hc) hv
  have hnum := (chk_parts hc).2.1
  have hrange := chk_range hc
  obtain ⟨bm, rfl⟩ : ∃ bm, m = .pointer (some ⟨bm, 0, none⟩) := by obtain ⟨bm, v, h, _⟩ := hm; exact ⟨bm, h⟩
  obtain ⟨W, hW, hH⟩ := rdo_start w F _ rs hm hF s i
  obtain ⟨hz, hz9⟩ := zero_of_info zeroInfoSt
  clear hz9 hm
  have HS := Lib.hid hs
  have HW := Lib.hid hW
  have HC := Lib.hid hc
  have HCHK := Lib.hid (fun w => rCheck_any i w)
  have H := Lib.hid hH
  have hzs : zeroSt.toArray.size = 20 := rfl
  generalize hzz : zeroSt.toArray = zs at *
  have HZS := Lib.hid hzs
  have HZZ := Lib.hid hzz
  clear hzs hH hW hzz
  obtain ⟨D, S, T, hD, hD16, hS, hS16, hT, hT16⟩ := chk_nums hc
  obtain ⟨vS, hvS, hvS64⟩ := sr_reg_of hs hS16
  obtain ⟨vD, hvD, hvD64⟩ := sr_reg_of hs hD16
  have HDS := Lib.hid (And.intro hD (And.intro hS hT))
  have HL16 := Lib.hid (And.intro hD16 (And.intro hS16 hT16))
  have HVS := Lib.hid (And.intro hvS hvS64)
  have HVD := Lib.hid (And.intro hvD hvD64)
  have HFORM := Lib.hid (fun w => Form_any i.op w)
  obtain ⟨h83, h83e⟩ : ∃ b, b = hasR (formR i.op) 83 := ⟨_, rfl⟩
  have HHAS := Lib.hid (fun w => Has83 i.op w)
  rw [← h83e] at HHAS
  have H83 := Lib.hid h83e
  have HADR := Lib.hid (fun w => RAddress_any s i hs w)
  obtain ⟨ad, had⟩ : ∃ ad, ad = addrF s i := ⟨_, rfl⟩
  rw [← had] at HADR
  have HAD := Lib.hid had
  obtain ⟨B, hB⟩ : ∃ B, B = if h83 then vS else u64 i.imm := ⟨_, rfl⟩
  have HB := Lib.hid hB
  have u1 := wrap_u64 size
  have u2 := wrap_u64 i.imm
  have hp64 := hs.pc
  have e1w : IntKind.u64.wrap ((s.pc : Int) + (u64 size : Int)) = (((s.pc + u64 size) % 18446744073709551616 : Nat) : Int) := by rw [wrapU']; omega
  obtain ⟨q, hq⟩ : ∃ q, q = (s.pc + u64 size) % 18446744073709551616 := ⟨_, rfl⟩
  rw [← hq] at e1w
  have HQ := Lib.hid hq
  have HQ64 := Lib.hid (show q < 18446744073709551616 by rw [hq]; exact Nat.mod_lt _ (by decide))
  have HU2 := Lib.hid u2
  have d1 : decide (size < 1) = false := by simpa using h1
  have d2 : decide (15 < size) = false := by simpa using h2
  clear hD hS hT hD16 hS16 hT16 hvS hvS64 hvD hvD64 h83e had hB hq hs hF hp64 u2 h1 h2
  have hb : (if takesS i.op then regAt s i.s else u64 i.imm) = B := by
    rw [HB.out, ← htk, ← H83.out]
    cases h83
    · rfl
    · exact regAt_of HDS.out.2.1 HVS.out.1
  have hd := regAt_of HDS.out.1 HVD.out.1
  rw [hb, hd, ← HQ.out] at hv
  have hB64 : B < 18446744073709551616 := by rw [HB.out]; cases h83; exact u64_lt _; exact HVS.out.2
  have hsh : i.op = 24 ∨ i.op = 25 → 1 ≤ B ∧ B ≤ 63 := fun ho => by
    have e : takesS i.op = false := by rcases ho with h | h <;> rw [h] <;> rfl
    rw [e] at hb
    rw [← hb]
    simp only [Bool.false_eq_true, if_false]
    have hn : 1 ≤ i.imm ∧ i.imm ≤ 63 := by
      rcases ho with h | h
      · rw [h] at hnum; exact num_bits 24 (.inl rfl) hnum
      · rw [h] at hnum; exact num_bits 25 (.inr rfl) hnum
    unfold u64; omega
  have hvs := fun w' => Rvalue_is { s with pc := q } ⟨HS.out.len, HS.out.regs, HQ64.out⟩ i.op vD B HVD.out.2 hB64 hrange hsh p hv w'
  have hokt : StOk p.1 ∧ p.2 < 18446744073709551616 := value_ok (s := { s with pc := q }) ⟨HS.out.len, HS.out.regs, HQ64.out⟩ HVD.out.2 hB64 hv
  have hDn : i.d.toNat = D := by rw [HDS.out.1]; simp
  rw [hDn] at hcode
  obtain ⟨t, r⟩ := p
  simp only at hcode hokt
  have HCODE := Lib.hid hcode
  have HVAL := Lib.hid hvs
  have HOKT := Lib.hid hokt.1
  have HR64 := Lib.hid hokt.2
  clear hcode hvs hokt hv hb hd hsh hB64 hDn htk hnum hrange hc
  go_enter Tryz.func22, Tryz.ntmps22
  go_upto_region 1 with fail
  rw [← HW.out]
  go_wp2_with (first | ((with_reducible refine sep_id ?_); refine H.out.load 1 rfl _ rfl rfl rfl Tryz.underlying29 rfl (infoIns9 i) ?_))
  refine (HCHK.out _).mono ?_
  rintro e w1 ⟨rfl, hb⟩
  have hH := H.out.next hb
  clear H hb HCHK HW
  have H := Lib.hid hH
  clear hH
  rw [HC.out, show errOf true = 0 from rfl]
  clear HC
  go_upto_region 9 with (first | ((with_reducible refine sep_id ?_); refine H.out.load 2 rfl _ rfl rfl rfl Tryz.underlying25 rfl (sr_size HS.out) ?_) | ((with_reducible refine sep_id ?_); refine H.out.storeFresh (row := stRow s) _ _ rfl _ (by rw [HZS.out, sr_len HS.out]) rfl rfl rfl (sr_size HS.out) (stRow_one _) ?_; intro W2 hW2; clear H; have H := Lib.hid hW2; clear hW2))
  have k16 := H.out.cell 3 16 rfl (sr_hi HS.out.len 0)
  have n16 := H.out.cell 0 16 rfl (sr_hi HS.out.len 0)
  have f16 := H.out.frozen 0 16 rfl
  go_upto_region 10 with fail
  refine sep_name ?_
  intro W3 hW3
  have hH := (H.out.setCell 0 rfl 16 (.int .u64 (q : Nat)) (sr_pc HS.out.len)).cast hW3
  clear H hW3 k16 n16 f16 e1w d1 d2 u1
  have H := Lib.hid hH
  have HOK1 := Lib.hid (show StOk { s with pc := q } from ⟨HS.out.len, HS.out.regs, HQ64.out⟩)
  clear hH
  obtain ⟨s1, hs1⟩ : ∃ s1, s1 = { s with pc := q } := ⟨_, rfl⟩
  rw [← hs1] at H HOK1
  have HS1 := Lib.hid hs1
  clear hs1
  have k16 := H.out.cell 3 16 rfl (sr_hi HS.out.len 0)
  go_wp2_with fail
  refine (Revent_any 1 s.pc _).mono ?_
  rintro e w2 ⟨rfl, hb⟩
  have hH := H.out.next hb
  clear H hb k16
  have H := Lib.hid hH
  clear hH
  go_upto_region 11 with fail
  refine sep_name ?_
  intro W4 hW4
  have hH := (H.out.rowLit ⟨1, s.pc⟩).cast hW4
  clear H hW4
  have H := Lib.hid hH
  clear hH
  go_wp2_with (first | ((with_reducible refine sep_id ?_); refine H.out.load 4 rfl _ rfl rfl rfl Tryz.underlying25 rfl (sr_size HS.out) ?_) | ((with_reducible refine sep_id ?_); refine sep_val rfl (exec_mem H.out 3 rfl _ rfl rfl) ?_))
  refine (HADR.out _).mono ?_
  rintro e w3 ⟨rfl, hb⟩
  have hH := H.out.next hb
  clear H hb HADR
  have H := Lib.hid hH
  clear hH
  have yS := H.out.cell 3 2 rfl (show (insRow i)[2]? = some (.int .i64 (S : Nat)) by rw [← HDS.out.2.1]; rfl)
  have cS := H.out.cell 4 S rfl (sr_get HVS.out.1)
  have yop := H.out.cell 3 0 rfl (show (insRow i)[0]? = some (.int .i64 i.op) from rfl)
  have i0 : (0 : Int) ≤ (S : Int) := by omega
  have i1 : (S : Int) < 16 := by have := HL16.out.2.1; omega
  go_upto_if 67 with (first | (go_at_call 27; refine (HFORM.out _).mono ?_; rintro e w_ ⟨rfl, rfl⟩) | (go_at_call 28; refine (HHAS.out _).mono ?_; rintro e w_ ⟨rfl, rfl⟩))
  clear yS cS i0 i1 yop HFORM HHAS
  go_cut [15] from 68 to 70 (fun q_ wx => q_ = .int .u64 (B : Nat) ∧ w3 = wx)
  case first =>
    have yimm := H.out.cell 3 8 rfl (show (insRow i)[8]? = some (.int .i64 i.imm) from rfl)
    have u2 := HU2.out
    cases h83
    · go_wp2_with fail
      go_meet
      exact ⟨by rw [HB.out]; rfl, rfl⟩
    · go_wp2_with fail
      go_meet
      exact ⟨by rw [HB.out]; rfl, rfl⟩
  case rest =>
  obtain ⟨rfl, rfl⟩ := hcut
  clear HU2
  rw [← HS1.out] at HVAL
  go_upto_region 15 with fail
  go_cut [16, 17, 18] from 71 to 84 (fun a16 a17 a18 wx => ∃ gt : Nat, a16 = .pointer (some ⟨gt, 0, none⟩) ∧ a17 = .int .u64 (r : Nat) ∧ a18 = .bool true ∧ Sep w F wx (boxR gt 25 (stRow t) :: [rowR w.heap.size 47 2 1 (.slice (some ⟨w2.heap.size, 0, none⟩) 1 1) (evRow ⟨1, s.pc⟩), boxR w1.heap.size 25 (stRow s1), boxR (w.heap.size + 1 + 1) 25 zeroSt, boxR (w.heap.size + 1) 29 (insRow i), boxR w.heap.size 25 (stRow s), memR F (.pointer (some ⟨bm, 0, none⟩)) rs]))
  case first =>
    have hS := H.out.drew
    refine wp_region_branch (fun w_ => Sep w F w_ [rowR w.heap.size 47 2 1 (.slice (some ⟨w2.heap.size, 0, none⟩) 1 1) (evRow ⟨1, s.pc⟩), boxR w1.heap.size 25 (stRow s1), boxR (w.heap.size + 1 + 1) 25 zeroSt, boxR (w.heap.size + 1) 29 (insRow i), boxR w.heap.size 25 (stRow s), memR F (.pointer (some ⟨bm, 0, none⟩)) rs]) (by kernel_rfl) (by kernel_rfl) hS ?_
    show runB _ _ _ _ 18 [0, 1, 2, 3, 4, 5, 6, 7, 8, 9, 10, 11, 12, 13, 14, 15, 16, 17] _ _
    repeat (first | (refine runB_val (v := ?_) (by rfl) (by rfl) (by kernel_rfl) (by rfl) ?_ ?_; rotate_left; (focus (intro w_ hw_; have c0_ := hw_.cell 3 0 rfl (show (insRow i)[0]? = some (.int .i64 i.op) from rfl); have c1_ := hw_.cell 3 1 rfl (show (insRow i)[1]? = some (.int .i64 (D : Nat)) by rw [← HDS.out.1]; rfl); have c2_ := hw_.cell 4 D rfl (sr_get HVD.out.1); have i0 : (0 : Int) ≤ (D : Int) := (by omega); have i1 : (D : Int) < 16 := (by have := HL16.out.1; omega); go_simp; (try with_reducible rfl); done)); (try dsimp only [Act.put])) | (refine runB_val (v := .agg (stRow s1).toArray) (by rfl) (by rfl) (by kernel_rfl) (by rfl) (fun w_ hw_ => hw_.exec 1 rfl _ rfl rfl Tryz.underlying25 rfl (sr_size HOK1.out)) ?_; (try dsimp only [Act.put])))
    try simp only [List.setIfInBounds_toArray, List.set_cons_zero, List.set_cons_succ]
    refine runB_two 9 14 (by kernel_rfl) (by kernel_rfl) (by rfl) (by rfl) (by rfl) (by rfl) ?_ ?_
    · refine tdoes_call (f := ?_) (args := ?_) (w1 := ?_) ?_ ?_
      rotate_left 3
      focus (go_simp; refine ⟨⟨?_, ?_⟩, ?_⟩ <;> with_reducible rfl)
      refine (HVAL.out _).mono ?_
      rintro e w4 ⟨rfl, hb⟩
      refine ⟨_, rfl, hS.next hb, ?_⟩
      (try dsimp only [Act.put])
      try simp only [List.setIfInBounds_toArray, List.set_cons_zero, List.set_cons_succ]
      have HS4 := Lib.hid (hS.next hb)
      clear hb
      show runB _ _ _ _ 8 [10, 11, 12, 13, 14, 15, 16, 17] _ _
      repeat (first | (refine runB_val (v := ?_) (by rfl) (by rfl) (by kernel_rfl) (by rfl) ?_ ?_; rotate_left; (focus (intro w_ hw_; have c0_ := hw_.cell 3 0 rfl (show (insRow i)[0]? = some (.int .i64 i.op) from rfl); have c1_ := hw_.cell 3 1 rfl (show (insRow i)[1]? = some (.int .i64 (D : Nat)) by rw [← HDS.out.1]; rfl); have c2_ := hw_.cell 4 D rfl (sr_get HVD.out.1); have i0 : (0 : Int) ≤ (D : Int) := (by omega); have i1 : (D : Int) < 16 := (by have := HL16.out.1; omega); go_simp; (try with_reducible rfl); done)); (try dsimp only [Act.put])) | (refine runB_val (v := .agg (stRow s1).toArray) (by rfl) (by rfl) (by kernel_rfl) (by rfl) (fun w_ hw_ => hw_.exec 1 rfl _ rfl rfl Tryz.underlying25 rfl (sr_size HOK1.out)) ?_; (try dsimp only [Act.put])))
      try simp only [List.setIfInBounds_toArray, List.set_cons_zero, List.set_cons_succ]
      refine runB_one 14 (by kernel_rfl) (by kernel_rfl) (by rfl) (by rfl) ?_
      refine tdoes_op (w1 := w4.alloc (.cells zs 25)) (v := .pointer (some ⟨w4.heap.size, 0, none⟩)) (sep_alloc 25 rfl hz) ⟨(HS4.out.next ((Below.refl _ _).alloc (Nat.le_refl _) _)), ?_⟩
      (try dsimp only [Act.put])
      try simp only [List.setIfInBounds_toArray, List.set_cons_zero, List.set_cons_succ]
      show runB _ _ _ _ 3 [15, 16, 17] _ _
      refine runB_one 15 (by kernel_rfl) (by kernel_rfl) (by rfl) (by rfl) ?_
      refine tdoes_skip (w1 := (w4.alloc (.cells zs 25)).setRow w4.heap.size (stRow t).toArray) (sep_store 25 _ _ rfl w4.heap.size (stRow t).toArray rfl rfl 25 zs (heap_alloc_new w4 _) (sr_size HOKT.out) (by rw [HZS.out, stRow_size HOKT.out]) (stRow_one _)) ⟨(HS4.out.fresh 25 zs (stRow t)).sub (List.sublist_cons_self _ _), ?_⟩
      (try dsimp only [Act.put])
      show runB _ _ _ _ 2 [16, 17] _ _
      repeat (first | (refine runB_val (v := ?_) (by rfl) (by rfl) (by kernel_rfl) (by rfl) ?_ ?_; rotate_left; (focus (intro w_ hw_; have c0_ := hw_.cell 3 0 rfl (show (insRow i)[0]? = some (.int .i64 i.op) from rfl); have c1_ := hw_.cell 3 1 rfl (show (insRow i)[1]? = some (.int .i64 (D : Nat)) by rw [← HDS.out.1]; rfl); have c2_ := hw_.cell 4 D rfl (sr_get HVD.out.1); have i0 : (0 : Int) ≤ (D : Int) := (by omega); have i1 : (D : Int) < 16 := (by have := HL16.out.1; omega); go_simp; (try with_reducible rfl); done)); (try dsimp only [Act.put])) | (refine runB_val (v := .agg (stRow s1).toArray) (by rfl) (by rfl) (by kernel_rfl) (by rfl) (fun w_ hw_ => hw_.exec 1 rfl _ rfl rfl Tryz.underlying25 rfl (sr_size HOK1.out)) ?_; (try dsimp only [Act.put])))
      try simp only [List.setIfInBounds_toArray, List.set_cons_zero, List.set_cons_succ]
      refine runB_nil ?_
      go_wp2_with fail
      go_meet
      exact ⟨w4.heap.size, rfl, rfl, rfl, HS4.out.fresh 25 zs (stRow t)⟩
    · have HB1 := Lib.hid (hS.box 25 zeroSt)
      rw [HZZ.out] at HB1
      have HA := Lib.hid (hS.next ((Below.refl _ _).alloc (Nat.le_refl _) (.cells zs 25)))
      refine tdoes_op (w1 := w3.drew.alloc (.cells zs 25)) (v := .pointer (some ⟨w3.drew.heap.size, 0, none⟩)) (sep_alloc 25 rfl hz) ⟨HA.out, ?_⟩
      (try dsimp only [Act.put])
      try simp only [List.setIfInBounds_toArray, List.set_cons_zero, List.set_cons_succ]
      show runB _ _ _ _ 8 [9, 10, 11, 12, 13, 15, 16, 17] _ _
      generalize w3.drew.alloc (.cells zs 25) = wx at *
      refine runB_one 9 (by kernel_rfl) (by kernel_rfl) (by rfl) (by rfl) ?_
      refine tdoes_call (f := ?_) (args := ?_) (w1 := ?_) ?_ ?_
      rotate_left 3
      focus (go_simp; refine ⟨⟨?_, ?_⟩, ?_⟩ <;> with_reducible rfl)
      refine (HVAL.out _).mono ?_
      rintro e w4 ⟨rfl, hb⟩
      refine ⟨_, rfl, HA.out.next hb, ?_⟩
      (try dsimp only [Act.put])
      try simp only [List.setIfInBounds_toArray, List.set_cons_zero, List.set_cons_succ]
      have HS4 := Lib.hid (HB1.out.next hb)
      clear hb
      have HA4 := Lib.hid (HS4.out.sub (List.sublist_cons_self _ _))
      show runB _ _ _ _ 7 [10, 11, 12, 13, 15, 16, 17] _ _
      repeat (first | (refine runB_val (v := ?_) (by rfl) (by rfl) (by kernel_rfl) (by rfl) ?_ ?_; rotate_left; (focus (intro w_ hw_; have c0_ := hw_.cell 3 0 rfl (show (insRow i)[0]? = some (.int .i64 i.op) from rfl); have c1_ := hw_.cell 3 1 rfl (show (insRow i)[1]? = some (.int .i64 (D : Nat)) by rw [← HDS.out.1]; rfl); have c2_ := hw_.cell 4 D rfl (sr_get HVD.out.1); have i0 : (0 : Int) ≤ (D : Int) := (by omega); have i1 : (D : Int) < 16 := (by have := HL16.out.1; omega); go_simp; (try with_reducible rfl); done)); (try dsimp only [Act.put])) | (refine runB_val (v := .agg (stRow s1).toArray) (by rfl) (by rfl) (by kernel_rfl) (by rfl) (fun w_ hw_ => hw_.exec 1 rfl _ rfl rfl Tryz.underlying25 rfl (sr_size HOK1.out)) ?_; (try dsimp only [Act.put])))
      try simp only [List.setIfInBounds_toArray, List.set_cons_zero, List.set_cons_succ]
      refine runB_one 15 (by kernel_rfl) (by kernel_rfl) (by rfl) (by rfl) ?_
      refine tdoes_skip (w1 := w4.setRow w3.drew.heap.size (stRow t).toArray) (sep_store 25 _ _ rfl w3.drew.heap.size (stRow t).toArray rfl rfl 25 _ (HS4.out.at_ 0 rfl) (sr_size HOKT.out) (by rw [stRow_size HOKT.out]; rfl) (stRow_one _)) ⟨((HS4.out.setRow 0 rfl (stRow t))).sub (List.sublist_cons_self _ _), ?_⟩
      (try dsimp only [Act.put])
      show runB _ _ _ _ 2 [16, 17] _ _
      repeat (first | (refine runB_val (v := ?_) (by rfl) (by rfl) (by kernel_rfl) (by rfl) ?_ ?_; rotate_left; (focus (intro w_ hw_; have c0_ := hw_.cell 3 0 rfl (show (insRow i)[0]? = some (.int .i64 i.op) from rfl); have c1_ := hw_.cell 3 1 rfl (show (insRow i)[1]? = some (.int .i64 (D : Nat)) by rw [← HDS.out.1]; rfl); have c2_ := hw_.cell 4 D rfl (sr_get HVD.out.1); have i0 : (0 : Int) ≤ (D : Int) := (by omega); have i1 : (D : Int) < 16 := (by have := HL16.out.1; omega); go_simp; (try with_reducible rfl); done)); (try dsimp only [Act.put])) | (refine runB_val (v := .agg (stRow s1).toArray) (by rfl) (by rfl) (by kernel_rfl) (by rfl) (fun w_ hw_ => hw_.exec 1 rfl _ rfl rfl Tryz.underlying25 rfl (sr_size HOK1.out)) ?_; (try dsimp only [Act.put])))
      try simp only [List.setIfInBounds_toArray, List.set_cons_zero, List.set_cons_succ]
      refine runB_nil ?_
      go_wp2_with fail
      go_meet
      exact ⟨w3.drew.heap.size, rfl, rfl, rfl, HS4.out.setRow 0 rfl (stRow t)⟩
  case rest =>
  obtain ⟨gt, rfl, rfl, rfl, hH⟩ := hcut
  obtain ⟨w5, rfl⟩ : ∃ q : World, q = wc := ⟨_, rfl⟩
  clear H HVAL
  have H := Lib.hid hH
  clear hH
  go_upto_region 21 with (first | ((with_reducible refine sep_id ?_); refine H.out.load 0 rfl _ rfl rfl rfl Tryz.underlying25 rfl (sr_size HOKT.out) ?_) | ((with_reducible refine sep_id ?_); refine H.out.storeBox 2 (row' := stRow t) rfl (by rw [sr_len HOKT.out, sr_len HOK1.out]) _ _ rfl rfl rfl rfl (sr_size HOKT.out) (stRow_one _) ?_; intro W5 hW5; clear H; have H := Lib.hid hW5; clear hW5))
  have yop := H.out.cell 4 0 rfl (show (insRow i)[0]? = some (.int .i64 i.op) from rfl)
  by_cases hk : i.op = 13 ∨ i.op = 14 ∨ i.op = 18
  · have hkd : keepsD i.op = true := by rcases hk with h | h | h <;> rw [h] <;> rfl
    have HCD := HCODE.out
    rw [hkd, if_pos rfl] at HCD
    clear HCODE hkd
    have HCODE := Lib.hid HCD
    have HOKE := HOKT
    clear HCD
    rcases hk with hk | hk | hk
    · rw [hk] at yop
      clear hk
      go_upto_region 47 with fail
      clear yop
      go_wp2_with (first | ((with_reducible refine sep_id ?_); refine H.out.load 2 rfl _ rfl rfl rfl Tryz.underlying25 rfl (sr_size HOKE.out) ?_) | ((with_reducible refine sep_id ?_); refine H.out.storeBox 3 (row' := stRow t) rfl (by rw [zeroSt_len, sr_len HOKE.out]) _ _ rfl rfl rfl rfl (sr_size HOKE.out) (stRow_one _) ?_; intro W9 hW9; have HZ := Lib.hid hW9; clear hW9))
      refine bodyPost_ret (results3 (ty := 25) rfl _ _ (w.heap.size + 1 + 1) 25 (stRow t).toArray (0, 0) _ rfl (HZ.out.at_ 3 rfl) Tryz.underlying25 rfl (sr_size HOKE.out)) rfl ?_
      rw [HCODE.out]
      exact ⟨_, rfl, HZ.out.chg, HZ.out.get 6 rfl, HZ.out.get 1 rfl⟩
    · rw [hk] at yop
      clear hk
      go_upto_region 47 with fail
      clear yop
      go_wp2_with (first | ((with_reducible refine sep_id ?_); refine H.out.load 2 rfl _ rfl rfl rfl Tryz.underlying25 rfl (sr_size HOKE.out) ?_) | ((with_reducible refine sep_id ?_); refine H.out.storeBox 3 (row' := stRow t) rfl (by rw [zeroSt_len, sr_len HOKE.out]) _ _ rfl rfl rfl rfl (sr_size HOKE.out) (stRow_one _) ?_; intro W9 hW9; have HZ := Lib.hid hW9; clear hW9))
      refine bodyPost_ret (results3 (ty := 25) rfl _ _ (w.heap.size + 1 + 1) 25 (stRow t).toArray (0, 0) _ rfl (HZ.out.at_ 3 rfl) Tryz.underlying25 rfl (sr_size HOKE.out)) rfl ?_
      rw [HCODE.out]
      exact ⟨_, rfl, HZ.out.chg, HZ.out.get 6 rfl, HZ.out.get 1 rfl⟩
    · rw [hk] at yop
      clear hk
      go_upto_region 47 with fail
      clear yop
      go_wp2_with (first | ((with_reducible refine sep_id ?_); refine H.out.load 2 rfl _ rfl rfl rfl Tryz.underlying25 rfl (sr_size HOKE.out) ?_) | ((with_reducible refine sep_id ?_); refine H.out.storeBox 3 (row' := stRow t) rfl (by rw [zeroSt_len, sr_len HOKE.out]) _ _ rfl rfl rfl rfl (sr_size HOKE.out) (stRow_one _) ?_; intro W9 hW9; have HZ := Lib.hid hW9; clear hW9))
      refine bodyPost_ret (results3 (ty := 25) rfl _ _ (w.heap.size + 1 + 1) 25 (stRow t).toArray (0, 0) _ rfl (HZ.out.at_ 3 rfl) Tryz.underlying25 rfl (sr_size HOKE.out)) rfl ?_
      rw [HCODE.out]
      exact ⟨_, rfl, HZ.out.chg, HZ.out.get 6 rfl, HZ.out.get 1 rfl⟩
  · have hkd : keepsD i.op = false := by
      simp only [keepsD, Bool.or_eq_false_iff, decide_eq_false_iff_not]
      omega
    have HCD := HCODE.out
    rw [hkd, if_neg (by decide)] at HCD
    clear HCODE hkd
    have HCODE := Lib.hid HCD
    clear HCD
    have n13 : (i.op != 13) = true := by rw [bne_iff_ne]; omega
    have n14 : (i.op != 14) = true := by rw [bne_iff_ne]; omega
    have n18 : (i.op != 18) = true := by rw [bne_iff_ne]; omega
    clear hk
    go_upto_region 22 with fail
    clear n13 n14 n18 yop
    have yD := H.out.cell 4 1 rfl (show (insRow i)[1]? = some (.int .i64 (D : Nat)) by rw [← HDS.out.1]; rfl)
    obtain ⟨x0, hx0, _⟩ := sr_reg_of HOKT.out HL16.out.1
    have nD := H.out.cell 2 D rfl (sr_get hx0)
    have fD := H.out.frozen 2 D rfl
    have i0 : (0 : Int) ≤ (D : Int) := by omega
    have i1 : (D : Int) < 16 := by have := HL16.out.1; omega
    clear hx0
    go_upto_region 47 with fail
    refine sep_name ?_
    intro W6 hW6
    have hH := (H.out.setCell 2 rfl D (.int .u64 (r : Nat)) (sr_reg t D (by rw [HOKT.out.len]; exact HL16.out.1) r)).cast hW6
    clear H hW6 yD nD fD i0 i1
    have H := Lib.hid hH
    have HOKE := Lib.hid (HOKT.out.set D HR64.out)
    clear hH
    go_wp2_with (first | ((with_reducible refine sep_id ?_); refine H.out.load 2 rfl _ rfl rfl rfl Tryz.underlying25 rfl (sr_size HOKE.out) ?_) | ((with_reducible refine sep_id ?_); refine H.out.storeBox 3 (row' := stRow { t with regs := t.regs.set D r }) rfl (by rw [zeroSt_len, sr_len HOKE.out]) _ _ rfl rfl rfl rfl (sr_size HOKE.out) (stRow_one _) ?_; intro W9 hW9; have HZ := Lib.hid hW9; clear hW9))
    refine bodyPost_ret (results3 (ty := 25) rfl _ _ (w.heap.size + 1 + 1) 25 (stRow { t with regs := t.regs.set D r }).toArray (0, 0) _ rfl (HZ.out.at_ 3 rfl) Tryz.underlying25 rfl (sr_size HOKE.out)) rfl ?_
    rw [HCODE.out]
    exact ⟨_, rfl, HZ.out.chg, HZ.out.get 6 rfl, HZ.out.get 1 rfl⟩

set_option maxRecDepth 100000 in
set_option maxHeartbeats 40000000 in
theorem RDo_bad (s : St) (i : Ins) (size : Int) (m : Value) (w : World) (F : Nat → Prop) (rs : List Reg) (hs : StOk s) (hm : RMemAt w F m rs) (hF : ∀ k, F k → k < w.heap.size) (hgood : ¬ (chkP i && (decide (1 ≤ size) && decide (size ≤ 15))) = true) :
    Calls Tryz.prog 22 #[.agg (stRow s).toArray, .agg (insRow i).toArray, .int .i64 size, m] w (RDoPost w F m (stepF s i size rs)) := by
  have hcode : stepF s i size rs = ⟨2, s, [], rs⟩ := by unfold stepF; rw [if_neg hgood]
  have HCODE := Lib.hid hcode
  clear hcode
  obtain ⟨pc, hc⟩ : ∃ pc, chkP i = pc := ⟨_, rfl⟩
  rw [hc] at hgood
  obtain ⟨bm, rfl⟩ : ∃ bm, m = .pointer (some ⟨bm, 0, none⟩) := by obtain ⟨bm, v, h, _⟩ := hm; exact ⟨bm, h⟩
  obtain ⟨W, hW, hH⟩ := rdo_start w F _ rs hm hF s i
  obtain ⟨hz, hz9⟩ := zero_of_info zeroInfoSt
  clear hz9 hm
  have HS := Lib.hid hs
  have HW := Lib.hid hW
  have HC := Lib.hid hc
  have HCHK := Lib.hid (fun w => rCheck_any i w)
  have H := Lib.hid hH
  have hzs : zeroSt.toArray.size = 20 := rfl
  generalize hzz : zeroSt.toArray = zs at *
  have HZS := Lib.hid hzs
  have HZZ := Lib.hid hzz
  clear hzs hH hW hzz
  cases pc
  · clear hgood hF hs hc
    go_enter Tryz.func22, Tryz.ntmps22
    go_upto_region 1 with fail
    rw [← HW.out]
    go_wp2_with (first | ((with_reducible refine sep_id ?_); refine H.out.load 1 rfl _ rfl rfl rfl Tryz.underlying29 rfl (infoIns9 i) ?_))
    refine (HCHK.out _).mono ?_
    rintro e w1 ⟨rfl, hb⟩
    have hH := H.out.next hb
    clear H hb HCHK HW
    have H := Lib.hid hH
    clear hH
    rw [HC.out, show errOf false = 2 from rfl]
    have HOKE := HS
    go_wp2_with (first | ((with_reducible refine sep_id ?_); refine H.out.load 2 rfl _ rfl rfl rfl Tryz.underlying25 rfl (sr_size HS.out) ?_) | ((with_reducible refine sep_id ?_); refine H.out.storeBox 0 (row' := stRow s) rfl (by rw [zeroSt_len, sr_len HS.out]) _ _ rfl rfl rfl rfl (sr_size HS.out) (stRow_one _) ?_; intro W9 hW9; have HZ := Lib.hid hW9; clear hW9))
    refine bodyPost_ret (results3 (ty := 25) rfl _ _ (w.heap.size + 1 + 1) 25 (stRow s).toArray (0, 0) _ rfl (HZ.out.at_ 0 rfl) Tryz.underlying25 rfl (sr_size HS.out)) rfl ?_
    rw [HCODE.out]
    exact ⟨_, rfl, HZ.out.chg, HZ.out.get 3 rfl, by simp, .inl ⟨rfl, rfl⟩⟩
  · have hsz : size < 1 ∨ 15 < size := by
      simp at hgood
      omega
    clear hgood hF hs hc
    by_cases h1 : size < 1
    · have d1 : decide (size < 1) = true := by simpa using h1
      clear h1 hsz
      go_enter Tryz.func22, Tryz.ntmps22
      go_upto_region 1 with fail
      rw [← HW.out]
      go_wp2_with (first | ((with_reducible refine sep_id ?_); refine H.out.load 1 rfl _ rfl rfl rfl Tryz.underlying29 rfl (infoIns9 i) ?_))
      refine (HCHK.out _).mono ?_
      rintro e w1 ⟨rfl, hb⟩
      have hH := H.out.next hb
      clear H hb HCHK HW
      have H := Lib.hid hH
      clear hH
      rw [HC.out, show errOf true = 0 from rfl]
      have HOKE := HS
      go_wp2_with (first | ((with_reducible refine sep_id ?_); refine H.out.load 2 rfl _ rfl rfl rfl Tryz.underlying25 rfl (sr_size HS.out) ?_) | ((with_reducible refine sep_id ?_); refine H.out.storeBox 0 (row' := stRow s) rfl (by rw [zeroSt_len, sr_len HS.out]) _ _ rfl rfl rfl rfl (sr_size HS.out) (stRow_one _) ?_; intro W9 hW9; have HZ := Lib.hid hW9; clear hW9))
      refine bodyPost_ret (results3 (ty := 25) rfl _ _ (w.heap.size + 1 + 1) 25 (stRow s).toArray (0, 0) _ rfl (HZ.out.at_ 0 rfl) Tryz.underlying25 rfl (sr_size HS.out)) rfl ?_
      rw [HCODE.out]
      exact ⟨_, rfl, HZ.out.chg, HZ.out.get 3 rfl, by simp, .inl ⟨rfl, rfl⟩⟩
    · have d1 : decide (size < 1) = false := by simpa using h1
      have d2 : decide (15 < size) = true := by simp; omega
      clear h1 hsz
      go_enter Tryz.func22, Tryz.ntmps22
      go_upto_region 1 with fail
      rw [← HW.out]
      go_wp2_with (first | ((with_reducible refine sep_id ?_); refine H.out.load 1 rfl _ rfl rfl rfl Tryz.underlying29 rfl (infoIns9 i) ?_))
      refine (HCHK.out _).mono ?_
      rintro e w1 ⟨rfl, hb⟩
      have hH := H.out.next hb
      clear H hb HCHK HW
      have H := Lib.hid hH
      clear hH
      rw [HC.out, show errOf true = 0 from rfl]
      have HOKE := HS
      go_wp2_with (first | ((with_reducible refine sep_id ?_); refine H.out.load 2 rfl _ rfl rfl rfl Tryz.underlying25 rfl (sr_size HS.out) ?_) | ((with_reducible refine sep_id ?_); refine H.out.storeBox 0 (row' := stRow s) rfl (by rw [zeroSt_len, sr_len HS.out]) _ _ rfl rfl rfl rfl (sr_size HS.out) (stRow_one _) ?_; intro W9 hW9; have HZ := Lib.hid hW9; clear hW9))
      refine bodyPost_ret (results3 (ty := 25) rfl _ _ (w.heap.size + 1 + 1) 25 (stRow s).toArray (0, 0) _ rfl (HZ.out.at_ 0 rfl) Tryz.underlying25 rfl (sr_size HS.out)) rfl ?_
      rw [HCODE.out]
      exact ⟨_, rfl, HZ.out.chg, HZ.out.get 3 rfl, by simp, .inl ⟨rfl, rfl⟩⟩
end Go.Proofs.YtmanhikpccnfaaaGreat

/- keysmithref08.Do: words for its other operations. -/
namespace Go.Proofs.YtmanhikpccnfaaaGreat
open Go.RowKit

theorem Sep.one {w0 w : World} {F0 : Nat → Prop} {R : List Res} (h : Sep w0 F0 w R) (i : Nat) {r : Res} (hi : R[i]? = some r) : Sep w0 F0 w [r] := h.sub (List.singleton_sublist.2 (List.mem_of_getElem? hi))
theorem Sep.mem {w0 w w' : World} {F0 F : Nat → Prop} {R : List Res} (h : Sep w0 F0 w R) (i : Nat) {m : Value} {rs rs' : List Reg} (hi : R[i]? = some (memR F m rs)) (hm : RMemAt w' F m rs') (hc : Chg F w w') : Sep w0 F0 w' (R.set i (memR F m rs')) :=
  h.put i hi (hc.mono fun _ _ hk => .inl hk) hm fun k hk => ⟨.inl hk, Nat.lt_of_lt_of_le (h.lt _ (List.mem_of_getElem? hi) k hk) hc.size⟩
theorem RStore_ve (p : Value) (w : World) (F : Nat → Prop) (rs : List Reg) (at_ v : Nat) (hat : at_ < 18446744073709551616) (hv : v < 18446744073709551616) (hm : RMemAt w F p rs) (hF : ∀ k, F k → k < w.heap.size) :
    Calls Tryz.prog 46 #[p, .int .u64 at_, .int .u64 v] w fun e w' => e = .returned (.int .i64 (storeVE rs at_ v).1) ∧ RMemAt w' F p (storeVE rs at_ v).2 ∧ Chg F w w' := by
  refine (RStore_any p w F rs at_ v hat hv hm hF).mono ?_
  rintro e w' (⟨h0, rfl, hb⟩ | ⟨rs', h0, rfl, h1, h2⟩)
  · have e0 : storeVE rs at_ v = (11, rs) := by unfold storeVE; rw [h0]
    rw [e0]
    exact ⟨rfl, hm.keep (SameOn.of_below hb hF), Chg.of_below hb⟩
  · have e0 : storeVE rs at_ v = (0, rs') := by unfold storeVE; rw [h0]
    rw [e0]
    exact ⟨rfl, h1, h2⟩
theorem own_two {w : World} {base e : Nat} {v : Value} {xs : List Value} (h : w.ownsRow base e 2 v (1 + 1) xs) : ∃ A c, v = .slice A 2 c := by
  rcases h.2 with ⟨_, h2⟩ | ⟨g', cap', cur, hv, _⟩
  · exact absurd h2 (by omega)
  · exact ⟨_, _, hv⟩
theorem own_of {v v' : Value} {n : Nat} (h : v'.ownBlock = v.ownBlock ∨ v'.ownBlock = some n) : ∀ k, v'.ownBlock = some k → v.ownBlock = some k ∨ n ≤ k := fun k hk => by
  rcases h with h | h
  · exact .inl (h ▸ hk)
  · rw [h] at hk; cases hk; exact .inr (Nat.le_refl _)
theorem sep_storeCell {P : Program} {o : Oper} {a : Act} {w : World} (ty : TypeId) (x y : Operand) (ho : o.op = .store ty x y) (g k : Nat) (v : Value) (hx : a.eval x = .pointer (some ⟨g, k, none⟩)) (hy : a.eval y = v) (hi : (P.info? ty).map (·.size) = some 1)
    (hc : (w.cell? ⟨g, k, none⟩).isSome = true) (hf : w.frozen? ⟨g, k, none⟩ = false) (h1 : v.oneCell' = true) : (execOp a.eval o).run P w = .ok .skip (w.setCell ⟨g, k, none⟩ v) := by
  have hs : (storeVar ty ⟨g, k, none⟩ v).run P w = .ok () (w.setCell ⟨g, k, none⟩ v) := by
    have := run_storeCells_cells (P := P) g k [v] 0 w (fun j hj => by
      obtain rfl : j = 0 := by simpa using hj
      simpa using hc) (fun j hj => by
      obtain rfl : j = 0 := by simpa using hj
      simpa using hf) (fun u hu => by simp at hu; subst hu; exact h1)
    have hcs : v.cells = #[v] := by cases v <;> first | rfl | cases h1
    cases hq : P.info? ty with
    | none => simp [hq] at hi
    | some i =>
      have hs : i.size = 1 := by simpa [hq] using hi
      simp only [Nat.add_zero, World.setCells] at this
      simp [storeVar, sizeOf, typeInfo, hq, hcs, hs, this]
  unfold execOp
  simp only [ho, hx, hy, Instr.storeAt, Instr.sureAddr, Sem.run_bind, Sem.run_pure, Result.andThen_ok, hs]
theorem infoU64 : (Tryz.prog.info? 22).map (·.size) = some 1 := by kernel_rfl
theorem stepF_none {s : St} {i : Ins} {size : Int} {rs : List Reg} (hc : chkP i = true) (h1 : 1 ≤ size) (h2 : size ≤ 15) {q : Nat} (hq : q = (s.pc + u64 size) % 18446744073709551616) (hv : valueF { s with pc := q } i.op (regAt s i.d) (if takesS i.op then regAt s i.s else u64 i.imm) = none) {d : St × List Ev × Int × List Reg} (hd : doF { s with pc := q } i rs 0 = d) :
    stepF s i size rs = if d.2.2.1 = 0 then ⟨0, d.1, ⟨1, s.pc⟩ :: d.2.1, d.2.2.2⟩ else ⟨d.2.2.1, s, [], d.2.2.2⟩ := by
  subst hq
  have ho : overF { s with pc := (s.pc + u64 size) % 18446744073709551616 } i = none := by
    unfold overF
    rw [show regAt { s with pc := (s.pc + u64 size) % 18446744073709551616 } i.d = regAt s i.d from rfl, show regAt { s with pc := (s.pc + u64 size) % 18446744073709551616 } i.s = regAt s i.s from rfl, hv]
  unfold stepF
  rw [if_pos (by simp [hc, h1, h2]), ho]
  simp only [hd]
theorem own_three {w : World} {base e : Nat} {v : Value} {xs : List Value} (h : w.ownsRow base e 2 v (1 + 2) xs) : ∃ A c, v = .slice A 3 c := by
  rcases h.2 with ⟨_, h2⟩ | ⟨g', cap', cur, hv, _⟩
  · exact absurd h2 (by omega)
  · exact ⟨_, _, hv⟩
theorem sep_append {P : Program} {o : Oper} {a : Act} {w w' : World} (s x : Operand) (t : TypeId) (ho : o.op = .call { callee := .builtin .append, args := #[s, x], argTypes := #[t, t] }) {v u v' : Value} (hs : a.eval s = v) (hx : a.eval x = u)
    (hr : (Builtin.append_ #[t, t] o.type #[v, u]).run P w = .ok v' w') : (execOp a.eval o).run P w = .ok (.value v') w' := by
  unfold execOp
  simp only [ho, resolve, invoke, builtin, Sem.run_bind, Sem.run_pure, Result.andThen_ok, List.map_toArray, List.map_cons, List.map_nil, hs, hx, hr]
theorem mul_lt {a b : Nat} (ha : a < 18446744073709551616) (hb : b < 18446744073709551616) : (mulF a b).1 < 18446744073709551616 ∧ (mulF a b).2 < 18446744073709551616 := by
  refine ⟨?_, Nat.mod_lt _ (by decide)⟩
  show a * b / 18446744073709551616 < 18446744073709551616
  rw [Nat.div_lt_iff_lt_mul (by decide)]
  exact Nat.mul_lt_mul'' ha hb
end Go.Proofs.YtmanhikpccnfaaaGreat
