
/- alloc.Check: whether places may be. -/
import Derived.Test.YtppoiahhaclleaaDoorAllocD
namespace Go.Proofs.YtppoiahhaclleaaDoor
open Go.RowKit

def meetsF (s t : Int × Int) : Bool := decide (0 ≤ s.1) && (decide (0 ≤ t.1) && (decide (s.1 ≤ t.2) && decide (t.1 ≤ s.2)))
def badP (pool : Int) (s : Int × Int) (pl : Int) : Bool := decide (0 ≤ s.1) && (decide (pool ≤ pl) || decide (pl < -64))
def clashP (s t : Int × Int) (a b : Int) : Bool := a == b && meetsF s t
set_option maxRecDepth 100000 in
set_option maxHeartbeats 4000000 in
theorem meets_any (s t : Int × Int) (w : World) : Calls Tryd.prog 46 #[.agg #[.int .i64 s.1, .int .i64 s.2], .agg #[.int .i64 t.1, .int .i64 t.2]] w fun e w' => e = .returned (.bool (meetsF s t)) ∧ Below w.heap.size w w' := by
  obtain ⟨W, hW⟩ : ∃ q, q = (w.alloc (.cells #[.int .i64 s.1, .int .i64 s.2] 68)).alloc (.cells #[.int .i64 t.1, .int .i64 t.2] 68) := ⟨_, rfl⟩
  have hb : Below w.heap.size w W := by rw [hW]; exact ((Below.refl _ _).alloc (Nat.le_refl _) _).alloc (by simp) _
  have z1 : (w.alloc (.cells #[.int .i64 s.1, .int .i64 s.2] 68)).heap.size = w.heap.size + 1 := by simp
  have hz : W.heap.size = w.heap.size + 1 + 1 := by rw [hW]; simp
  have h1 : W.heap[w.heap.size]? = some (.cells #[.int .i64 s.1, .int .i64 s.2] 68 (0, 0)) := by rw [hW]; exact (Below.heap_alloc _ _ _ (by omega)).trans (heap_alloc_new w _)
  have h2 : W.heap[w.heap.size + 1]? = some (.cells #[.int .i64 t.1, .int .i64 t.2] 68 (0, 0)) := by rw [hW, ← z1]; exact heap_alloc_new _ _
  have HLS := Lib.hid (live_any s)
  have HLT := Lib.hid (live_any t)
  obtain ⟨a, ha⟩ : ∃ a, s.1 = a := ⟨_, rfl⟩
  obtain ⟨b, hb2⟩ : ∃ a, s.2 = a := ⟨_, rfl⟩
  obtain ⟨c, hc⟩ : ∃ a, t.1 = a := ⟨_, rfl⟩
  obtain ⟨d, hd⟩ : ∃ a, t.2 = a := ⟨_, rfl⟩
  have hv : meetsF s t = (decide (0 ≤ a) && (decide (0 ≤ c) && (decide (a ≤ d) && decide (c ≤ b)))) := by unfold meetsF; rw [ha, hb2, hc, hd]
  obtain ⟨res, hres⟩ : ∃ x, meetsF s t = x := ⟨_, rfl⟩
  rw [hres] at hv ⊢
  have HR := Lib.hid hv
  rw [ha, hb2] at HLS h1 hW ⊢
  rw [hc, hd] at HLT h2 hW ⊢
  have s0 : W.cell? ⟨w.heap.size, 0, none⟩ = some (.int .i64 a) := by simp only [World.cell?, h1]; rfl
  have s1 : W.cell? ⟨w.heap.size, 1, none⟩ = some (.int .i64 b) := by simp only [World.cell?, h1]; rfl
  have t0 : W.cell? ⟨w.heap.size + 1, 0, none⟩ = some (.int .i64 c) := by simp only [World.cell?, h2]; rfl
  have t1 : W.cell? ⟨w.heap.size + 1, 1, none⟩ = some (.int .i64 d) := by simp only [World.cell?, h2]; rfl
  have HC := Lib.hid (And.intro s0 (And.intro s1 (And.intro t0 t1)))
  have HW := Lib.hid hW
  have HB := Lib.hid hb
  have HZ := Lib.hid hz
  have l0 : w.heap.size < W.heap.size := by omega
  have l1 : w.heap.size + 1 < W.heap.size := by omega
  clear hW hb z1 hz h1 h2 ha hb2 hc hd hv hres
  cases d0 : decide (0 ≤ a)
  · rw [d0] at HLS
    go_enter Tryd.func46, Tryd.ntmps46
    go_upto_region 1 with fail
    rw [← HW.out]
    go_wp2_with ((with_reducible refine (HLS.out _).mono ?_); rintro e w1 ⟨rfl, hb1⟩)
    go_ret
    exact ⟨ret_bool (by rw [HR.out, d0]; rfl), HB.out.trans (hb1.mono HB.out.size)⟩
  rw [d0] at HLS
  go_enter Tryd.func46, Tryd.ntmps46
  go_upto_region 1 with fail
  rw [← HW.out]
  cases d1 : decide (0 ≤ c)
  · rw [d1] at HLT
    go_wp2_with (first | ((with_reducible refine (HLS.out _).mono ?_); rintro e w1 ⟨rfl, hb1⟩; have t0 := (hb1.cell (p := ⟨w.heap.size + 1, 0, none⟩) l1).trans HC.out.2.2.1; have t1 := (hb1.cell (p := ⟨w.heap.size + 1, 1, none⟩) l1).trans HC.out.2.2.2) | ((with_reducible refine (HLT.out _).mono ?_); rintro e w2 ⟨rfl, hb2⟩))
    go_ret
    exact ⟨ret_bool (by rw [HR.out, d0, d1]; rfl), HB.out.trans ((hb1.trans (hb2.mono hb1.size)).mono HB.out.size)⟩
  rw [d1] at HLT
  cases d2 : decide (a ≤ d)
  · go_wp2_with (first | ((with_reducible refine (HLS.out _).mono ?_); rintro e w1 ⟨rfl, hb1⟩; have t0 := (hb1.cell (p := ⟨w.heap.size + 1, 0, none⟩) l1).trans HC.out.2.2.1; have t1 := (hb1.cell (p := ⟨w.heap.size + 1, 1, none⟩) l1).trans HC.out.2.2.2) | ((with_reducible refine (HLT.out _).mono ?_); rintro e w2 ⟨rfl, hb2⟩; have HB2 := Lib.hid (hb1.trans (hb2.mono hb1.size)); have r0 := (HB2.out.cell (p := ⟨w.heap.size, 0, none⟩) l0).trans HC.out.1; have r1 := (HB2.out.cell (p := ⟨w.heap.size, 1, none⟩) l0).trans HC.out.2.1; have r2 := (HB2.out.cell (p := ⟨w.heap.size + 1, 0, none⟩) l1).trans HC.out.2.2.1; have r3 := (HB2.out.cell (p := ⟨w.heap.size + 1, 1, none⟩) l1).trans HC.out.2.2.2))
    go_ret
    exact ⟨ret_bool (by rw [HR.out, d0, d1, d2]; rfl), HB.out.trans (HB2.out.mono HB.out.size)⟩
  cases d3 : decide (c ≤ b)
  · go_wp2_with (first | ((with_reducible refine (HLS.out _).mono ?_); rintro e w1 ⟨rfl, hb1⟩; have t0 := (hb1.cell (p := ⟨w.heap.size + 1, 0, none⟩) l1).trans HC.out.2.2.1; have t1 := (hb1.cell (p := ⟨w.heap.size + 1, 1, none⟩) l1).trans HC.out.2.2.2) | ((with_reducible refine (HLT.out _).mono ?_); rintro e w2 ⟨rfl, hb2⟩; have HB2 := Lib.hid (hb1.trans (hb2.mono hb1.size)); have r0 := (HB2.out.cell (p := ⟨w.heap.size, 0, none⟩) l0).trans HC.out.1; have r1 := (HB2.out.cell (p := ⟨w.heap.size, 1, none⟩) l0).trans HC.out.2.1; have r2 := (HB2.out.cell (p := ⟨w.heap.size + 1, 0, none⟩) l1).trans HC.out.2.2.1; have r3 := (HB2.out.cell (p := ⟨w.heap.size + 1, 1, none⟩) l1).trans HC.out.2.2.2))
    go_ret
    exact ⟨ret_bool (by rw [HR.out, d0, d1, d2, d3]; rfl), HB.out.trans (HB2.out.mono HB.out.size)⟩
  · go_wp2_with (first | ((with_reducible refine (HLS.out _).mono ?_); rintro e w1 ⟨rfl, hb1⟩; have t0 := (hb1.cell (p := ⟨w.heap.size + 1, 0, none⟩) l1).trans HC.out.2.2.1; have t1 := (hb1.cell (p := ⟨w.heap.size + 1, 1, none⟩) l1).trans HC.out.2.2.2) | ((with_reducible refine (HLT.out _).mono ?_); rintro e w2 ⟨rfl, hb2⟩; have HB2 := Lib.hid (hb1.trans (hb2.mono hb1.size)); have r0 := (HB2.out.cell (p := ⟨w.heap.size, 0, none⟩) l0).trans HC.out.1; have r1 := (HB2.out.cell (p := ⟨w.heap.size, 1, none⟩) l0).trans HC.out.2.1; have r2 := (HB2.out.cell (p := ⟨w.heap.size + 1, 0, none⟩) l1).trans HC.out.2.2.1; have r3 := (HB2.out.cell (p := ⟨w.heap.size + 1, 1, none⟩) l1).trans HC.out.2.2.2))
    go_ret
    exact ⟨ret_bool (by rw [HR.out, d0, d1, d2, d3]; rfl), HB.out.trans (HB2.out.mono HB.out.size)⟩

set_option maxRecDepth 100000 in
set_option maxHeartbeats 4000000 in
theorem acheck_l0 {Ap : Option Addr} {cp gs n : Nat} {pool : Int} {sp : List (Int × Int)} {pl : List Int} {G : Nat → Prop} (w : World) (Q : Exit → Act → World → Prop) {u0 u3 u4 u5 u6 u7 u8 u9 u10 u11 u12 u13 u14 u15 u16 u17 u18 u19 u20 u21 u22 u23 u24 u25 u26 u27 u28 u29 u30 u31 u32 u33 u34 u35 u36 u37 u38 u42 u43 u44 u45 u46 u47 u48 u49 u50 u51 u52 u53 u54 u55 u56 u57 u58 u59 u60 u61 u62 u63 u64 u65 u66 u67 u68 u69 u70 u71 u72 u73 u74 u75 u76 u77 u78 u79 u80 u81 u82 u83 u84 u85 u86 u87 u88 u89 u90 u91 u92 u93 u94 u95 : Value} (hg : SpansAt w gs sp) (hn : sp.length = n ∧ pl.length = n) (hp : NumsAt w G (.slice Ap n cp) pl) (hG : ∀ k, G k → k < w.heap.size) (hn3 : n ≤ 1000)
    (k1 : (∀ (k : Nat) (s : Int × Int) (a : Int), sp[k]? = some s → pl[k]? = some a → badP pool s a = false) → ∀ (v6 v10 v11 v41 v42 v43 v44 v45 v46 v47 v48 v49 v50 v51 v52 v53 v54 v55 v56 v57 v58 v59 v60 v61 v62 v63 : Value) (w' : World), Below w.heap.size w w' → Q (.exit 0) ⟨#[u0, .int .i64 pool, .slice Ap n cp, u3, u4, u5, v6, u7, u8, u9, v10, v11, u12, u13, u14, u15, u16, u17, u18, u19, u20, u21, u22, u23, u24, u25, u26, u27, u28, u29, u30, u31, u32, u33, u34, u35, u36, u37, u38, .slice (some ⟨gs, 0, none⟩) n n, .int .i64 (n : Nat), v41, v42, v43, v44, v45, v46, v47, v48, v49, v50, v51, v52, v53, v54, v55, v56, v57, v58, v59, v60, v61, v62, v63, u64, u65, u66, u67, u68, u69, u70, u71, u72, u73, u74, u75, u76, u77, u78, u79, u80, u81, u82, u83, u84, u85, u86, u87, u88, u89, u90, u91, u92, u93, u94, u95], []⟩ w') (k2 : (∃ (k : Nat) (s : Int × Int) (a : Int), sp[k]? = some s ∧ pl[k]? = some a ∧ badP pool s a = true) → ∀ (v10 v11 v41 v42 v43 v44 v45 v46 v47 v48 v49 v50 v51 v52 v53 v54 v55 v56 v57 v58 v59 v60 v61 v62 v63 : Value) (w' : World), Below w.heap.size w w' → Q (.ret) ⟨#[u0, .int .i64 pool, .slice Ap n cp, u3, u4, u5, .int .i64 2, u7, u8, u9, v10, v11, u12, u13, u14, u15, u16, u17, u18, u19, u20, u21, u22, u23, u24, u25, u26, u27, u28, u29, u30, u31, u32, u33, u34, u35, u36, u37, u38, .slice (some ⟨gs, 0, none⟩) n n, .int .i64 (n : Nat), v41, v42, v43, v44, v45, v46, v47, v48, v49, v50, v51, v52, v53, v54, v55, v56, v57, v58, v59, v60, v61, v62, v63, u64, u65, u66, u67, u68, u69, u70, u71, u72, u73, u74, u75, u76, u77, u78, u79, u80, u81, u82, u83, u84, u85, u86, u87, u88, u89, u90, u91, u92, u93, u94, u95], []⟩ w') : (partL Tryd.f24 0).wp Tryd.prog Q ⟨#[u0, .int .i64 pool, .slice Ap n cp, u3, u4, u5, u6, u7, u8, u9, u10, u11, u12, u13, u14, u15, u16, u17, u18, u19, u20, u21, u22, u23, u24, u25, u26, u27, u28, u29, u30, u31, u32, u33, u34, u35, u36, u37, u38, .slice (some ⟨gs, 0, none⟩) n n, .int .i64 (n : Nat), .int .i64 0, u42, u43, u44, u45, u46, u47, u48, u49, u50, u51, u52, u53, u54, u55, u56, u57, u58, u59, u60, u61, u62, u63, u64, u65, u66, u67, u68, u69, u70, u71, u72, u73, u74, u75, u76, u77, u78, u79, u80, u81, u82, u83, u84, u85, u86, u87, u88, u89, u90, u91, u92, u93, u94, u95], []⟩ w := by
  have HG := Lib.hid hg
  have HN := Lib.hid hn
  have HPL := Lib.hid hp
  have HLT := Lib.hid (And.intro (lt_of_block hg) hG)
  have K1 := Lib.hid k1
  have K2 := Lib.hid k2
  clear hg hn hp hG k1 k2
  conv => arg 2; whnf
  go_wp2
  go_loopw [41] (fun j wr => ∃ r : Nat, r ≤ n ∧ j = .int .i64 r ∧ Below w.heap.size w wr ∧ Hid (∀ (k : Nat) (s : Int × Int) (a : Int), k < r → sp[k]? = some s → pl[k]? = some a → badP pool s a = false)) (fun j _ => n - (intOf j).toNat)
  case atStart => exact ⟨0, by omega, rfl, Below.refl _ _, Lib.hid (fun k s a h => absurd h (by omega))⟩
  case round =>
    obtain ⟨r, hr, rfl, hbl, HT⟩ := hrel
    have HBL := Lib.hid hbl
    clear hbl
    by_cases hlt : r < n
    · obtain ⟨s, hs⟩ : ∃ s, sp[r]? = some s := ⟨_, List.getElem?_eq_getElem (by have := HN.out.1; omega)⟩
      obtain ⟨a, ha⟩ : ∃ s, pl[r]? = some s := ⟨_, List.getElem?_eq_getElem (by have := HN.out.2; omega)⟩
      obtain ⟨b, o, rfl, hGb, hc⟩ := HPL.out.at_ ha
      have hsp := (HG.out.next HBL.out).cells hs
      have hpc := (HBL.out.cell (p := ⟨b, o + r, none⟩) (HLT.out.2 b hGb)).trans hc
      have HS := Lib.hid hs
      have HA := Lib.hid ha
      obtain ⟨x, hx⟩ : ∃ x, s.1 = x := ⟨_, rfl⟩
      obtain ⟨y, hy⟩ : ∃ x, s.2 = x := ⟨_, rfl⟩
      have HLV := live_any s (wr.alloc (.cells #[.int .i64 s.1, .int .i64 s.2] 68))
      rw [hx, hy] at hsp HLV
      have hlv := Lib.hid HLV
      clear HLV
      have HX := Lib.hid (And.intro hx hy)
      have hs0 := hsp.1
      have hs1 := hsp.2
      have lb : b < wr.heap.size := Nat.lt_of_lt_of_le (HLT.out.2 b hGb) HBL.out.size
      have hb5 : Below wr.heap.size wr (wr.alloc (.cells #[.int .i64 x, .int .i64 y] 68)) := (Below.refl _ _).alloc (Nat.le_refl _) _
      have HP5 := Lib.hid ((hb5.cell (p := ⟨b, o + r, none⟩) lb).trans hpc)
      have HB5 := Lib.hid (HBL.out.trans (hb5.mono HBL.out.size))
      have HLB := Lib.hid (show b < (wr.alloc (.cells #[.int .i64 x, .int .i64 y] 68)).heap.size from Nat.lt_of_lt_of_le lb hb5.size)
      have i0 : (0 : Int) ≤ (r : Int) := by omega
      have i1 : (r : Int) < (n : Int) := by omega
      clear hs ha hc hx hy hsp hb5 hGb
      cases d0 : decide (0 ≤ x)
      · rw [d0] at hlv
        have HN2 := Lib.hid (show badP pool s a = false by unfold badP; rw [HX.out.1, d0]; rfl)
        go_wp2_with ((with_reducible refine (hlv.out).mono ?_); rintro e w1 ⟨rfl, hb1⟩)
        go_roundw
        case rel => exact ⟨r + 1, by omega, by go_num, HB5.out.trans (hb1.mono HB5.out.size), Lib.hid (fun k s' a' hk h1 h2 => by
          by_cases e : k = r
          · subst e; rw [HS.out] at h1; rw [HA.out] at h2; cases h1; cases h2; exact HN2.out
          · exact HT.out k s' a' (by omega) h1 h2)⟩
        case measure => simp [intOf]; omega
      · rw [d0] at hlv
        cases d1 : decide (pool ≤ a)
        · cases d2 : decide (a < (-64 : Int))
          · have HN2 := Lib.hid (show badP pool s a = false by unfold badP; rw [HX.out.1, d0, d1, d2]; rfl)
            go_wp2_with ((with_reducible refine (hlv.out).mono ?_); rintro e w1 ⟨rfl, hb1⟩; have hp1 := (hb1.cell (p := ⟨b, o + r, none⟩) HLB.out).trans HP5.out)
            go_roundw
            case rel => exact ⟨r + 1, by omega, by go_num, HB5.out.trans (hb1.mono HB5.out.size), Lib.hid (fun k s' a' hk h1 h2 => by
              by_cases e : k = r
              · subst e; rw [HS.out] at h1; rw [HA.out] at h2; cases h1; cases h2; exact HN2.out
              · exact HT.out k s' a' (by omega) h1 h2)⟩
            case measure => simp [intOf]; omega
          · have HN2 := Lib.hid (show badP pool s a = true by unfold badP; rw [HX.out.1, d0, d1, d2]; rfl)
            go_wp2_with ((with_reducible refine (hlv.out).mono ?_); rintro e w1 ⟨rfl, hb1⟩; have hp1 := (hb1.cell (p := ⟨b, o + r, none⟩) HLB.out).trans HP5.out)
            exact K2.out ⟨r, s, a, HS.out, HA.out, HN2.out⟩ _ _ _ _ _ _ _ _ _ _ _ _ _ _ _ _ _ _ _ _ _ _ _ _ _ _ (HB5.out.trans (hb1.mono HB5.out.size))
        · have HN2 := Lib.hid (show badP pool s a = true by unfold badP; rw [HX.out.1, d0, d1]; rfl)
          go_wp2_with ((with_reducible refine (hlv.out).mono ?_); rintro e w1 ⟨rfl, hb1⟩; have hp1 := (hb1.cell (p := ⟨b, o + r, none⟩) HLB.out).trans HP5.out)
          exact K2.out ⟨r, s, a, HS.out, HA.out, HN2.out⟩ _ _ _ _ _ _ _ _ _ _ _ _ _ _ _ _ _ _ _ _ _ _ _ _ _ _ (HB5.out.trans (hb1.mono HB5.out.size))
    · have hrn : n ≤ r := by omega
      have HN2 := Lib.hid (show ∀ (k : Nat) (s : Int × Int) (a : Int), sp[k]? = some s → pl[k]? = some a → badP pool s a = false from fun k s a h1 h2 => HT.out k s a (by have := (List.getElem?_eq_some_iff.1 h1).1; have := HN.out.1; omega) h1 h2)
      clear hrn
      go_wp2
      exact K1.out HN2.out _ _ _ _ _ _ _ _ _ _ _ _ _ _ _ _ _ _ _ _ _ _ _ _ _ _ _ HBL.out

structure At6 (w : World) (p q : Addr) (g h : Nat) (a b : Int) (s t : Int × Int) : Prop where
  p : w.cell? p = some (.int .i64 a)
  q : w.cell? q = some (.int .i64 b)
  g : w.heap[g]? = some (.cells #[.int .i64 s.1, .int .i64 s.2] 68 (0, 0))
  h : w.heap[h]? = some (.cells #[.int .i64 t.1, .int .i64 t.2] 68 (0, 0))
theorem At6.next {w w' : World} {p q : Addr} {g h : Nat} {a b : Int} {s t : Int × Int} (x : At6 w p q g h a b s t) (hb : Below w.heap.size w w') (hp : p.block < w.heap.size) (hq : q.block < w.heap.size) : At6 w' p q g h a b s t :=
  ⟨(hb.cell hp).trans x.p, (hb.cell hq).trans x.q, (hb.block g (lt_of_block x.g)).trans x.g, (hb.block h (lt_of_block x.h)).trans x.h⟩
theorem At6.cells {w : World} {p q : Addr} {g h : Nat} {a b : Int} {s t : Int × Int} (x : At6 w p q g h a b s t) : w.cell? ⟨g, 0, none⟩ = some (.int .i64 s.1) ∧ w.cell? ⟨g, 1, none⟩ = some (.int .i64 s.2) ∧ w.cell? ⟨h, 0, none⟩ = some (.int .i64 t.1) ∧ w.cell? ⟨h, 1, none⟩ = some (.int .i64 t.2) := by
  have h1 := x.g
  have h2 := x.h
  simp only [World.cell?, h1, h2]
  exact ⟨rfl, rfl, rfl, rfl⟩

set_option maxRecDepth 100000 in
set_option maxHeartbeats 4000000 in
theorem acheck_l4 {Ap : Option Addr} {cp gs n r g13 : Nat} {a : Int} {s : Int × Int} {sp : List (Int × Int)} {pl : List Int} {G : Nat → Prop} (w : World) (Q : Exit → Act → World → Prop) {u0 u1 u3 u4 u5 u6 u7 u8 u9 u10 u11 u14 u15 u16 u17 u18 u19 u20 u21 u22 u23 u24 u25 u26 u27 u28 u29 u30 u31 u32 u33 u34 u35 u36 u37 u38 u39 u40 u41 u42 u43 u44 u45 u46 u47 u48 u49 u50 u51 u52 u53 u54 u55 u56 u57 u58 u59 u60 u61 u62 u63 u64 u65 u66 u67 u68 u69 u70 u71 u72 u76 u77 u78 u79 u80 u81 u82 u83 u84 u85 u86 u87 u88 u89 u90 u91 u92 u93 u94 u95 : Value} (hg : SpansAt w gs sp) (hn : sp.length = n ∧ pl.length = n) (hp : NumsAt w G (.slice Ap n cp) pl) (hG : ∀ k, G k → k < w.heap.size) (hr : r < n) (hs : sp[r]? = some s) (ha : pl[r]? = some a) (h13 : w.heap[g13]? = some (.cells #[.int .i64 s.1, .int .i64 s.2] 68 (0, 0))) (hn3 : n ≤ 1000)
    (k1 : (∀ (i : Nat) (t : Int × Int) (b : Int), i < r → sp[i]? = some t → pl[i]? = some b → clashP s t a b = false) → ∀ (v6 v14 v15 v75 v76 v77 v78 v79 v80 v81 v82 v83 v84 v85 v86 v87 v88 v89 v90 v91 v92 v93 v94 : Value) (w' : World), Below w.heap.size w w' → Q (.exit 4) ⟨#[u0, u1, .slice Ap n cp, u3, u4, u5, v6, u7, u8, u9, u10, u11, .int .i64 (r : Nat), .pointer (some ⟨g13, 0, none⟩), v14, v15, u16, u17, u18, u19, u20, u21, u22, u23, u24, u25, u26, u27, u28, u29, u30, u31, u32, u33, u34, u35, u36, u37, u38, u39, u40, u41, u42, u43, u44, u45, u46, u47, u48, u49, u50, u51, u52, u53, u54, u55, u56, u57, u58, u59, u60, u61, u62, u63, u64, u65, u66, u67, u68, u69, u70, u71, u72, .slice (some ⟨gs, 0, none⟩) r n, .int .i64 (r : Nat), v75, v76, v77, v78, v79, v80, v81, v82, v83, v84, v85, v86, v87, v88, v89, v90, v91, v92, v93, v94, u95], []⟩ w') (k2 : (∃ (i : Nat) (t : Int × Int) (b : Int), i < r ∧ sp[i]? = some t ∧ pl[i]? = some b ∧ clashP s t a b = true) → ∀ (v14 v15 v75 v76 v77 v78 v79 v80 v81 v82 v83 v84 v85 v86 v87 v88 v89 v90 v91 v92 v93 v94 : Value) (w' : World), Below w.heap.size w w' → Q (.ret) ⟨#[u0, u1, .slice Ap n cp, u3, u4, u5, .int .i64 6, u7, u8, u9, u10, u11, .int .i64 (r : Nat), .pointer (some ⟨g13, 0, none⟩), v14, v15, u16, u17, u18, u19, u20, u21, u22, u23, u24, u25, u26, u27, u28, u29, u30, u31, u32, u33, u34, u35, u36, u37, u38, u39, u40, u41, u42, u43, u44, u45, u46, u47, u48, u49, u50, u51, u52, u53, u54, u55, u56, u57, u58, u59, u60, u61, u62, u63, u64, u65, u66, u67, u68, u69, u70, u71, u72, .slice (some ⟨gs, 0, none⟩) r n, .int .i64 (r : Nat), v75, v76, v77, v78, v79, v80, v81, v82, v83, v84, v85, v86, v87, v88, v89, v90, v91, v92, v93, v94, u95], []⟩ w') : (partL Tryd.f24 4).wp Tryd.prog Q ⟨#[u0, u1, .slice Ap n cp, u3, u4, u5, u6, u7, u8, u9, u10, u11, .int .i64 (r : Nat), .pointer (some ⟨g13, 0, none⟩), u14, u15, u16, u17, u18, u19, u20, u21, u22, u23, u24, u25, u26, u27, u28, u29, u30, u31, u32, u33, u34, u35, u36, u37, u38, u39, u40, u41, u42, u43, u44, u45, u46, u47, u48, u49, u50, u51, u52, u53, u54, u55, u56, u57, u58, u59, u60, u61, u62, u63, u64, u65, u66, u67, u68, u69, u70, u71, u72, .slice (some ⟨gs, 0, none⟩) r n, .int .i64 (r : Nat), .int .i64 0, u76, u77, u78, u79, u80, u81, u82, u83, u84, u85, u86, u87, u88, u89, u90, u91, u92, u93, u94, u95], []⟩ w := by
  have HG := Lib.hid hg
  have HN := Lib.hid hn
  have HPL := Lib.hid hp
  have HSA := Lib.hid (And.intro hs ha)
  have H13 := Lib.hid h13
  have HLT := Lib.hid (And.intro (lt_of_block hg) hG)
  have K1 := Lib.hid k1
  have K2 := Lib.hid k2
  obtain ⟨bR, oR, hA, hGR, hcR⟩ := hp.at_ ha
  subst hA
  have HCR := Lib.hid hcR
  have HBR := Lib.hid (hG bR hGR)
  clear hg hn hp hG hs ha h13 k1 k2 hGR hcR
  conv => arg 2; whnf
  go_wp2
  go_loopw [75] (fun j wr => ∃ k : Nat, k ≤ r ∧ j = .int .i64 k ∧ Below w.heap.size w wr ∧ Hid (∀ (i : Nat) (t : Int × Int) (b : Int), i < k → sp[i]? = some t → pl[i]? = some b → clashP s t a b = false)) (fun j _ => r - (intOf j).toNat)
  case atStart => exact ⟨0, by omega, rfl, Below.refl _ _, Lib.hid (fun k s a h => absurd h (by omega))⟩
  case round =>
    obtain ⟨k, hk, rfl, hbl, HT⟩ := hrel
    have HBL := Lib.hid hbl
    clear hbl
    by_cases hlt : k < r
    · obtain ⟨t, ht⟩ : ∃ s, sp[k]? = some s := ⟨_, List.getElem?_eq_getElem (by have := HN.out.1; omega)⟩
      obtain ⟨b, hb⟩ : ∃ s, pl[k]? = some s := ⟨_, List.getElem?_eq_getElem (by have := HN.out.2; omega)⟩
      obtain ⟨b', o', hA', hGb, hc⟩ := HPL.out.at_ hb
      cases hA'
      have hsp := (HG.out.next HBL.out).cells ht
      have HS := Lib.hid ht
      have HA := Lib.hid hb
      obtain ⟨W5, hW5⟩ : ∃ q, q = wr.alloc (.cells #[.int .i64 t.1, .int .i64 t.2] 68) := ⟨_, rfl⟩
      have hb5 : Below wr.heap.size wr W5 := by rw [hW5]; exact (Below.refl _ _).alloc (Nat.le_refl _) _
      have HB5 := Lib.hid (HBL.out.trans (hb5.mono HBL.out.size))
      have lb : bR < wr.heap.size := Nat.lt_of_lt_of_le HBR.out HBL.out.size
      have H6 := Lib.hid (show At6 W5 ⟨bR, oR + r, none⟩ ⟨bR, oR + k, none⟩ g13 wr.heap.size a b s t from ⟨(HB5.out.cell (p := ⟨bR, oR + r, none⟩) HBR.out).trans HCR.out, (HB5.out.cell (p := ⟨bR, oR + k, none⟩) HBR.out).trans hc,
        (HB5.out.block g13 (lt_of_block H13.out)).trans H13.out, by rw [hW5]; exact heap_alloc_new wr _⟩)
      have HL5 := Lib.hid (show bR < W5.heap.size from Nat.lt_of_lt_of_le HBR.out HB5.out.size)
      have HMT := Lib.hid (meets_any s t W5.drew)
      have HW5 := Lib.hid hW5
      have hs0 := hsp.1
      have hs1 := hsp.2
      have i0 : (0 : Int) ≤ (k : Int) := by omega
      have i1 : (k : Int) < (r : Int) := by omega
      have j0 : (0 : Int) ≤ (r : Int) := by omega
      have j1 : (r : Int) < (n : Int) := by omega
      have j2 : (k : Int) < (n : Int) := by omega
      have q1 : IntKind.i64.wrap (k : Int) = k := by simp [IntKind.wrap, IntKind.bits, IntKind.signed]; omega
      have q2 : IntKind.i64.wrap (r : Int) = r := by simp [IntKind.wrap, IntKind.bits, IntKind.signed]; omega
      obtain ⟨m, hm⟩ : ∃ m, meetsF s t = m := ⟨_, rfl⟩
      rw [hm] at HMT
      have HM := Lib.hid hm
      clear ht hb hc hsp hb5 hGb hW5 hm
      go_upto_region 19 with fail
      rw [← HW5.out]
      clear hs0 hs1
      cases d0 : (a == b)
      · have HN2 := Lib.hid (show clashP s t a b = false by unfold clashP; rw [d0]; rfl)
        (refine wp_region_lines (fun w_ => At6 w_ ⟨bR, oR + r, none⟩ ⟨bR, oR + k, none⟩ g13 wr.heap.size a b s t) (by kernel_rfl) (by kernel_rfl) (H6.out.next (Below.refl _ _).drew HL5.out HL5.out) ?_)
        (try simp only [])
        repeat (first | (refine runL_no (by rfl) ?_; (try simp only [Act.put, List.setIfInBounds_toArray, List.set_cons_zero, List.set_cons_succ])) | (refine runL_val (v := ?_) (by rfl) ?_ ?_; rotate_left; (focus (intro w_ hw_; have f1_ := hw_.p; have f2_ := hw_.q; have f3_ := hw_.cells.1; have f4_ := hw_.cells.2.1; have f5_ := hw_.cells.2.2.1; have f6_ := hw_.cells.2.2.2; go_simp; (try with_reducible rfl); done)); (try simp only [Act.put, List.setIfInBounds_toArray, List.set_cons_zero, List.set_cons_succ])))
        (refine runL_nil ?_)
        clear d0
        go_wp2
        go_roundw
        case rel => exact ⟨k + 1, by omega, by go_num, HB5.out.drew, Lib.hid (fun i t' b' hk h1 h2 => by
          by_cases e : i = k
          · subst e; rw [HS.out] at h1; rw [HA.out] at h2; cases h1; cases h2; exact HN2.out
          · exact HT.out i t' b' (by omega) h1 h2)⟩
        case measure => simp [intOf]; omega
      · skip
        (refine wp_region_lines (fun w_ => At6 w_ ⟨bR, oR + r, none⟩ ⟨bR, oR + k, none⟩ g13 wr.heap.size a b s t) (by kernel_rfl) (by kernel_rfl) (H6.out.next (Below.refl _ _).drew HL5.out HL5.out) ?_)
        (try simp only [])
        repeat (first | (refine runL_no (by rfl) ?_; (try simp only [Act.put, List.setIfInBounds_toArray, List.set_cons_zero, List.set_cons_succ])) | (refine runL_val (v := ?_) (by rfl) ?_ ?_; rotate_left; (focus (intro w_ hw_; have f1_ := hw_.p; have f2_ := hw_.q; have f3_ := hw_.cells.1; have f4_ := hw_.cells.2.1; have f5_ := hw_.cells.2.2.1; have f6_ := hw_.cells.2.2.2; go_simp; (try with_reducible rfl); done)); (try simp only [Act.put, List.setIfInBounds_toArray, List.set_cons_zero, List.set_cons_succ])) | (refine runL_call (f := ?_) (args := ?_) (w1 := ?_) (by rfl) (by rfl) ?_ ?_; rotate_left 3; (focus (go_simp; refine ⟨⟨?_, ?_⟩, ?_⟩ <;> with_reducible rfl)); (with_reducible refine (HMT.out).mono ?_); rintro e w1 ⟨rfl, hb⟩; have HB6 := Lib.hid ((Below.refl W5.heap.size W5).drew.trans hb); clear hb; refine ⟨_, rfl, .inr (H6.out.next HB6.out HL5.out HL5.out), ?_⟩; (try simp only [Act.put, List.setIfInBounds_toArray, List.set_cons_zero, List.set_cons_succ])))
        (refine runL_nil ?_)
        have HD := Lib.hid d0
        clear d0
        cases m
        · have HN2 := Lib.hid (show clashP s t a b = false by unfold clashP; rw [HD.out, HM.out]; rfl)
          go_wp2
          go_roundw
          case rel => exact ⟨k + 1, by omega, by go_num, HB5.out.trans (HB6.out.mono HB5.out.size), Lib.hid (fun i t' b' hk h1 h2 => by
            by_cases e : i = k
            · subst e; rw [HS.out] at h1; rw [HA.out] at h2; cases h1; cases h2; exact HN2.out
            · exact HT.out i t' b' (by omega) h1 h2)⟩
          case measure => simp [intOf]; omega
        · have HN2 := Lib.hid (show clashP s t a b = true by unfold clashP; rw [HD.out, HM.out]; rfl)
          go_wp2
          exact K2.out ⟨k, t, b, hlt, HS.out, HA.out, HN2.out⟩ _ _ _ _ _ _ _ _ _ _ _ _ _ _ _ _ _ _ _ _ _ _ _ (HB5.out.trans (HB6.out.mono HB5.out.size))
    · have HN2 := Lib.hid (show ∀ (i : Nat) (t : Int × Int) (b : Int), i < r → sp[i]? = some t → pl[i]? = some b → clashP s t a b = false from fun i t b h h1 h2 => HT.out i t b (by omega) h1 h2)
      go_wp2
      exact K1.out HN2.out _ _ _ _ _ _ _ _ _ _ _ _ _ _ _ _ _ _ _ _ _ _ _ _ HBL.out

set_option maxRecDepth 100000 in
set_option maxHeartbeats 4000000 in
theorem acheck_l2 {Ap : Option Addr} {cp gs n : Nat} {sp : List (Int × Int)} {pl : List Int} {G : Nat → Prop} (w : World) (Q : Exit → Act → World → Prop) {u0 u1 u3 u4 u5 u6 u7 u8 u10 u11 u12 u13 u14 u15 u16 u17 u18 u19 u20 u21 u22 u23 u24 u25 u26 u27 u28 u29 u30 u31 u32 u33 u34 u35 u36 u37 u38 u39 u40 u41 u42 u43 u44 u45 u46 u47 u48 u49 u50 u51 u52 u53 u54 u55 u56 u57 u58 u59 u60 u61 u62 u63 u67 u68 u69 u70 u71 u72 u73 u74 u75 u76 u77 u78 u79 u80 u81 u82 u83 u84 u85 u86 u87 u88 u89 u90 u91 u92 u93 u94 u95 : Value} (hg : SpansAt w gs sp) (hn : sp.length = n ∧ pl.length = n) (hp : NumsAt w G (.slice Ap n cp) pl) (hG : ∀ k, G k → k < w.heap.size) (hn3 : n ≤ 1000)
    (k1 : (∀ (r i : Nat) (s t : Int × Int) (a b : Int), i < r → sp[r]? = some s → pl[r]? = some a → sp[i]? = some t → pl[i]? = some b → clashP s t a b = false) → ∀ (v6 v12 v13 v14 v15 v66 v67 v68 v69 v70 v71 v72 v73 v74 v75 v76 v77 v78 v79 v80 v81 v82 v83 v84 v85 v86 v87 v88 v89 v90 v91 v92 v93 v94 v95 : Value) (w' : World), Below w.heap.size w w' → Q (.exit 2) ⟨#[u0, u1, .slice Ap n cp, u3, u4, u5, v6, u7, u8, .slice (some ⟨gs, 0, none⟩) n n, u10, u11, v12, v13, v14, v15, u16, u17, u18, u19, u20, u21, u22, u23, u24, u25, u26, u27, u28, u29, u30, u31, u32, u33, u34, u35, u36, u37, u38, u39, u40, u41, u42, u43, u44, u45, u46, u47, u48, u49, u50, u51, u52, u53, u54, u55, u56, u57, u58, u59, u60, u61, u62, u63, .slice (some ⟨gs, 0, none⟩) n n, .int .i64 (n : Nat), v66, v67, v68, v69, v70, v71, v72, v73, v74, v75, v76, v77, v78, v79, v80, v81, v82, v83, v84, v85, v86, v87, v88, v89, v90, v91, v92, v93, v94, v95], []⟩ w') (k2 : (∃ (r i : Nat) (s t : Int × Int) (a b : Int), i < r ∧ sp[r]? = some s ∧ pl[r]? = some a ∧ sp[i]? = some t ∧ pl[i]? = some b ∧ clashP s t a b = true) → ∀ (v12 v13 v14 v15 v66 v67 v68 v69 v70 v71 v72 v73 v74 v75 v76 v77 v78 v79 v80 v81 v82 v83 v84 v85 v86 v87 v88 v89 v90 v91 v92 v93 v94 v95 : Value) (w' : World), Below w.heap.size w w' → Q (.ret) ⟨#[u0, u1, .slice Ap n cp, u3, u4, u5, .int .i64 6, u7, u8, .slice (some ⟨gs, 0, none⟩) n n, u10, u11, v12, v13, v14, v15, u16, u17, u18, u19, u20, u21, u22, u23, u24, u25, u26, u27, u28, u29, u30, u31, u32, u33, u34, u35, u36, u37, u38, u39, u40, u41, u42, u43, u44, u45, u46, u47, u48, u49, u50, u51, u52, u53, u54, u55, u56, u57, u58, u59, u60, u61, u62, u63, .slice (some ⟨gs, 0, none⟩) n n, .int .i64 (n : Nat), v66, v67, v68, v69, v70, v71, v72, v73, v74, v75, v76, v77, v78, v79, v80, v81, v82, v83, v84, v85, v86, v87, v88, v89, v90, v91, v92, v93, v94, v95], []⟩ w') : (partL Tryd.f24 2).wp Tryd.prog Q ⟨#[u0, u1, .slice Ap n cp, u3, u4, u5, u6, u7, u8, .slice (some ⟨gs, 0, none⟩) n n, u10, u11, u12, u13, u14, u15, u16, u17, u18, u19, u20, u21, u22, u23, u24, u25, u26, u27, u28, u29, u30, u31, u32, u33, u34, u35, u36, u37, u38, u39, u40, u41, u42, u43, u44, u45, u46, u47, u48, u49, u50, u51, u52, u53, u54, u55, u56, u57, u58, u59, u60, u61, u62, u63, .slice (some ⟨gs, 0, none⟩) n n, .int .i64 (n : Nat), .int .i64 0, u67, u68, u69, u70, u71, u72, u73, u74, u75, u76, u77, u78, u79, u80, u81, u82, u83, u84, u85, u86, u87, u88, u89, u90, u91, u92, u93, u94, u95], []⟩ w := by
  have HG := Lib.hid hg
  have HN := Lib.hid hn
  have HPL := Lib.hid hp
  have HLT := Lib.hid (And.intro (lt_of_block hg) hG)
  have K1 := Lib.hid k1
  have K2 := Lib.hid k2
  clear hg hn hp hG k1 k2
  conv => arg 2; whnf
  go_wp2
  go_loopw [66] (fun j wr => ∃ r : Nat, r ≤ n ∧ j = .int .i64 r ∧ Below w.heap.size w wr ∧ Hid (∀ (r' i : Nat) (s t : Int × Int) (a b : Int), r' < r → i < r' → sp[r']? = some s → pl[r']? = some a → sp[i]? = some t → pl[i]? = some b → clashP s t a b = false)) (fun j _ => n - (intOf j).toNat)
  case atStart => exact ⟨0, by omega, rfl, Below.refl _ _, Lib.hid (fun k _ s _ a _ h => absurd h (by omega))⟩
  case round =>
    obtain ⟨r, hr, rfl, hbl, HT⟩ := hrel
    have HBL := Lib.hid hbl
    clear hbl
    by_cases hlt : r < n
    · obtain ⟨s, hs⟩ : ∃ s, sp[r]? = some s := ⟨_, List.getElem?_eq_getElem (by have := HN.out.1; omega)⟩
      obtain ⟨a, ha⟩ : ∃ s, pl[r]? = some s := ⟨_, List.getElem?_eq_getElem (by have := HN.out.2; omega)⟩
      have hsp := (HG.out.next HBL.out).cells hs
      have HS := Lib.hid hs
      have HA := Lib.hid ha
      obtain ⟨W5, hW5⟩ : ∃ q, q = wr.alloc (.cells #[.int .i64 s.1, .int .i64 s.2] 68) := ⟨_, rfl⟩
      have hb5 : Below wr.heap.size wr W5 := by rw [hW5]; exact (Below.refl _ _).alloc (Nat.le_refl _) _
      have HB5 := Lib.hid (HBL.out.trans (hb5.mono HBL.out.size))
      have H13 := Lib.hid (show W5.heap[wr.heap.size]? = some (.cells #[.int .i64 s.1, .int .i64 s.2] 68 (0, 0)) by rw [hW5]; exact heap_alloc_new wr _)
      have HW5 := Lib.hid hW5
      have hs0 := hsp.1
      have hs1 := hsp.2
      have j0 : (0 : Int) ≤ (r : Int) := by omega
      have j1 : (r : Int) < (n : Int) := by omega
      have j2 : (r : Int) ≤ (n : Int) := by omega
      clear hs ha hsp hb5 hW5
      go_upto_region 16 with fail
      rw [← HW5.out]
      clear hs0 hs1
      go_wp2
      refine wp_code (c := partL Tryd.f24 4) (by kernel_rfl) ?_
      refine acheck_l4 (gs := gs) (r := r) (g13 := wr.heap.size) (s := s) (a := a) (sp := sp) (pl := pl) _ _ (HG.out.next HB5.out) HN.out (Rows.keep HPL.out (SameOn.of_below HB5.out HLT.out.2)) (fun k hk => Nat.lt_of_lt_of_le (HLT.out.2 k hk) HB5.out.size) hlt HS.out HA.out H13.out hn3 ?_ ?_
      rotate_left
      · rintro ⟨i, t, b, hi, h1, h2, h3⟩ v14 v15 v75 v76 v77 v78 v79 v80 v81 v82 v83 v84 v85 v86 v87 v88 v89 v90 v91 v92 v93 v94 w7 hb7
        exact K2.out ⟨r, i, s, t, a, b, hi, HS.out, HA.out, h1, h2, h3⟩ _ _ _ _ _ _ _ _ _ _ _ _ _ _ _ _ _ _ _ _ _ _ _ _ _ _ _ _ _ _ _ _ _ _ _ (HB5.out.trans (hb7.mono HB5.out.size))
      · intro hno v6 v14 v15 v75 v76 v77 v78 v79 v80 v81 v82 v83 v84 v85 v86 v87 v88 v89 v90 v91 v92 v93 v94 w7 hb7
        have HNO := Lib.hid hno
        have HB7 := Lib.hid (HB5.out.trans (hb7.mono HB5.out.size))
        clear hno hb7
        go_wp2
        go_roundw
        case rel => exact ⟨r + 1, by omega, by go_num, HB7.out, Lib.hid (fun r' i s' t' a' b' h1 h2 h3 h4 h5 h6 => by
          by_cases e : r' = r
          · subst e; rw [HS.out] at h3; rw [HA.out] at h4; cases h3; cases h4; exact HNO.out i t' b' h2 h5 h6
          · exact HT.out r' i s' t' a' b' (by omega) h2 h3 h4 h5 h6)⟩
        case measure => simp [intOf]; omega
    · have HN2 := Lib.hid (show ∀ (r' i : Nat) (s t : Int × Int) (a b : Int), i < r' → sp[r']? = some s → pl[r']? = some a → sp[i]? = some t → pl[i]? = some b → clashP s t a b = false from fun r' i s t a b h2 h3 h4 h5 h6 => HT.out r' i s t a b (by have := (List.getElem?_eq_some_iff.1 h3).1; have := HN.out.1; omega) h2 h3 h4 h5 h6)
      go_wp2
      exact K1.out HN2.out _ _ _ _ _ _ _ _ _ _ _ _ _ _ _ _ _ _ _ _ _ _ _ _ _ _ _ _ _ _ _ _ _ _ _ _ HBL.out

def anyBad (pool : Int) (sp : List (Int × Int)) (pl : List Int) : Bool := (List.range sp.length).any fun k => badP pool (sp.getD k (-1, -1)) (pl.getD k 0)
def anyClash (sp : List (Int × Int)) (pl : List Int) : Bool := (List.range sp.length).any fun r => (List.range r).any fun i => clashP (sp.getD r (-1, -1)) (sp.getD i (-1, -1)) (pl.getD r 0) (pl.getD i 0)
theorem bad_no {pool : Int} {sp : List (Int × Int)} {pl : List Int} (hl : pl.length = sp.length) (h : ∀ (k : Nat) (s : Int × Int) (a : Int), sp[k]? = some s → pl[k]? = some a → badP pool s a = false) : anyBad pool sp pl = false := by
  unfold anyBad
  rw [List.any_eq_false]
  intro k hk
  have hk := List.mem_range.1 hk
  have h1 : sp[k]? = some (sp.getD k (-1, -1)) := by rw [List.getD_eq_getElem?_getD, List.getElem?_eq_getElem hk]; rfl
  have h2 : pl[k]? = some (pl.getD k 0) := by rw [List.getD_eq_getElem?_getD, List.getElem?_eq_getElem (by omega)]; rfl
  rw [h k _ _ h1 h2]; decide
theorem getD_some {T : Type} {l : List T} {k : Nat} {x : T} (h : l[k]? = some x) (d : T) : l.getD k d = x := by rw [List.getD_eq_getElem?_getD, h]; rfl
theorem bad_yes {pool : Int} {sp : List (Int × Int)} {pl : List Int} (h : ∃ (k : Nat) (s : Int × Int) (a : Int), sp[k]? = some s ∧ pl[k]? = some a ∧ badP pool s a = true) : anyBad pool sp pl = true := by
  obtain ⟨k, s, a, h1, h2, h3⟩ := h
  exact List.any_eq_true.2 ⟨k, List.mem_range.2 (List.getElem?_eq_some_iff.1 h1).1, by rw [getD_some h1, getD_some h2]; exact h3⟩
theorem clash_no {sp : List (Int × Int)} {pl : List Int} (hl : pl.length = sp.length) (h : ∀ (r i : Nat) (s t : Int × Int) (a b : Int), i < r → sp[r]? = some s → pl[r]? = some a → sp[i]? = some t → pl[i]? = some b → clashP s t a b = false) : anyClash sp pl = false := by
  unfold anyClash
  rw [List.any_eq_false]
  intro r hr
  have hr := List.mem_range.1 hr
  rw [Bool.not_eq_true, List.any_eq_false]
  intro i hi
  have hi := List.mem_range.1 hi
  have g1 : ∀ k, k < sp.length → sp[k]? = some (sp.getD k (-1, -1)) := fun k hk => by rw [List.getD_eq_getElem?_getD, List.getElem?_eq_getElem hk]; rfl
  have g2 : ∀ k, k < sp.length → pl[k]? = some (pl.getD k 0) := fun k hk => by rw [List.getD_eq_getElem?_getD, List.getElem?_eq_getElem (by omega)]; rfl
  rw [h r i _ _ _ _ hi (g1 r hr) (g2 r hr) (g1 i (by omega)) (g2 i (by omega))]; decide
theorem clash_yes {sp : List (Int × Int)} {pl : List Int} (h : ∃ (r i : Nat) (s t : Int × Int) (a b : Int), i < r ∧ sp[r]? = some s ∧ pl[r]? = some a ∧ sp[i]? = some t ∧ pl[i]? = some b ∧ clashP s t a b = true) : anyClash sp pl = true := by
  obtain ⟨r, i, s, t, a, b, hi, h1, h2, h3, h4, h5⟩ := h
  exact List.any_eq_true.2 ⟨r, List.mem_range.2 (List.getElem?_eq_some_iff.1 h1).1, List.any_eq_true.2 ⟨i, List.mem_range.2 hi, by rw [getD_some h1, getD_some h2, getD_some h3, getD_some h4]; exact h5⟩⟩
/-- What is told of places. -/
def placesF (p : LP) (pool : Int) (pl : List Int) : Int :=
  if (checkF p 64).2 ≠ 0 then (checkF p 64).2
  else if pool < 0 ∨ 16 < pool ∨ (pl.length : Int) ≠ p.regs then 2
  else if anyBad pool (spansF p) pl = true then 2
  else if anyClash (spansF p) pl = true then 6
  else 0
set_option maxRecDepth 100000 in
set_option maxHeartbeats 8000000 in
theorem acheck_any (p : LP) (Ab Ao Ap : Option Addr) (nb cb no co n0 cp : Nat) (pool : Int) (pl : List Int) (w : World) (hp : ProgAt w (fun k => k < w.heap.size) [.int .i64 p.regs, .slice Ab nb cb, .slice Ao no co] p) (hpl : NumsAt w (fun k => k < w.heap.size) (.slice Ap n0 cp) pl) :
    Calls Tryd.prog 24 #[.agg #[.int .i64 p.regs, .slice Ab nb cb, .slice Ao no co], .int .i64 pool, .slice Ap n0 cp] w fun e w' => e = .returned (.int .i64 (placesF p pool pl)) ∧ Below w.heap.size w w' := by
  obtain ⟨W, hW, hbW, hzW, hl_, hr_⟩ := boxed w #[.int .i64 p.regs, .slice Ab nb cb, .slice Ao no co] 25
  have c0 : W.cell? ⟨w.heap.size, 0, none⟩ = some (.int .i64 p.regs) := by rw [hl_]; rfl
  have c1 : W.cell? ⟨w.heap.size, 1, none⟩ = some (.slice Ab nb cb) := by rw [hl_]; rfl
  have c2 : W.cell? ⟨w.heap.size, 2, none⟩ = some (.slice Ao no co) := by rw [hl_]; rfl
  have hp1 := prog_next hp hbW
  have HC := Lib.hid (check_any p Ab Ao nb cb no co W hp1)
  have hl0 : pl.length = n0 := by obtain ⟨A, c, hv, _⟩ := rows_form hpl; cases hv; rfl
  have HPL := Lib.hid hpl
  have HP1 := Lib.hid hp1
  have HW := Lib.hid hW
  have HB := Lib.hid hbW
  have hlt : w.heap.size < W.heap.size := by omega
  obtain ⟨x, hx⟩ : ∃ x, (checkF p 64).1 = x := ⟨_, rfl⟩
  obtain ⟨y, hy⟩ : ∃ x, (checkF p 64).2 = x := ⟨_, rfl⟩
  obtain ⟨res, hres⟩ : ∃ x, placesF p pool pl = x := ⟨_, rfl⟩
  have hv := hres
  unfold placesF at hv
  rw [hy, hl0] at hv
  have HV := Lib.hid hv
  rw [hx, hy] at HC
  rw [hres]
  have HY := Lib.hid hy
  have HL0 := Lib.hid hl0
  clear hW hbW hzW hl_ hr_ hp hp1 hpl hx hy hres hv hl0
  by_cases h0 : y = 0
  rotate_left
  · have d0 : (y != 0) = true := by simpa using h0
    have HV := Lib.hid (HV.out.symm.trans (if_pos h0))
    clear h0 hlt
    go_enter Tryd.func24, Tryd.ntmps24
    go_upto_region 1 with fail
    rw [← HW.out]
    go_wp2_with ((with_reducible refine (HC.out).mono ?_); rintro e w1 ⟨rfl, hb1⟩)
    go_ret
    exact ⟨by rw [HV.out]; rfl, HB.out.trans (hb1.mono HB.out.size)⟩
  subst h0
  have HV := Lib.hid (HV.out.symm.trans (if_neg (by decide)))
  go_enter Tryd.func24, Tryd.ntmps24
  go_upto_region 1 with fail
  rw [← HW.out]
  go_upto_region 4 with ((with_reducible refine (HC.out).mono ?_); rintro e w1 ⟨rfl, hb1⟩)
  have e0 := (hb1.cell (p := ⟨w.heap.size, 0, none⟩) hlt).trans c0
  have e1 := (hb1.cell (p := ⟨w.heap.size, 1, none⟩) hlt).trans c1
  have e2 := (hb1.cell (p := ⟨w.heap.size, 2, none⟩) hlt).trans c2
  have HB1 := Lib.hid (HB.out.trans (hb1.mono HB.out.size))
  have HPW := Lib.hid (prog_next HP1.out hb1)
  clear c0 c1 c2 hb1 hlt
  by_cases m1 : pool < 0
  · have d1 : decide (pool < (0 : Int)) = true := decide_eq_true m1
    have HV := Lib.hid (HV.out.trans (if_pos (.inl m1)))
    clear m1
    go_wp2
    go_ret
    exact ⟨by rw [HV.out]; rfl, HB1.out⟩
  have d1 : decide (pool < (0 : Int)) = false := decide_eq_false m1
  by_cases m2 : 16 < pool
  · have d2 : decide ((16 : Int) < pool) = true := decide_eq_true m2
    have HV := Lib.hid (HV.out.trans (if_pos (.inr (.inl m2))))
    clear m1 m2
    go_wp2
    go_ret
    exact ⟨by rw [HV.out]; rfl, HB1.out⟩
  have d2 : decide ((16 : Int) < pool) = false := decide_eq_false m2
  by_cases m3 : (n0 : Int) = p.regs
  rotate_left
  · have d3 : ((n0 : Int) != p.regs) = true := by simpa using m3
    have HV := Lib.hid (HV.out.trans (if_pos (.inr (.inr m3))))
    clear m1 m2 m3
    go_wp2
    go_ret
    exact ⟨by rw [HV.out]; rfl, HB1.out⟩
  have d3 : ((n0 : Int) != p.regs) = false := by simpa using m3
  have HV := Lib.hid (HV.out.trans (if_neg (by rw [not_or, not_or]; exact ⟨m1, m2, fun h => h m3⟩)))
  have HSP := Lib.hid (spans_any p Ab Ao nb cb no co n0 w1 HPW.out HY.out m3.symm)
  have HSL := Lib.hid (show (spansF p).length = n0 by rw [spans_len, ← m3]; rfl)
  have hn64 : n0 ≤ 1000 := by have := (head_ok (check_run HY.out).1).1; omega
  clear m1 m2 m3
  go_upto_region 7 with ((with_reducible refine (HSP.out).mono ?_); rintro e w2 ⟨gs, rfl, hgs, hsp, hb2⟩)
  have HS := Lib.hid hsp
  have HB2 := Lib.hid (HB1.out.trans (hb2.mono HB1.out.size))
  have HPL2 := Lib.hid (show NumsAt w2 (fun k => k < w.heap.size) (.slice Ap n0 cp) pl from Rows.keep HPL.out (SameOn.of_below HB2.out fun _ h => h))
  clear e0 e1 e2 d1 d2 d3 hgs hsp hb2
  go_wp2
  refine wp_code (c := partL Tryd.f24 0) (by kernel_rfl) ?_
  refine acheck_l0 (gs := gs) (sp := spansF p) (pl := pl) _ _ HS.out ⟨HSL.out, HL0.out⟩ HPL2.out (fun k hk => Nat.lt_of_lt_of_le hk HB2.out.size) hn64 ?_ ?_
  rotate_left
  · intro hbad v10 v11 v41 v42 v43 v44 v45 v46 v47 v48 v49 v50 v51 v52 v53 v54 v55 v56 v57 v58 v59 v60 v61 v62 v63 w3 hb3
    have HV := Lib.hid (HV.out.trans (if_pos (bad_yes hbad)))
    have HB3 := Lib.hid (HB2.out.trans (hb3.mono HB2.out.size))
    clear hbad hb3
    go_wp2
    go_ret
    exact ⟨by rw [HV.out]; rfl, HB3.out⟩
  intro hno v6 v10 v11 v41 v42 v43 v44 v45 v46 v47 v48 v49 v50 v51 v52 v53 v54 v55 v56 v57 v58 v59 v60 v61 v62 v63 w3 hb3
  have HV := Lib.hid (HV.out.trans (if_neg (by rw [bad_no (by rw [HL0.out, HSL.out]) hno]; decide)))
  have HB3 := Lib.hid (HB2.out.trans (hb3.mono HB2.out.size))
  have HS3 := Lib.hid (HS.out.next hb3)
  clear hno hb3
  go_wp2
  refine wp_code (c := partL Tryd.f24 2) (by kernel_rfl) ?_
  refine acheck_l2 (gs := gs) (sp := spansF p) (pl := pl) _ _ HS3.out ⟨HSL.out, HL0.out⟩ (Rows.keep HPL.out (SameOn.of_below HB3.out fun _ h => h)) (fun k hk => Nat.lt_of_lt_of_le hk HB3.out.size) hn64 ?_ ?_
  rotate_left
  · intro hcl v12 v13 v14 v15 v66 v67 v68 v69 v70 v71 v72 v73 v74 v75 v76 v77 v78 v79 v80 v81 v82 v83 v84 v85 v86 v87 v88 v89 v90 v91 v92 v93 v94 v95 w4 hb4
    have HV := Lib.hid (HV.out.trans (if_pos (clash_yes hcl)))
    have HB4 := Lib.hid (HB3.out.trans (hb4.mono HB3.out.size))
    clear hcl hb4
    go_wp2
    go_ret
    exact ⟨by rw [HV.out]; rfl, HB4.out⟩
  intro hno v6 v12 v13 v14 v15 v66 v67 v68 v69 v70 v71 v72 v73 v74 v75 v76 v77 v78 v79 v80 v81 v82 v83 v84 v85 v86 v87 v88 v89 v90 v91 v92 v93 v94 v95 w4 hb4
  have HV := Lib.hid (HV.out.trans (if_neg (by rw [clash_no (by rw [HL0.out, HSL.out]) hno]; decide)))
  have HB4 := Lib.hid (HB3.out.trans (hb4.mono HB3.out.size))
  clear hno hb4
  go_wp2
  go_ret
  exact ⟨by rw [HV.out]; rfl, HB4.out⟩

end Go.Proofs.YtppoiahhaclleaaDoor
