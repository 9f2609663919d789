/- keysmithlaw08: stack. -/
import Derived.Test.YtmanhikpccnfaaaSLives
import Derived.Test.YtmanhikpccnfaaaPlainStack
namespace Go.Proofs.Ytmanhikpccnfaaa
open Go.RowKit

def zeros8 (n : Nat) : Array Value := ((List.replicate n (0 : UInt8)).map byteV).toArray
theorem zeros8_at {w : World} {F : Nat → Prop} {b n : Nat} (h : w.heap[b]? = some (.cells (zeros8 n) 5 (0, 0))) (hF : F b) : BytesAt w F (.slice (some ⟨b, 0, none⟩) n n) (List.replicate n 0) := by
  refine ⟨some ⟨b, 0, none⟩, n, by simp, by simp, fun r hr => by obtain ⟨x, _, rfl⟩ := List.mem_map.1 hr; rfl, fun _ => ⟨b, 0, rfl, hF, fun i j r u hr hu => ?_⟩⟩
  rw [List.getElem?_map] at hr
  cases hx : (List.replicate n (0 : UInt8))[i]? with
  | none => rw [hx] at hr; cases hr
  | some x =>
    rw [hx] at hr
    cases hr
    cases j with
    | succ j => simp at hu
    | zero =>
      simp at hu
      subst hu
      simp only [World.cell?, h, zeros8]
      have hx' : x = 0 := by have := List.mem_of_getElem? hx; simp at this; exact this.2
      have hi : i < n := by have := (List.getElem?_eq_some_iff.1 hx).1; simpa using this
      subst hx'
      simp [hi]
theorem make32 (w : World) : (Instr.makeSlice 59 (.int .i64 32) (.int .i64 32)).run Try.prog w = .ok (.slice (some ⟨w.heap.size, 0, none⟩) 32 32) (w.alloc (.cells (zeros8 32) 5)) := by kernel_rfl
theorem one_at {w : World} {F : Nat → Prop} {b1 b2 : Nat} (h1 : w.heap[b1]? = some (.cells (zeros8 32) 5 (0, 0))) (h2 : w.heap[b2]? = some (.cells #[.int .u64 64, .slice (some ⟨b1, 0, none⟩) 32 32, .bool true] 61 (0, 0))) (f1 : F b1) (f2 : F b2) :
    RegsAt w F (.slice (some ⟨b2, 0, none⟩) 1 1) (rsB (List.replicate 32 0)) := by
  refine ⟨[(⟨64, List.replicate 32 0, true⟩, ⟨64, some ⟨b1, 0, none⟩, 32, 32, true⟩)], rfl, ⟨_, 1, rfl, by simp, by simp [entRow], fun _ => ⟨b2, 0, rfl, f2, fun i j r u hr hu => ?_⟩⟩, ?_⟩
  · have hc : ∀ o, w.cell? ⟨b2, o, none⟩ = (#[.int .u64 64, .slice (some ⟨b1, 0, none⟩) 32 32, .bool true] : Array Value)[o]? := fun o => by simp only [World.cell?, h2]; simp
    rw [hc]
    match i, j with
    | 0, 0 => simp [entRow] at hr; subst hr; simp at hu; subst hu; rfl
    | 0, 1 => simp [entRow] at hr; subst hr; simp at hu; subst hu; rfl
    | 0, 2 => simp [entRow] at hr; subst hr; simp at hu; subst hu; rfl
    | 0, j + 3 => simp [entRow] at hr; subst hr; simp at hu
    | i + 1, _ => simp at hr
  · intro x hx
    simp only [List.mem_singleton] at hx
    subst hx
    exact ⟨rfl, rfl, rfl, zeros8_at h1 f1, by show 64 < _; decide, by simp⟩

theorem results2 {P : Program} {fn : Func} {p q : Tmp} {ty : TypeId} (h : fn.results = #[.cell p ty, .tmp q]) (tmps : Array Value) (w : World) (g : Nat) (t : TypeId) (cs : Array Value) (fr : Nat × Nat) (d : TypeDesc)
    (hp : tmps.getD p undef = .pointer (some ⟨g, 0, none⟩)) (hg : w.heap[g]? = some (.cells cs t fr))
    (hu : P.underlying ty = some d) (hd : (match d with | .struct _ | .array _ _ => true | _ => false) = true) (hi : (P.info? ty).map (·.size) = some cs.size) :
    (results fn tmps).run P w = .ok (.tuple #[.agg cs, tmps.getD q undef]) w := by
  have hp' : tmps[p]?.getD undef = .pointer (some ⟨g, 0, none⟩) := by simpa using hp
  simp [results, h, hp', asAddr, run_loadVar_row w g t ty cs fr d hg hu hd hi]

def R0 : List Nat := [0, 0, 0, 0, 0, 0, 0, 0, 0, 0, 0, 0, 0, 0, 0, 0]
def R80 : List Nat := [0, 0, 0, 0, 80, 0, 0, 0, 0, 0, 0, 0, 0, 0, 0, 0]

theorem okR0 : StOk (stP R0 0) := ⟨rfl, by decide, by decide⟩
theorem stack_new (w0 w : World) (zs : Array Value) (hz : zs = (stRow (stP R0 0)).toArray) (hb : Below w0.heap.size w0 w) (W : World) (hW : W = ((w.alloc (.cells zs 30)).alloc (.cells (zeros8 32) 5)).alloc (.cells #[.int .u64 64, .slice (some ⟨w.heap.size + 1, 0, none⟩) 32 32, .bool true] 61)) :
    Calls Try.prog 7 #[.slice (some ⟨w.heap.size + 1 + 1, 0, none⟩) 1 1] W fun e w' => ∃ bm, e = .returned (.tuple #[.pointer (some ⟨bm, 0, none⟩), .int .i64 0]) ∧ Held w0 w' (seg W.heap.size w'.heap.size) (.pointer (some ⟨bm, 0, none⟩)) (rsB (List.replicate 32 0)) [(w.heap.size, stP R0 0)] [] := by
  have z1 : (w.alloc (.cells zs 30)).heap.size = w.heap.size + 1 := by simp
  have z2 : ((w.alloc (.cells zs 30)).alloc (.cells (zeros8 32) 5)).heap.size = w.heap.size + 1 + 1 := by simp
  have z3 : W.heap.size = w.heap.size + 1 + 1 + 1 := by rw [hW]; simp
  have a0 : W.heap[w.heap.size]? = some (.cells zs 30 (0, 0)) := by
    rw [hW]
    exact (Below.heap_alloc _ _ _ (by omega)).trans ((Below.heap_alloc _ _ _ (by omega)).trans (heap_alloc_new w _))
  have a1 : W.heap[w.heap.size + 1]? = some (.cells (zeros8 32) 5 (0, 0)) := by
    rw [hW]
    exact (Below.heap_alloc _ _ _ (by omega)).trans (by rw [← z1]; exact heap_alloc_new _ _)
  have a2 : W.heap[w.heap.size + 1 + 1]? = some (.cells #[.int .u64 64, .slice (some ⟨w.heap.size + 1, 0, none⟩) 32 32, .bool true] 61 (0, 0)) := by
    rw [hW, ← z2]
    exact heap_alloc_new _ _
  have hbW : Below w.heap.size w W := by
    rw [hW]
    exact (((Below.refl _ _).alloc (Nat.le_refl _) _).alloc (by simp) _).alloc (by simp; omega) _
  refine (New_any _ W (fun k => k < W.heap.size) _ (by simp [rsB]) (one_at a1 a2 (by omega) (by omega)) (fun _ h => h)).mono ?_
  rintro e w' ⟨hb', ⟨h0, _⟩ | ⟨_, p, rfl, hm⟩⟩
  · exact absurd check_rsB h0
  · obtain ⟨bm, rfl⟩ : ∃ bm, p = .pointer (some ⟨bm, 0, none⟩) := by obtain ⟨bm, v, h, _⟩ := hm; exact ⟨bm, h⟩
    have hs : sortBy Reg.base (rsB (List.replicate 32 0)) = rsB (List.replicate 32 0) := rfl
    rw [hs] at hm
    have hsz := hb.size
    refine ⟨bm, rfl, (hb.trans (hbW.mono hb.size)).trans (hb'.mono (by omega)), hm, fun k hk => hk.2, fun k hk => by have := hk.1; omega, by simp, fun x hx => ?_, by simp⟩
    simp only [List.mem_singleton] at hx
    subst hx
    exact ⟨(hb'.block _ (by show w.heap.size < _; omega)).trans (by rw [← hz]; exact a0), okR0, fun h => by have := h.1; simp only at this; omega, hsz⟩

set_option maxRecDepth 100000 in
set_option maxHeartbeats 1600000 in
theorem stack_any (w0 w : World) (hb : Below w0.heap.size w0 w) : Calls Try.prog 10 #[] w fun e w' => ∃ bm F, e = .returned (.tuple #[.agg (stRow (stP R80 1000)).toArray, .pointer (some ⟨bm, 0, none⟩)]) ∧ Held w0 w' F (.pointer (some ⟨bm, 0, none⟩)) (rsB (List.replicate 32 0)) [] [] := by
  have HN := Lib.hid (stack_new w0 w _ rfl hb)
  have h32 := make32
  clear hb
  go_enter Try.func10, Try.ntmps10
  go_wp2_with fail
  refine (HN.out _ rfl).mono ?_
  rintro e w1 ⟨bm, rfl, hH⟩
  have H := Lib.hid hH
  clear hH HN h32
  go_upto_region 3 with (refine H.out.store_fresh (s := stP R0 1000) ⟨rfl, by decide, by decide⟩ rfl _ _ rfl _ rfl rfl rfl ?_; intro W hW; clear H; have H := Lib.hid hW; clear hW)
  have c0 : W.cell? ⟨w1.heap.size, 4, none⟩ = some (.int .u64 0) := H.out.cell 0 4 rfl rfl
  have f0 := H.out.frozen 0 4 rfl
  go_upto_region 4 with fail
  refine wp_name ?_
  intro W1 hW1
  have hH := (H.out.setCell (i := 0) rfl 4 (.int .u64 80) (s' := stP R80 1000) rfl ⟨rfl, by decide, by decide⟩).cast hW1
  clear hW1 c0 f0 H
  have H := Lib.hid hH
  clear hH
  go_wp2_with (first | (refine H.out.load_row 0 rfl rfl _ rfl rfl ?_) | (refine H.out.store_row 1 rfl (s := stP R80 1000) ⟨rfl, by decide, by decide⟩ rfl _ _ rfl rfl rfl ?_; intro W2 hW; clear H; have H := Lib.hid hW; clear hW))
  refine bodyPost_ret (results2 (ty := 30) rfl _ _ w.heap.size 30 (stRow (stP R80 1000)).toArray (0, 0) _ rfl ((H.out.get (i := 1) rfl).1) Try.underlying30 rfl (by rw [stRow_size (H.out.ok 1 rfl)]; exact infoSt)) rfl ?_
  exact ⟨bm, _, rfl, H.out.bare⟩
end Go.Proofs.Ytmanhikpccnfaaa
