/- The facts of a set in order: slices.SortFunc, slices.SortedFunc, sorted. -/
import Derived.Test.YtjbabpnepjhllaaGreatCmpF
import Derived.Shelf.SlSortCmp.NoneTotal
namespace Go.Proofs.YtjbabpnepjhllaaGreat
open Go.RowKit Go.Sort

instance : Inhabited Fct := ⟨⟨0, 0, 0⟩⟩
theorem cellsF_len (l : List Fct) : (cellsOfF l).length = l.length * 3 := by
  unfold cellsOfF
  induction l with
  | nil => rfl
  | cons a l ih => simp only [List.map_cons, List.flatten_cons, List.length_append, ih, factRow, List.length_cons, List.length_nil]; omega
theorem cellsF_get : ∀ (l : List Fct) (j : Nat), (cellsOfF l)[j]? = (l[j / 3]?).bind fun x => (factRow x)[j % 3]?
  | [], j => by simp [cellsOfF]
  | a :: l, j => by
    have e : cellsOfF (a :: l) = factRow a ++ cellsOfF l := rfl
    rw [e]
    have h3 : (factRow a).length = 3 := rfl
    rcases Nat.lt_or_ge j 3 with h | h
    · rw [List.getElem?_append_left (by omega), Nat.div_eq_of_lt h, Nat.mod_eq_of_lt h]; rfl
    · rw [List.getElem?_append_right (by omega), h3, cellsF_get l (j - 3)]
      obtain ⟨q, rfl⟩ : ∃ q, j = q + 3 := ⟨j - 3, by omega⟩
      rw [Nat.add_sub_cancel, Nat.add_div_right _ (by decide), Nat.add_mod_right]
      rfl
theorem flatF (d : Array Fct) {j : Nat} {u : Value} (hj : (cellsOfF d.toList)[j]? = some u) : (flatK factRow 3 d)[j]! = u := by
  have hlt : j < d.size * 3 := by
    have := (List.getElem?_eq_some_iff.1 hj).1
    rw [cellsF_len] at this
    simpa using this
  rw [get_flatK factRow 3 d j hlt]
  rw [cellsF_get] at hj
  obtain ⟨x, hx⟩ : ∃ x, d.toList[j / 3]? = some x := ⟨_, List.getElem?_eq_getElem (by simp; omega)⟩
  rw [hx] at hj
  have hd : d[j / 3]! = x := by
    rw [Array.getElem!_eq_getD, Array.getD_eq_getD_getElem?, ← Array.getElem?_toList, hx]; rfl
  rw [hd]
  have hj' : (factRow x)[j % 3]? = some u := hj
  rw [List.getElem!_eq_getElem?_getD, hj']; rfl
theorem sortF_block (w : World) (g o m : Nat) (d : Array Fct) (os : Array Obj) {j : Nat} (hj : j < w.heap.size) (hne : j ≠ g) : (Go.Proofs.sortWorldK factRow 3 w g o m d os).heap[j]? = w.heap[j]? := by
  unfold Go.Proofs.sortWorldK Go.Sort.grow Go.Sort.putRowK Go.Sort.putRow Go.Sort.mapBlock Go.Sort.ahead
  show ((w.heap.modify g _) ++ os)[j]? = _
  rw [Array.getElem?_append_left (by simpa using hj), Array.getElem?_modify, if_neg (fun e => hne e.symm)]
theorem sortF_at (w : World) (g o m : Nat) (d : Array Fct) (os : Array Obj) {cs : Array Value} {T : TypeId} {fr : Nat × Nat} (h : w.heap[g]? = some (.cells cs T fr)) : (Go.Proofs.sortWorldK factRow 3 w g o m d os).heap[g]? = some (.cells (Go.Sort.putCells id o (Go.Sort.flatK factRow 3 d) cs) T fr) := by
  unfold Go.Proofs.sortWorldK Go.Sort.grow Go.Sort.putRowK Go.Sort.putRow Go.Sort.mapBlock Go.Sort.ahead
  show ((w.heap.modify g _) ++ os)[g]? = _
  rw [Array.getElem?_append_left (by simpa using lt_of_block h), Array.getElem?_modify, if_pos rfl, h]
  rfl
set_option maxHeartbeats 1000000 in
/-- slices.SortFunc of facts of one's own. -/
theorem sortFunc_any {base : Nat} {v : Value} {l : List Fct} (w : World) (h : w.ownsRow base 45 3 v l.length (cellsOfF l)) (hn : l.length ≤ 100000) :
    Calls Tryz.prog 115 #[v, .func (.func 82) #[] #[]] w fun e w' => e = .returned (.tuple #[]) ∧
      ∃ l' : List Fct, l'.Perm l ∧ l'.Pairwise (fun x y => ltF y x = false) ∧ w'.ownsRow base 45 3 v l'.length (cellsOfF l') ∧ Chg (fun j => v.ownBlock = some j) w w' := by
  rcases Nat.eq_zero_or_pos l.length with h0 | hpos
  · obtain rfl := List.eq_nil_of_length_eq_zero h0
    obtain ⟨A, c, rfl⟩ := own_form h
    have hcon := AnyF.slices_SortFunc_none Tryz.sortS A c (.func (.func 82) #[] #[]) w
    change Calls Tryz.prog 115 _ _ _ at hcon
    refine hcon.mono ?_
    rintro e w' ⟨rfl, rfl⟩
    exact ⟨rfl, [], .refl _, .nil, h, Chg.refl _ _⟩
  · rcases h.2 with ⟨_, h1⟩ | ⟨g, cap, cur, rfl, hg, hb, hnc, hcm, hcs, htk⟩
    · omega
    have at_ : ∀ {j : Nat} {u : Value}, (cellsOfF l)[j]? = some u → cur[j]? = some u := fun {j u} hj => by
      rw [← htk, List.getElem?_take] at hj
      split at hj
      · rwa [Array.getElem?_toList] at hj
      · cases hj
    have eg : ∀ args w, (callFunc 82 args).run Tryz.prog w = .ok (.enter 82 args) w := enters_of Tryz.func82 (by kernel_rfl) rfl
    have hH : Go.Sort.HoldsK factRow 3 w g 0 l.toArray := by
      intro j hj
      obtain ⟨u, hu⟩ : ∃ u, (cellsOfF l)[j]? = some u := ⟨_, List.getElem?_eq_getElem (by rw [cellsF_len]; simpa using hj)⟩
      have := flatF l.toArray (j := j) (u := u) (by simpa using hu)
      rw [this]
      refine ⟨?_, ?_⟩
      · simp only [World.cell?, hb]; rw [Nat.zero_add]; exact at_ hu
      · simp [World.frozen?, hb]
    have hcon := AnyQ.slices_SortFunc Tryz.sortS 3 Tryz.isAgg45 Tryz.sizeOf45 factRow (fun _ => rfl) (fun x v hv => by simp [factRow] at hv; rcases hv with rfl | rfl | rfl <;> rfl) cmpF swoF 82 #[] g 0 cap l.toArray w eg (fun _ _ _ _ x y => compare_any x y _) hH (lt_of_block hb) (by simp; omega)
    change Calls Tryz.prog 115 _ _ _ at hcon
    simp only [List.size_toArray] at hcon
    refine hcon.mono ?_
    rintro e w' ⟨rfl, d', m, os, hp, hs, rfl⟩
    have hsz : d'.size = l.length := by simpa using hp.1
    have hperm : d'.toList.Perm l := by
      have h5 := hp.2.2
      simp only [Array.toList_extract, List.extract_eq_take_drop] at h5
      simpa [List.take_of_length_le, hsz] using h5
    have hL : d'.toList.length = l.length := by rw [Array.length_toList, hsz]
    refine ⟨rfl, d'.toList, hperm, ?_, ⟨by rw [cellsF_len], .inr ⟨g, cap, _, by rw [hL], hg, sortF_at w g 0 m d' os hb, by omega, hcm, by simpa [Go.Sort.putCells] using hcs, ?_⟩⟩, ?_⟩
    · refine List.pairwise_iff_getElem.2 fun i j hi hj hij => ?_
      have := hs i j (Nat.zero_le _) hij (by simpa [hsz] using hj)
      rw [show Go.Proofs.ltOf cmpF _ _ = _ from cmp3_lt _ _] at this
      rw [Array.length_toList] at hi hj
      rw [getElem!_pos d' i hi, getElem!_pos d' j hj] at this
      simpa only [Array.getElem_toList] using this
    · refine List.ext_getElem? fun j => ?_
      rw [List.getElem?_take]
      split
      · rename_i hj
        obtain ⟨u, hu⟩ : ∃ u, (cellsOfF d'.toList)[j]? = some u := ⟨_, List.getElem?_eq_getElem (by rw [cellsF_len]; exact hj)⟩
        rw [hu]
        have := flatF d' hu
        unfold Go.Sort.putCells
        have hjs : j < cur.size := by rw [hcs]; omega
        rw [Array.getElem?_toList, Array.getElem?_mapIdx, Array.getElem?_eq_getElem hjs, Option.map_some, if_pos ⟨Nat.zero_le _, by rw [Go.Sort.size_flatK, hsz]; omega⟩, Nat.sub_zero, this]
        rfl
      · rename_i hj
        rw [List.getElem?_eq_none (by rw [cellsF_len]; omega)]
    · exact ⟨rfl, rfl, rfl, by unfold Go.Proofs.sortWorldK Go.Sort.grow Go.Sort.putRowK Go.Sort.putRow Go.Sort.mapBlock Go.Sort.ahead; simp, fun j hj hne => sortF_block w g 0 m d' os hj (fun e => hne (by rw [e]; rfl))⟩
theorem allOf_len {l ss : List Fct} (hl : OrdF l) (hs : AllOf l ss) : ss.length = l.length :=
  ((List.perm_ext_iff_of_nodup hs.1 (hl.imp fun {x y} h e => by subst e; rw [ltF_irr] at h; cases h)).2 hs.2).length_eq
/-- What is sorted, and has the facts of a row in order, is that row. -/
theorem sorted_is {l l' ss : List Fct} (hl : OrdF l) (hs : AllOf l ss) (hp : l'.Perm ss) (hw : l'.Pairwise fun x y => ltF y x = false) : l' = l := by
  have hnd : l'.Nodup := (hp.nodup_iff).2 hs.1
  refine ordF_ext ?_ hl fun f => by rw [hp.mem_iff, hs.2]
  refine (hw.and hnd).imp fun {x y} h => ?_
  exact ltF_total h.1 (fun e => h.2 e.symm)
end Go.Proofs.YtjbabpnepjhllaaGreat
