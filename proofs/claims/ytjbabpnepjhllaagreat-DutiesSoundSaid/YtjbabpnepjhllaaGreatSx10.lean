/- Part 10 of a claim; what it proves stands in its last text. -/
import Derived.Test.YtjbabpnepjhllaaGreatSx8
import Derived.Test.YtjbabpnepjhllaaGreatSx5
import Derived.Deep.Cut
import Derived.Deep.LoopGhost
import Derived.Test.YtjbabpnepjhllaaGreatSx9
import Derived.Test.YtjbabpnepjhllaaGreatSx6
namespace Go.Proofs.YtjbabpnepjhllaaGreat
open Go.RowKit
set_option maxRecDepth 100000
theorem given_any (v:KVar) (w:World):Calls Tryz.prog 62 #[.agg #[.int .i64 v.limbs,.bool v.secret,.int .i64 v.mode]] w fun e w'=>e=.returned (.bool (givenK v))∧Below w.heap.size w w':=by
 cases d0:(v.mode == 1)
 · cases d1:(v.mode == 2)
   · have HV:=Lh (show givenK v=false by unfold givenK;rw [d0,d1];rfl)
     go_enter Tryz.func62,Tryz.ntmps62
     go_wp2
     go_ret
     exact ⟨ret_bool HV.out.symm,(Below.refl _ _).alloc (Nat.le_refl _) _⟩
   · have HV:=Lh (show givenK v=true by unfold givenK;rw [d0,d1];rfl)
     go_enter Tryz.func62,Tryz.ntmps62
     go_wp2
     go_ret
     exact ⟨ret_bool HV.out.symm,(Below.refl _ _).alloc (Nat.le_refl _) _⟩
 · have HV:=Lh (show givenK v=true by unfold givenK;rw [d0];rfl)
   go_enter Tryz.func62,Tryz.ntmps62
   go_wp2
   go_ret
   exact ⟨ret_bool HV.out.symm,(Below.refl _ _).alloc (Nat.le_refl _) _⟩
def shapeK (k:Int):Int:=(if kHasD k then 1 else 0)+(if kHasE k then 2 else 0)+(if kHasA k then 4 else 0)+(if kHasB k then 8 else 0)+(if kHasC k then 16 else 0)
theorem kinds16 {k:Int} (h:1≤k∧k≤16):k=1∨k=2∨k=3∨k=4∨k=5∨k=6∨k=7∨k=8∨k=9∨k=10∨k=11∨k=12∨k=13∨k=14∨k=15∨k=16:=by omega
set_option maxHeartbeats 4000000 in
theorem shape_any (k:Int) (w:World):Calls Tryz.prog 86 #[.int .i64 k] w fun e w'=>e=.returned (.tuple #[.int .i64 (if 1≤k∧k≤16 then shapeK k else 0),.bool (decide (1≤k∧k≤16))])∧w'=w:=by
 by_cases h:1≤k∧k≤16
 · rcases kinds16 h with rfl | rfl | rfl | rfl | rfl | rfl | rfl | rfl | rfl | rfl | rfl | rfl | rfl | rfl | rfl | rfl
   all_goals
     clear h
     go_enter Tryz.func86,Tryz.ntmps86
     go_wp2
     go_ret2
     exact ⟨rfl,rfl⟩
 · have HV:=Lh (show (Value.tuple #[.int .i64 (if 1≤k∧k≤16 then shapeK k else 0),.bool (decide (1≤k∧k≤16))])=.tuple #[.int .i64 0,.bool false] by rw [if_neg h,decide_eq_false h])
   have hne:∀ j:Int,1≤j∧j≤16→(k == j)=false:=fun j hj=>beq_eq_false_iff_ne.2 (by omega)
   have e1:=hne 1 (by omega)
   have e2:=hne 2 (by omega)
   have e3:=hne 3 (by omega)
   have e4:=hne 4 (by omega)
   have e5:=hne 5 (by omega)
   have e6:=hne 6 (by omega)
   have e7:=hne 7 (by omega)
   have e8:=hne 8 (by omega)
   have e9:=hne 9 (by omega)
   have e10:=hne 10 (by omega)
   have e11:=hne 11 (by omega)
   have e12:=hne 12 (by omega)
   have e13:=hne 13 (by omega)
   have e14:=hne 14 (by omega)
   have e15:=hne 15 (by omega)
   have e16:=hne 16 (by omega)
   clear hne h
   rw [HV.out]
   go_enter Tryz.func86,Tryz.ntmps86
   go_wp2
   go_ret2
   exact ⟨rfl,rfl⟩
set_option maxHeartbeats 4000000 in
theorem parts_any (o:KOp) (w:World):Calls Tryz.prog 88 #[.agg #[.int .i64 o.kind,.int .i64 o.d,.int .i64 o.e,.int .i64 o.a,.int .i64 o.b,.int .i64 o.c,.int .u64 o.imm]] w fun e w'=>e=.returned (.agg #[.int .i64 o.d,.int .i64 o.e,.int .i64 o.a,.int .i64 o.b,.int .i64 o.c])∧Below w.heap.size w w':=by
 go_enter Tryz.func88,Tryz.ntmps88
 go_wp2
 refine bodyPost_ret (results_cell_row (ty:=90) rfl _ _ (w.heap.size+1) 90 #[.int .i64 o.d,.int .i64 o.e,.int .i64 o.a,.int .i64 o.b,.int .i64 o.c] (0,0) _ rfl ?_ Tryz.underlying90 rfl (by kernel_rfl)) rfl ⟨rfl,?_⟩
 · have h:=heap_alloc_new (w.alloc (.cells #[.int .i64 o.kind,.int .i64 o.d,.int .i64 o.e,.int .i64 o.a,.int .i64 o.b,.int .i64 o.c,.int .u64 o.imm] 43)) (.cells #[.int .i64 o.d,.int .i64 o.e,.int .i64 o.a,.int .i64 o.b,.int .i64 o.c] 90)
   simpa using h
 · exact ((Below.refl _ _).alloc (Nat.le_refl _) _).alloc (by simp) _
theorem need1_any (v:Int) (A:Option Addr) (n c B:Nat) (w:World) (hB:w.cell? ⟨B,0,none⟩=some (.slice A n c)):Calls Tryz.prog 85 #[.int .i64 v,.pointer (some ⟨B,0,none⟩)] w fun e w'=>e=.returned (.bool (thereK n v))∧Below w.heap.size w w':=by
 cases d0:decide (0≤v)
 · have HV:=Lh (show thereK n v=false by unfold thereK;rw [d0];rfl)
   go_enter Tryz.func85,Tryz.ntmps85
   go_wp2
   go_ret
   exact ⟨ret_bool HV.out.symm,Below.refl _ _⟩
 · cases d1:decide (v < (n:Int))
   · have HV:=Lh (show thereK n v=false by unfold thereK;rw [d0,d1];rfl)
     go_enter Tryz.func85,Tryz.ntmps85
     go_wp2
     go_ret
     exact ⟨ret_bool HV.out.symm,Below.refl _ _⟩
   · have HV:=Lh (show thereK n v=true by unfold thereK;rw [d0,d1];rfl)
     go_enter Tryz.func85,Tryz.ntmps85
     go_wp2
     go_ret
     exact ⟨ret_bool HV.out.symm,Below.refl _ _⟩
structure OpBox (w:World) (g:Nat) (o:KOp):Prop where
 kind:w.cell? ⟨g,0,none⟩=some (.int .i64 o.kind)
 d:w.cell? ⟨g,1,none⟩=some (.int .i64 o.d)
 e:w.cell? ⟨g,2,none⟩=some (.int .i64 o.e)
 a:w.cell? ⟨g,3,none⟩=some (.int .i64 o.a)
 b:w.cell? ⟨g,4,none⟩=some (.int .i64 o.b)
 c:w.cell? ⟨g,5,none⟩=some (.int .i64 o.c)
 imm:w.cell? ⟨g,6,none⟩=some (.int .u64 o.imm)
theorem OpBox.of {w:World} {g:Nat} {o:KOp} {t:TypeId} {fr:Nat×Nat} (h:w.heap[g]? = some (.cells #[.int .i64 o.kind,.int .i64 o.d,.int .i64 o.e,.int .i64 o.a,.int .i64 o.b,.int .i64 o.c,.int .u64 o.imm] t fr)):OpBox w g o:=by
 refine ⟨?_,?_,?_,?_,?_,?_,?_⟩ <;> simp [World.cell?,h]
theorem OpBox.next {w w':World} {g:Nat} {o:KOp} (h:OpBox w g o) (hb:Below w.heap.size w w') (hl:g < w.heap.size):OpBox w' g o :=
 ⟨(hb.cell (p:=⟨g,0,none⟩) hl).trans h.kind,(hb.cell (p:=⟨g,1,none⟩) hl).trans h.d,(hb.cell (p:=⟨g,2,none⟩) hl).trans h.e,(hb.cell (p:=⟨g,3,none⟩) hl).trans h.a,(hb.cell (p:=⟨g,4,none⟩) hl).trans h.b,(hb.cell (p:=⟨g,5,none⟩) hl).trans h.c,(hb.cell (p:=⟨g,6,none⟩) hl).trans h.imm⟩
theorem cell_new (w:World) (row:Array Value) (t:TypeId) {k:Nat} {v:Value} (h:row[k]? = some v):(w.alloc (.cells row t)).cell? ⟨w.heap.size,k,none⟩=some v:=by
 have h1:=heap_alloc_new w (.cells row t)
 simp only [World.cell?,h1]
 exact h
theorem ne_of {x:Int} {b:Bool} (h:(x == -1)=b):(x != -1)=!b:=by rw [bne,h]
set_option maxHeartbeats 4000000 in
theorem need_any (A:Option Addr) (n c:Nat) (o:KOp) (w:World):Calls Tryz.prog 61 #[.slice A n c,.agg #[.int .i64 o.kind,.int .i64 o.d,.int .i64 o.e,.int .i64 o.a,.int .i64 o.b,.int .i64 o.c,.int .u64 o.imm]] w fun e w'=>e=.returned (.bool (needK n o))∧Below w.heap.size w w':=by
 cases q1:(o.d == -1)
 · have HX:=Lh (show needK n o=false by unfold needK;rw [q1];rfl)
   have n1:=ne_of q1
   clear q1
   go_enter Tryz.func61,Tryz.ntmps61
   go_upto_region 1 with (first | go_in)
   obtain ⟨W,hW⟩:∃ W,W=(w.alloc (.cells #[.slice A n c] 22)).alloc (.cells #[.int .i64 o.kind,.int .i64 o.d,.int .i64 o.e,.int .i64 o.a,.int .i64 o.b,.int .i64 o.c,.int .u64 o.imm] 43):=⟨_,rfl⟩
   have hb:Below w.heap.size w W:=by rw [hW];exact ((Below.refl _ _).alloc (Nat.le_refl _) _).alloc (by simp) _
   have hk:OpBox W (w.heap.size+1) o:=OpBox.of (t:=43) (fr:=(0,0)) (by
     rw [hW]
     have h:=heap_alloc_new (w.alloc (.cells #[.slice A n c] 22)) (.cells #[.int .i64 o.kind,.int .i64 o.d,.int .i64 o.e,.int .i64 o.a,.int .i64 o.b,.int .i64 o.c,.int .u64 o.imm] 43)
     simpa using h)
   have hv:W.cell? ⟨w.heap.size,0,none⟩=some (.slice A n c):=by
     rw [hW]
     exact (((Below.refl (w.heap.size+1) _).alloc (by simp) _).cell (p:=⟨w.heap.size,0,none⟩) (show w.heap.size < w.heap.size+1 by omega)).trans (cell_new w _ _ rfl)
   have hz:W.heap.size=w.heap.size+2:=by rw [hW];simp
   rw [←hW]
   clear hW
   have HB:=Lh hb
   have HK:=Lh hk
   have HV:=Lh hv
   have HZ:=Lh hz
   have c1:=hk.d
   have c2:=hk.e
   have c3:=hk.a
   have c5:=hk.c
   have HA:=Lh (fun (v:Int) (W':World) (h:Below W.heap.size W W')=>need1_any v A n c w.heap.size W' ((h.cell (p:=⟨w.heap.size,0,none⟩) (show w.heap.size < W.heap.size by omega)).trans hv))
   clear hb hk hv hz
   go_wp2
   go_ret
   exact ⟨ret_bool HX.out.symm,HB.out⟩
 have n1:=ne_of q1
 cases q2:(o.e == -1)
 · have HX:=Lh (show needK n o=false by unfold needK;rw [q1,q2];rfl)
   have n2:=ne_of q2
   clear q1 q2
   go_enter Tryz.func61,Tryz.ntmps61
   go_upto_region 1 with (first | go_in)
   obtain ⟨W,hW⟩:∃ W,W=(w.alloc (.cells #[.slice A n c] 22)).alloc (.cells #[.int .i64 o.kind,.int .i64 o.d,.int .i64 o.e,.int .i64 o.a,.int .i64 o.b,.int .i64 o.c,.int .u64 o.imm] 43):=⟨_,rfl⟩
   have hb:Below w.heap.size w W:=by rw [hW];exact ((Below.refl _ _).alloc (Nat.le_refl _) _).alloc (by simp) _
   have hk:OpBox W (w.heap.size+1) o:=OpBox.of (t:=43) (fr:=(0,0)) (by
     rw [hW]
     have h:=heap_alloc_new (w.alloc (.cells #[.slice A n c] 22)) (.cells #[.int .i64 o.kind,.int .i64 o.d,.int .i64 o.e,.int .i64 o.a,.int .i64 o.b,.int .i64 o.c,.int .u64 o.imm] 43)
     simpa using h)
   have hv:W.cell? ⟨w.heap.size,0,none⟩=some (.slice A n c):=by
     rw [hW]
     exact (((Below.refl (w.heap.size+1) _).alloc (by simp) _).cell (p:=⟨w.heap.size,0,none⟩) (show w.heap.size < w.heap.size+1 by omega)).trans (cell_new w _ _ rfl)
   have hz:W.heap.size=w.heap.size+2:=by rw [hW];simp
   rw [←hW]
   clear hW
   have HB:=Lh hb
   have HK:=Lh hk
   have HV:=Lh hv
   have HZ:=Lh hz
   have c1:=hk.d
   have c2:=hk.e
   have c3:=hk.a
   have c5:=hk.c
   have HA:=Lh (fun (v:Int) (W':World) (h:Below W.heap.size W W')=>need1_any v A n c w.heap.size W' ((h.cell (p:=⟨w.heap.size,0,none⟩) (show w.heap.size < W.heap.size by omega)).trans hv))
   clear hb hk hv hz
   go_wp2
   go_ret
   exact ⟨ret_bool HX.out.symm,HB.out⟩
 have n2:=ne_of q2
 cases q3:(o.c == -1)
 · have HX:=Lh (show needK n o=false by unfold needK;rw [q1,q2,q3];rfl)
   have n3:=ne_of q3
   clear q1 q2 q3
   go_enter Tryz.func61,Tryz.ntmps61
   go_upto_region 1 with (first | go_in)
   obtain ⟨W,hW⟩:∃ W,W=(w.alloc (.cells #[.slice A n c] 22)).alloc (.cells #[.int .i64 o.kind,.int .i64 o.d,.int .i64 o.e,.int .i64 o.a,.int .i64 o.b,.int .i64 o.c,.int .u64 o.imm] 43):=⟨_,rfl⟩
   have hb:Below w.heap.size w W:=by rw [hW];exact ((Below.refl _ _).alloc (Nat.le_refl _) _).alloc (by simp) _
   have hk:OpBox W (w.heap.size+1) o:=OpBox.of (t:=43) (fr:=(0,0)) (by
     rw [hW]
     have h:=heap_alloc_new (w.alloc (.cells #[.slice A n c] 22)) (.cells #[.int .i64 o.kind,.int .i64 o.d,.int .i64 o.e,.int .i64 o.a,.int .i64 o.b,.int .i64 o.c,.int .u64 o.imm] 43)
     simpa using h)
   have hv:W.cell? ⟨w.heap.size,0,none⟩=some (.slice A n c):=by
     rw [hW]
     exact (((Below.refl (w.heap.size+1) _).alloc (by simp) _).cell (p:=⟨w.heap.size,0,none⟩) (show w.heap.size < w.heap.size+1 by omega)).trans (cell_new w _ _ rfl)
   have hz:W.heap.size=w.heap.size+2:=by rw [hW];simp
   rw [←hW]
   clear hW
   have HB:=Lh hb
   have HK:=Lh hk
   have HV:=Lh hv
   have HZ:=Lh hz
   have c1:=hk.d
   have c2:=hk.e
   have c3:=hk.a
   have c5:=hk.c
   have HA:=Lh (fun (v:Int) (W':World) (h:Below W.heap.size W W')=>need1_any v A n c w.heap.size W' ((h.cell (p:=⟨w.heap.size,0,none⟩) (show w.heap.size < W.heap.size by omega)).trans hv))
   clear hb hk hv hz
   go_wp2
   go_ret
   exact ⟨ret_bool HX.out.symm,HB.out⟩
 have n3:=ne_of q3
 cases qa:thereK n o.a
 · have HX:=Lh (show needK n o=false by unfold needK;rw [q1,q2,q3,qa];rfl)
   clear q1 q2 q3
   go_enter Tryz.func61,Tryz.ntmps61
   go_upto_region 1 with (first | go_in)
   obtain ⟨W,hW⟩:∃ W,W=(w.alloc (.cells #[.slice A n c] 22)).alloc (.cells #[.int .i64 o.kind,.int .i64 o.d,.int .i64 o.e,.int .i64 o.a,.int .i64 o.b,.int .i64 o.c,.int .u64 o.imm] 43):=⟨_,rfl⟩
   have hb:Below w.heap.size w W:=by rw [hW];exact ((Below.refl _ _).alloc (Nat.le_refl _) _).alloc (by simp) _
   have hk:OpBox W (w.heap.size+1) o:=OpBox.of (t:=43) (fr:=(0,0)) (by
     rw [hW]
     have h:=heap_alloc_new (w.alloc (.cells #[.slice A n c] 22)) (.cells #[.int .i64 o.kind,.int .i64 o.d,.int .i64 o.e,.int .i64 o.a,.int .i64 o.b,.int .i64 o.c,.int .u64 o.imm] 43)
     simpa using h)
   have hv:W.cell? ⟨w.heap.size,0,none⟩=some (.slice A n c):=by
     rw [hW]
     exact (((Below.refl (w.heap.size+1) _).alloc (by simp) _).cell (p:=⟨w.heap.size,0,none⟩) (show w.heap.size < w.heap.size+1 by omega)).trans (cell_new w _ _ rfl)
   have hz:W.heap.size=w.heap.size+2:=by rw [hW];simp
   rw [←hW]
   clear hW
   have HB:=Lh hb
   have HK:=Lh hk
   have HV:=Lh hv
   have HZ:=Lh hz
   have c1:=hk.d
   have c2:=hk.e
   have c3:=hk.a
   have c5:=hk.c
   have HA:=Lh (fun (v:Int) (W':World) (h:Below W.heap.size W W')=>need1_any v A n c w.heap.size W' ((h.cell (p:=⟨w.heap.size,0,none⟩) (show w.heap.size < W.heap.size by omega)).trans hv))
   clear hb hk hv hz
   go_wp2_with (first | ((with_reducible refine (HA.out _ _ (Below.refl _ _)).mono ?_);rintro e w1 ⟨rfl,hb1⟩;rw [qa];have HB1:=Lh hb1;clear hb1) | go_in)
   go_ret
   exact ⟨ret_bool HX.out.symm,HB.out.trans (HB1.out.mono HB.out.size)⟩
 cases m2:(o.imm == 2)
 rotate_left
 · have hm:o.imm=2:=by simpa using m2
   have HX:=Lh (show needK n o=thereK n o.b by unfold needK;rw [q1,q2,q3,qa,if_pos hm];rfl)
   have HM:=Lh hm
   clear hm
   clear q1 q2 q3 m2
   go_enter Tryz.func61,Tryz.ntmps61
   go_upto_region 1 with (first | go_in)
   obtain ⟨W,hW⟩:∃ W,W=(w.alloc (.cells #[.slice A n c] 22)).alloc (.cells #[.int .i64 o.kind,.int .i64 o.d,.int .i64 o.e,.int .i64 o.a,.int .i64 o.b,.int .i64 o.c,.int .u64 o.imm] 43):=⟨_,rfl⟩
   have hb:Below w.heap.size w W:=by rw [hW];exact ((Below.refl _ _).alloc (Nat.le_refl _) _).alloc (by simp) _
   have hk:OpBox W (w.heap.size+1) o:=OpBox.of (t:=43) (fr:=(0,0)) (by
     rw [hW]
     have h:=heap_alloc_new (w.alloc (.cells #[.slice A n c] 22)) (.cells #[.int .i64 o.kind,.int .i64 o.d,.int .i64 o.e,.int .i64 o.a,.int .i64 o.b,.int .i64 o.c,.int .u64 o.imm] 43)
     simpa using h)
   have hv:W.cell? ⟨w.heap.size,0,none⟩=some (.slice A n c):=by
     rw [hW]
     exact (((Below.refl (w.heap.size+1) _).alloc (by simp) _).cell (p:=⟨w.heap.size,0,none⟩) (show w.heap.size < w.heap.size+1 by omega)).trans (cell_new w _ _ rfl)
   have hz:W.heap.size=w.heap.size+2:=by rw [hW];simp
   rw [←hW]
   clear hW
   have HB:=Lh hb
   have HK:=Lh hk
   have HV:=Lh hv
   have HZ:=Lh hz
   have c1:=hk.d
   have c2:=hk.e
   have c3:=hk.a
   have c5:=hk.c
   have HA:=Lh (fun (v:Int) (W':World) (h:Below W.heap.size W W')=>need1_any v A n c w.heap.size W' ((h.cell (p:=⟨w.heap.size,0,none⟩) (show w.heap.size < W.heap.size by omega)).trans hv))
   clear hb hk hv hz
   have c4:=HK.out.b
   have c6:=HK.out.imm
   rw [HM.out] at c6
   go_wp2_with (first | ((with_reducible refine (HA.out o.a _ (Below.refl _ _)).mono ?_);rintro e w1 ⟨rfl,hb1⟩;rw [qa];have c4:=(HK.out.next hb1 (by have:=HZ.out;omega)).b;have c6:=(HK.out.next hb1 (by have:=HZ.out;omega)).imm;(try rw [HM.out] at c6);have HB1:=Lh hb1;clear hb1) | ((with_reducible refine (HA.out o.b _ HB1.out).mono ?_);rintro e w2 ⟨rfl,hb2⟩) | go_in)
   go_ret
   exact ⟨ret_bool HX.out.symm,(HB.out.trans (HB1.out.mono HB.out.size)).trans (hb2.mono (Nat.le_trans HB.out.size HB1.out.size))⟩
 have hm2:o.imm≠2:=by simpa using m2
 cases m1:(o.imm == 1)
 rotate_left
 · have hm:o.imm=1:=by simpa using m1
   have HX:=Lh (show needK n o=(o.b == -1) by unfold needK;rw [q1,q2,q3,qa,if_neg hm2,if_pos (.inl hm)];rfl)
   have HM:=Lh hm
   clear hm
   clear q1 q2 q3 m2 m1 hm2
   go_enter Tryz.func61,Tryz.ntmps61
   go_upto_region 1 with (first | go_in)
   obtain ⟨W,hW⟩:∃ W,W=(w.alloc (.cells #[.slice A n c] 22)).alloc (.cells #[.int .i64 o.kind,.int .i64 o.d,.int .i64 o.e,.int .i64 o.a,.int .i64 o.b,.int .i64 o.c,.int .u64 o.imm] 43):=⟨_,rfl⟩
   have hb:Below w.heap.size w W:=by rw [hW];exact ((Below.refl _ _).alloc (Nat.le_refl _) _).alloc (by simp) _
   have hk:OpBox W (w.heap.size+1) o:=OpBox.of (t:=43) (fr:=(0,0)) (by
     rw [hW]
     have h:=heap_alloc_new (w.alloc (.cells #[.slice A n c] 22)) (.cells #[.int .i64 o.kind,.int .i64 o.d,.int .i64 o.e,.int .i64 o.a,.int .i64 o.b,.int .i64 o.c,.int .u64 o.imm] 43)
     simpa using h)
   have hv:W.cell? ⟨w.heap.size,0,none⟩=some (.slice A n c):=by
     rw [hW]
     exact (((Below.refl (w.heap.size+1) _).alloc (by simp) _).cell (p:=⟨w.heap.size,0,none⟩) (show w.heap.size < w.heap.size+1 by omega)).trans (cell_new w _ _ rfl)
   have hz:W.heap.size=w.heap.size+2:=by rw [hW];simp
   rw [←hW]
   clear hW
   have HB:=Lh hb
   have HK:=Lh hk
   have HV:=Lh hv
   have HZ:=Lh hz
   have c1:=hk.d
   have c2:=hk.e
   have c3:=hk.a
   have c5:=hk.c
   have HA:=Lh (fun (v:Int) (W':World) (h:Below W.heap.size W W')=>need1_any v A n c w.heap.size W' ((h.cell (p:=⟨w.heap.size,0,none⟩) (show w.heap.size < W.heap.size by omega)).trans hv))
   clear hb hk hv hz
   have c4:=HK.out.b
   have c6:=HK.out.imm
   rw [HM.out] at c6
   go_wp2_with (first | ((with_reducible refine (HA.out o.a _ (Below.refl _ _)).mono ?_);rintro e w1 ⟨rfl,hb1⟩;rw [qa];have c4:=(HK.out.next hb1 (by have:=HZ.out;omega)).b;have c6:=(HK.out.next hb1 (by have:=HZ.out;omega)).imm;(try rw [HM.out] at c6);have HB1:=Lh hb1;clear hb1) | ((with_reducible refine (HA.out o.b _ HB1.out).mono ?_);rintro e w2 ⟨rfl,hb2⟩) | go_in)
   go_ret
   exact ⟨ret_bool HX.out.symm,HB.out.trans (HB1.out.mono HB.out.size)⟩
 have hm1:o.imm≠1:=by simpa using m1
 cases m3:(o.imm == 3)
 rotate_left
 · have hm:o.imm=3:=by simpa using m3
   have HX:=Lh (show needK n o=(o.b == -1) by unfold needK;rw [q1,q2,q3,qa,if_neg hm2,if_pos (.inr hm)];rfl)
   have HM:=Lh hm
   clear hm
   clear q1 q2 q3 m2 m1 m3 hm2 hm1
   go_enter Tryz.func61,Tryz.ntmps61
   go_upto_region 1 with (first | go_in)
   obtain ⟨W,hW⟩:∃ W,W=(w.alloc (.cells #[.slice A n c] 22)).alloc (.cells #[.int .i64 o.kind,.int .i64 o.d,.int .i64 o.e,.int .i64 o.a,.int .i64 o.b,.int .i64 o.c,.int .u64 o.imm] 43):=⟨_,rfl⟩
   have hb:Below w.heap.size w W:=by rw [hW];exact ((Below.refl _ _).alloc (Nat.le_refl _) _).alloc (by simp) _
   have hk:OpBox W (w.heap.size+1) o:=OpBox.of (t:=43) (fr:=(0,0)) (by
     rw [hW]
     have h:=heap_alloc_new (w.alloc (.cells #[.slice A n c] 22)) (.cells #[.int .i64 o.kind,.int .i64 o.d,.int .i64 o.e,.int .i64 o.a,.int .i64 o.b,.int .i64 o.c,.int .u64 o.imm] 43)
     simpa using h)
   have hv:W.cell? ⟨w.heap.size,0,none⟩=some (.slice A n c):=by
     rw [hW]
     exact (((Below.refl (w.heap.size+1) _).alloc (by simp) _).cell (p:=⟨w.heap.size,0,none⟩) (show w.heap.size < w.heap.size+1 by omega)).trans (cell_new w _ _ rfl)
   have hz:W.heap.size=w.heap.size+2:=by rw [hW];simp
   rw [←hW]
   clear hW
   have HB:=Lh hb
   have HK:=Lh hk
   have HV:=Lh hv
   have HZ:=Lh hz
   have c1:=hk.d
   have c2:=hk.e
   have c3:=hk.a
   have c5:=hk.c
   have HA:=Lh (fun (v:Int) (W':World) (h:Below W.heap.size W W')=>need1_any v A n c w.heap.size W' ((h.cell (p:=⟨w.heap.size,0,none⟩) (show w.heap.size < W.heap.size by omega)).trans hv))
   clear hb hk hv hz
   have c4:=HK.out.b
   have c6:=HK.out.imm
   rw [HM.out] at c6
   go_wp2_with (first | ((with_reducible refine (HA.out o.a _ (Below.refl _ _)).mono ?_);rintro e w1 ⟨rfl,hb1⟩;rw [qa];have c4:=(HK.out.next hb1 (by have:=HZ.out;omega)).b;have c6:=(HK.out.next hb1 (by have:=HZ.out;omega)).imm;(try rw [HM.out] at c6);have HB1:=Lh hb1;clear hb1) | ((with_reducible refine (HA.out o.b _ HB1.out).mono ?_);rintro e w2 ⟨rfl,hb2⟩) | go_in)
   go_ret
   exact ⟨ret_bool HX.out.symm,HB.out.trans (HB1.out.mono HB.out.size)⟩
 have hm3:o.imm≠3:=by simpa using m3
 have HX:=Lh (show needK n o=false by unfold needK;rw [q1,q2,q3,qa,if_neg hm2,if_neg (by omega)];rfl)
 have x2:(((o.imm:Nat):Int) == 2)=false:=beq_eq_false_iff_ne.2 (by omega)
 have x1:(((o.imm:Nat):Int) == 1)=false:=beq_eq_false_iff_ne.2 (by omega)
 have x3:(((o.imm:Nat):Int) == 3)=false:=beq_eq_false_iff_ne.2 (by omega)
 clear q1 q2 q3 m1 m2 m3 hm1 hm2 hm3
 go_enter Tryz.func61,Tryz.ntmps61
 go_upto_region 1 with (first | go_in)
 obtain ⟨W,hW⟩:∃ W,W=(w.alloc (.cells #[.slice A n c] 22)).alloc (.cells #[.int .i64 o.kind,.int .i64 o.d,.int .i64 o.e,.int .i64 o.a,.int .i64 o.b,.int .i64 o.c,.int .u64 o.imm] 43):=⟨_,rfl⟩
 have hb:Below w.heap.size w W:=by rw [hW];exact ((Below.refl _ _).alloc (Nat.le_refl _) _).alloc (by simp) _
 have hk:OpBox W (w.heap.size+1) o:=OpBox.of (t:=43) (fr:=(0,0)) (by
   rw [hW]
   have h:=heap_alloc_new (w.alloc (.cells #[.slice A n c] 22)) (.cells #[.int .i64 o.kind,.int .i64 o.d,.int .i64 o.e,.int .i64 o.a,.int .i64 o.b,.int .i64 o.c,.int .u64 o.imm] 43)
   simpa using h)
 have hv:W.cell? ⟨w.heap.size,0,none⟩=some (.slice A n c):=by
   rw [hW]
   exact (((Below.refl (w.heap.size+1) _).alloc (by simp) _).cell (p:=⟨w.heap.size,0,none⟩) (show w.heap.size < w.heap.size+1 by omega)).trans (cell_new w _ _ rfl)
 have hz:W.heap.size=w.heap.size+2:=by rw [hW];simp
 rw [←hW]
 clear hW
 have HB:=Lh hb
 have HK:=Lh hk
 have HV:=Lh hv
 have HZ:=Lh hz
 have c1:=hk.d
 have c2:=hk.e
 have c3:=hk.a
 have c5:=hk.c
 have HA:=Lh (fun (v:Int) (W':World) (h:Below W.heap.size W W')=>need1_any v A n c w.heap.size W' ((h.cell (p:=⟨w.heap.size,0,none⟩) (show w.heap.size < W.heap.size by omega)).trans hv))
 clear hb hk hv hz
 have c4:=HK.out.b
 have c6:=HK.out.imm
 go_wp2_with (first | ((with_reducible refine (HA.out o.a _ (Below.refl _ _)).mono ?_);rintro e w1 ⟨rfl,hb1⟩;rw [qa];have c4:=(HK.out.next hb1 (by have:=HZ.out;omega)).b;have c6:=(HK.out.next hb1 (by have:=HZ.out;omega)).imm;(try rw [HM.out] at c6);have HB1:=Lh hb1;clear hb1) | ((with_reducible refine (HA.out o.b _ HB1.out).mono ?_);rintro e w2 ⟨rfl,hb2⟩) | go_in)
 go_ret
 exact ⟨ret_bool HX.out.symm,HB.out.trans (HB1.out.mono HB.out.size)⟩
end Go.Proofs.YtjbabpnepjhllaaGreat
namespace Go.Proofs.YtjbabpnepjhllaaGreat
open Go.RowKit
set_option maxRecDepth 100000
theorem SortedSays.to {w W:World} {l:List Fct} {e:Ending} {w':World} (h:SortedSays W.heap.size l W e w') (hb:Below w.heap.size w W):SortedSays w.heap.size l w e w':=by
 obtain ⟨v,he,ho,hb2⟩:=h
 exact ⟨v,he,ownsRow_base ho hb.size,hb.trans (hb2.mono hb.size)⟩
structure NewsAt (W:World) (bk bo:Nat) (Av:Option Addr) (nv cv:Nat) (vo vr vl:Value) (vs:List KVar) (o:KOp) (l:List Fct):Prop where
 c0:W.cell? ⟨bk,0,none⟩=some (.slice Av nv cv)
 c1:W.cell? ⟨bk,1,none⟩=some vo
 c2:W.cell? ⟨bk,2,none⟩=some vr
 op:OpBox W bo o
 lk:bk < W.heap.size
 lo:bo < W.heap.size
 vars:KVarsAt W (fun k=>k < W.heap.size) (.slice Av nv cv) vs
 facts:FactsAt W (fun k=>k < W.heap.size) vl l
theorem NewsAt.next {W w':World} {bk bo:Nat} {Av:Option Addr} {nv cv:Nat} {vo vr vl:Value} {vs:List KVar} {o:KOp} {l:List Fct} (h:NewsAt W bk bo Av nv cv vo vr vl vs o l) (hb:Below W.heap.size W w'):NewsAt w' bk bo Av nv cv vo vr vl vs o l :=
 ⟨(hb.cell (p:=⟨bk,0,none⟩) h.lk).trans h.c0,(hb.cell (p:=⟨bk,1,none⟩) h.lk).trans h.c1,(hb.cell (p:=⟨bk,2,none⟩) h.lk).trans h.c2,h.op.next hb h.lo,Nat.lt_of_lt_of_le h.lk hb.size,Nat.lt_of_lt_of_le h.lo hb.size,rows_next h.vars hb,rows_next h.facts hb⟩
theorem news_start (w:World) (F:Nat→Prop) (Av:Option Addr) (nv cv:Nat) (vo vr vl:Value) (vs:List KVar) (o:KOp) (l:List Fct) (hv:KVarsAt w F (.slice Av nv cv) vs) (hf:FactsAt w F vl l) (hF:∀ k,F k→k < w.heap.size) :
   NewsAt ((w.alloc (.cells #[.slice Av nv cv,vo,vr] 25)).alloc (.cells (kopRow o).toArray 43)) w.heap.size (w.heap.size+1) Av nv cv vo vr vl vs o l∧Below w.heap.size w ((w.alloc (.cells #[.slice Av nv cv,vo,vr] 25)).alloc (.cells (kopRow o).toArray 43)):=by
 have hb1:Below w.heap.size w (w.alloc (.cells #[.slice Av nv cv,vo,vr] 25)):=(Below.refl _ _).alloc (Nat.le_refl _) _
 have hb2:Below (w.alloc (.cells #[.slice Av nv cv,vo,vr] 25)).heap.size (w.alloc (.cells #[.slice Av nv cv,vo,vr] 25)) ((w.alloc (.cells #[.slice Av nv cv,vo,vr] 25)).alloc (.cells (kopRow o).toArray 43)):=(Below.refl _ _).alloc (Nat.le_refl _) _
 have hz:(w.alloc (.cells #[.slice Av nv cv,vo,vr] 25)).heap.size=w.heap.size+1:=by simp
 have hz2:((w.alloc (.cells #[.slice Av nv cv,vo,vr] 25)).alloc (.cells (kopRow o).toArray 43)).heap.size=w.heap.size+2:=by simp
 have hn:((w.alloc (.cells #[.slice Av nv cv,vo,vr] 25)).alloc (.cells (kopRow o).toArray 43)).heap[w.heap.size+1]? = some (.cells (kopRow o).toArray 43 (0,0)):=by
   have h:=heap_alloc_new (w.alloc (.cells #[.slice Av nv cv,vo,vr] 25)) (.cells (kopRow o).toArray 43)
   rw [hz] at h
   exact h
 have hc:∀ (j:Nat) (v:Value),#[Value.slice Av nv cv,vo,vr][j]? = some v→((w.alloc (.cells #[.slice Av nv cv,vo,vr] 25)).alloc (.cells (kopRow o).toArray 43)).cell? ⟨w.heap.size,j,none⟩=some v:=fun j v h=>(hb2.cell (p:=⟨w.heap.size,j,none⟩) (show w.heap.size < _ by omega)).trans (cell_new w _ _ h)
 have hb:=hb1.trans (hb2.mono hb1.size)
 have hsame:SameOn F w ((w.alloc (.cells #[.slice Av nv cv,vo,vr] 25)).alloc (.cells (kopRow o).toArray 43)):=SameOn.of_below hb hF
 refine ⟨⟨hc 0 _ rfl,hc 1 _ rfl,hc 2 _ rfl,OpBox.of (t:=43) (fr:=(0,0)) hn,by omega,by omega,Rows.mono (Rows.keep hv hsame) fun k hk=>by have:=hF k hk;omega,Rows.mono (Rows.keep hf hsame) fun k hk=>by have:=hF k hk;omega⟩,hb⟩
set_option maxHeartbeats 4000000 in
theorem news_any (w:World) (F:Nat→Prop) (Av Al:Option Addr) (nv cv nl cl:Nat) (vo vr:Value) (vs:List KVar) (o:KOp) (l:List Fct) (hv:KVarsAt w F (.slice Av nv cv) vs) (hf:FactsAt w F (.slice Al nl cl) l) (hF:∀ k,F k→k < w.heap.size)
   (hp:PartsK vs.length o) (hn:l.length≤100000) (hvn:vs.length≤256) :
   Calls Tryz.prog 76 #[.agg #[.slice Av nv cv,vo,vr],.agg #[.int .i64 o.kind,.int .i64 o.d,.int .i64 o.e,.int .i64 o.a,.int .i64 o.b,.int .i64 o.c,.int .u64 o.imm],.slice Al nl cl] w (SortedSays w.heap.size (newsF vs o l) w):=by
 obtain ⟨W,hW⟩:∃ W,W=(w.alloc (.cells #[.slice Av nv cv,vo,vr] 25)).alloc (.cells #[.int .i64 o.kind,.int .i64 o.d,.int .i64 o.e,.int .i64 o.a,.int .i64 o.b,.int .i64 o.c,.int .u64 o.imm] 43):=⟨_,rfl⟩
 obtain ⟨h,hb⟩:=news_start w F Av nv cv vo vr (.slice Al nl cl) vs o l hv hf hF
 rw [show (w.alloc (.cells #[.slice Av nv cv,vo,vr] 25)).alloc (.cells (kopRow o).toArray 43)=W from hW.symm] at h hb
 have hz:W.heap.size=w.heap.size+2:=by rw [hW];simp
 have hnl:=(rows_len hf).1
 have hnv:=(rows_len hv).1
 have HW:=Lh hW
 have H:=Lh h
 have HB:=Lh hb
 have HZ:=Lh hz
 have HNL:=Lh hnl
 have HNV:=Lh hnv
 clear hW h hb hz hv hf hF hnl hnv
 obtain ⟨i0,hi,hz0,hz1,hz2⟩:=info_parts infoFact
 obtain ⟨k,hk⟩:∃ k,o.kind=k:=⟨_,rfl⟩
 have HP:=Lh hp
 have hk17:=hp.kind
 rw [hk] at hk17
 have HN:=Lh (show newsF vs o l=(if k=1 then (if o.imm % 2=1 then [aloneF 1 o.d] else [])++(if 0 < o.imm then [aloneF 3 o.d] else [])
   else if k=2 then (if limbsF vs o.a≤limbsF vs o.d then copyF l o.a o.d else [])
   else if k=9∨k=10∨k=11∨k=12∨k=13 then (if o.d≠o.c then [lessF o.d o.c] else [])
   else if k=8 then bothF vs.length l o.a o.b o.d o.d [o.d]
   else if k=14 then bothF vs.length l o.d o.e o.d o.e [o.d,o.e]
   else if k=17 then needsF o else []) by unfold newsF;rw [hk])
 have HK:=Lh hk
 clear hk
 have HA:=Lh alone_any
 have HL:=Lh less_any
 clear hp
 by_cases k1:k=1
 · subst k1
   have hN:=HN.out
   rw [if_pos rfl] at hN
   clear HN hk17
   have HNN:=Lh hN
   clear hN
   by_cases hod:o.imm % 2=1
   · have HS:=Lh (show newsF vs o l=[aloneF 1 o.d]++[aloneF 3 o.d] by rw [HNN.out,if_pos hod,if_pos (by omega)])
     have x1:((o.imm:Int) % 2 == 1)=true:=by rw [beq_iff_eq];omega
     have x2:decide (0 < o.imm)=true:=decide_eq_true (by omega)
     clear hod HNN
     go_enter Tryz.func76,Tryz.ntmps76
     go_upto_region 1 with (first | go_in)
     rw [←HW.out]
     clear HW
     have c0:=H.out.op.kind
     rw [HK.out] at c0
     have c1:=H.out.op.d
     have c6:=H.out.op.imm
     go_upto_region 5 with (first
       | ((with_reducible refine (HA.out _ _ _).mono ?_);rintro e w1 ⟨rfl,hb1⟩;have HB1:=Lh (HB.out.trans (hb1.mono HB.out.size));have c1:=(H.out.next hb1).op.d;have c6:=(H.out.next hb1).op.imm;have HH1:=Lh (H.out.next hb1);clear hb1)
       | (at_builtin;refine wpList_append_own_at _ rfl _ _ 39 rfl w.heap.size 45 i0 (.agg #[.int .i64 0,.int .i64 0,.int .i64 0]) 3 24 Tryz.underlying39 hi hz0 hz1 hz2 rfl (by decide) (.slice none 0 0) 0 (cellsOfF []) rfl (World.ownsRow_nil _ _ _ _) ⟨w1.heap.size,0,none⟩ 1 1 [Value.int .i64 1,.int .i64 o.d,.int .i64 (-1)] rfl (by rfl) (cells_new_at w1 #[Value.int .i64 1,.int .i64 o.d,.int .i64 (-1)] 45) (by simp [Value.oneCell']) (by unfold maxLen;omega) (by omega) (by have:=HB1.out.size;simp;omega) ?_;intro v' w6 ho6 hg6 _ hw6
          have HO6:=Lh ho6
          obtain ⟨A6,c6',rfl⟩:=own_form ho6
          have hb6:Below w1.heap.size w1 w6:=(((Below.refl w1.heap.size w1).alloc (Nat.le_refl _) _).grown hg6 (by simp) (fun j e=>by cases e))
          have HB6:=Lh (HB1.out.trans (hb6.mono HB1.out.size))
          have c1:=(HH1.out.next hb6).op.d
          have c6:=(HH1.out.next hb6).op.imm
          clear ho6 hg6 hw6 hb6)
       | go_in)
     go_wp2_with (first
       | ((with_reducible refine (HA.out _ _ _).mono ?_);rintro e w7 ⟨rfl,hb7⟩;have HB7:=Lh (HB6.out.trans (hb7.mono HB6.out.size));have HO7:=Lh (HO6.out.kept (grownBy_of_below hb7) (by cases hh:(Value.slice A6 (0+1) c6').ownBlock <;> simp));clear hb7)
       | (at_builtin;refine wpList_append_own_at _ rfl _ _ 39 rfl w.heap.size 45 i0 (.agg #[.int .i64 0,.int .i64 0,.int .i64 0]) 3 24 Tryz.underlying39 hi hz0 hz1 hz2 rfl (by decide) (.slice A6 1 c6') 1 _ rfl (HO7.out.alloc _) ⟨w7.heap.size,0,none⟩ 1 1 [Value.int .i64 3,.int .i64 o.d,.int .i64 (-1)] rfl (by rfl) (cells_new_at w7 #[Value.int .i64 3,.int .i64 o.d,.int .i64 (-1)] 45) (by simp [Value.oneCell']) (by unfold maxLen;omega) (by omega) (by have:=HB7.out.size;simp;omega) ?_;intro v' w8 ho8 hg8 _ hw8
          have HO8:=Lh ho8
          have HG8:=Lh hg8
          have HLT:=Lh (show ∀ g,(Value.slice A6 1 c6').ownBlock=some g→g < w7.heap.size∧w.heap.size≤g from own_lt HO7.out)
          clear ho8 hg8 hw8)
       | go_in)
     go_ret
     rw [HS.out]
     exact ⟨_,rfl,HO8.out,(HB7.out.alloc HB7.out.size _).grown HG8.out (by have:=HB7.out.size;simp;omega) (fun j e=>(HLT.out j e).2)⟩
   by_cases h0:0 < o.imm
   · have HS:=Lh (show newsF vs o l=[aloneF 3 o.d] by rw [HNN.out,if_neg hod,if_pos h0];rfl)
     have x1:((o.imm:Int) % 2 == 1)=false:=beq_eq_false_iff_ne.2 (by omega)
     have x2:decide (0 < o.imm)=true:=decide_eq_true (by omega)
     clear hod HNN h0
     go_enter Tryz.func76,Tryz.ntmps76
     go_upto_region 1 with (first | go_in)
     rw [←HW.out]
     clear HW
     have c0:=H.out.op.kind
     rw [HK.out] at c0
     have c1:=H.out.op.d
     have c6:=H.out.op.imm
     go_wp2_with (first
       | ((with_reducible refine (HA.out _ _ _).mono ?_);rintro e w1 ⟨rfl,hb1⟩;have HB1:=Lh (HB.out.trans (hb1.mono HB.out.size));clear hb1)
       | (at_builtin;refine wpList_append_own_at _ rfl _ _ 39 rfl w.heap.size 45 i0 (.agg #[.int .i64 0,.int .i64 0,.int .i64 0]) 3 24 Tryz.underlying39 hi hz0 hz1 hz2 rfl (by decide) (.slice none 0 0) 0 (cellsOfF []) rfl (World.ownsRow_nil _ _ _ _) ⟨w1.heap.size,0,none⟩ 1 1 [Value.int .i64 3,.int .i64 o.d,.int .i64 (-1)] rfl (by rfl) (cells_new_at w1 #[Value.int .i64 3,.int .i64 o.d,.int .i64 (-1)] 45) (by simp [Value.oneCell']) (by unfold maxLen;omega) (by omega) (by have:=HB1.out.size;simp;omega) ?_;intro v' w6 ho6 hg6 _ hw6
          have HO6:=Lh ho6
          have HG6:=Lh hg6
          clear ho6 hg6 hw6)
       | go_in)
     go_ret
     rw [HS.out]
     exact ⟨_,rfl,HO6.out,(HB1.out.alloc HB1.out.size _).grown HG6.out (by have:=HB1.out.size;simp;omega) (fun j e=>by cases e)⟩
   · have HS:=Lh (show newsF vs o l=[] by rw [HNN.out,if_neg hod,if_neg h0];rfl)
     have x1:((o.imm:Int) % 2 == 1)=false:=beq_eq_false_iff_ne.2 (by omega)
     have x2:decide (0 < o.imm)=false:=decide_eq_false (by omega)
     clear hod HNN h0
     go_enter Tryz.func76,Tryz.ntmps76
     go_upto_region 1 with (first | go_in)
     rw [←HW.out]
     clear HW
     have c0:=H.out.op.kind
     rw [HK.out] at c0
     have c6:=H.out.op.imm
     go_wp2
     go_ret
     exact ⟨_,rfl,by rw [HS.out];exact World.ownsRow_nil _ _ _ _,HB.out⟩
 by_cases k2:k=2
 · subst k2
   have hN:=HN.out
   rw [if_neg (by omega),if_pos rfl] at hN
   have HNN:=Lh hN
   clear HN hk17 k1 hN
   have hpd:0≤o.d∧o.d < (vs.length:Int):=by have h:=HP.out.d;rw [HK.out,if_pos (by omega)] at h;exact h
   have hpa:0≤o.a∧o.a < (vs.length:Int):=HP.out.a (by rw [HK.out];omega)
   obtain ⟨d,hd⟩:∃ d:Nat,o.d=d:=⟨o.d.toNat,by omega⟩
   obtain ⟨a,ha⟩:∃ a:Nat,o.a=a:=⟨o.a.toNat,by omega⟩
   obtain ⟨vd,hvd⟩:∃ v,vs[d]? = some v:=⟨_,List.getElem?_eq_getElem (by omega)⟩
   obtain ⟨va,hva⟩:∃ v,vs[a]? = some v:=⟨_,List.getElem?_eq_getElem (by omega)⟩
   have hld:limbsF vs o.d=vd.limbs:=by unfold limbsF;rw [hd,Int.toNat_natCast,List.getD_eq_getElem?_getD,hvd];rfl
   have hla:limbsF vs o.a=va.limbs:=by unfold limbsF;rw [ha,Int.toNat_natCast,List.getD_eq_getElem?_getD,hva];rfl
   obtain ⟨g,off,rfl,hg,f0,_,_⟩:=H.out.vars.at_ hvd
   obtain ⟨g',off',hA,hg',f1,_,_⟩:=H.out.vars.at_ hva
   cases hA
   have l0:d < nv:=by have:=HNV.out;omega
   have l1:a < nv:=by have:=HNV.out;omega
   have i0:(0:Int)≤(d:Int):=by omega
   have i1:(0:Int)≤(a:Int):=by omega
   have HD:=Lh hd
   have HAA:=Lh ha
   have hcp:=fun (w1:World) (h1:Below W.heap.size W w1)=>copied_any o.a o.d w1 (fun k=>k < w1.heap.size) (H.out.next h1).facts (fun k hk=>hk) (by have:=HNL.out;omega)
   have HL2:=Lh (And.intro hld hla)
   replace hcp:∀ w1,Below W.heap.size W w1→Calls Tryz.prog 111 #[.slice Al nl cl,.int .i64 (a:Int),.int .i64 (d:Int)] w1 (SortedSays w1.heap.size (copyF l o.a o.d) w1):=fun w1 h1=>by rw [←hd,←ha];exact hcp w1 h1
   have HCP:=Lh hcp
   have HG:=Lh hg
   clear hcp hd ha hld hla hpd hpa hvd hva hg hg'
   have HFA:=Lh (show ∀ w_,Below W.heap.size W w_→w_.cell? ⟨w.heap.size,0,none⟩=some (.slice (some ⟨g,off,none⟩) nv cv)∧w_.cell? ⟨w.heap.size+1,1,none⟩=some (.int .i64 (d:Int))∧w_.cell? ⟨w.heap.size+1,3,none⟩=some (.int .i64 (a:Int))∧w_.cell? ⟨g,off+d*3,none⟩=some (.int .i64 vd.limbs)∧w_.cell? ⟨g,off+a*3,none⟩=some (.int .i64 va.limbs) from fun w_ hw=>by
     have h1:=H.out.next hw
     have e1:=h1.op.d
     have e3:=h1.op.a
     rw [HD.out] at e1
     rw [HAA.out] at e3
     exact ⟨h1.c0,e1,e3,(hw.cell (p:=⟨g,off+d*3,none⟩) HG.out).trans f0,(hw.cell (p:=⟨g,off+a*3,none⟩) HG.out).trans f1⟩)
   have i2:(d:Int) < (nv:Int):=by omega
   have i3:(a:Int) < (nv:Int):=by omega
   have i4:IntKind.i64.wrap (d:Int)=d:=by rw [IntKind.wrap_i64];have:=HNV.out;omega
   have i5:IntKind.i64.wrap (a:Int)=a:=by rw [IntKind.wrap_i64];have:=HNV.out;omega
   clear f0 f1
   cases q:decide (va.limbs≤vd.limbs)
   · have HS:=Lh (show newsF vs o l=[] by rw [HNN.out,HL2.out.1,HL2.out.2,if_neg (by simpa using q)])
     go_enter Tryz.func76,Tryz.ntmps76
     go_upto_region 1 with (first | go_in)
     rw [←HW.out]
     clear HW
     have c0:=H.out.op.kind
     rw [HK.out] at c0
     go_upto_region 8 with fail
     have hS:=(Below.refl W.heap.size W).drew
     (refine wp_region_lines (Below W.heap.size W) (by kernel_rfl) (by kernel_rfl) (Below.refl W.heap.size W).drew ?_)
     (try simp only [])
     repeat (first | (refine runL_no (by rfl) ?_;(try simp only [Act.put,List.setIfInBounds_toArray,List.set_cons_zero,List.set_cons_succ])) | (refine runL_val (v:=?_) (by rfl) ?_ ?_;rotate_left;(focus (intro w_ hw_;obtain ⟨f0_,f1_,f2_,f3_,f4_⟩:=HFA.out w_ hw_;go_simp;(try with_reducible rfl);done));(try simp only [Act.put,List.setIfInBounds_toArray,List.set_cons_zero,List.set_cons_succ])))
     (refine runL_nil ?_)
     have HB1:=Lh hS
     go_wp2
     go_ret
     exact ⟨_,rfl,by rw [HS.out];exact World.ownsRow_nil _ _ _ _,HB.out.trans (HB1.out.mono HB.out.size)⟩
   · have HS:=Lh (show newsF vs o l=copyF l o.a o.d by rw [HNN.out,HL2.out.1,HL2.out.2,if_pos (by simpa using q)])
     go_enter Tryz.func76,Tryz.ntmps76
     go_upto_region 1 with (first | go_in)
     rw [←HW.out]
     clear HW
     have c0:=H.out.op.kind
     rw [HK.out] at c0
     go_upto_region 8 with fail
     have hS:=(Below.refl W.heap.size W).drew
     (refine wp_region_lines (Below W.heap.size W) (by kernel_rfl) (by kernel_rfl) (Below.refl W.heap.size W).drew ?_)
     (try simp only [])
     repeat (first | (refine runL_no (by rfl) ?_;(try simp only [Act.put,List.setIfInBounds_toArray,List.set_cons_zero,List.set_cons_succ])) | (refine runL_val (v:=?_) (by rfl) ?_ ?_;rotate_left;(focus (intro w_ hw_;obtain ⟨f0_,f1_,f2_,f3_,f4_⟩:=HFA.out w_ hw_;go_simp;(try with_reducible rfl);done));(try simp only [Act.put,List.setIfInBounds_toArray,List.set_cons_zero,List.set_cons_succ])))
     (refine runL_nil ?_)
     have HB1:=Lh hS
     obtain ⟨e0,e1,e2,_,_⟩:=HFA.out _ hS
     have HC1:=Lh (HCP.out _ hS)
     clear hS
     go_wp2_with (first | ((with_reducible refine HC1.out.mono ?_);rintro e w2 ⟨v2,rfl,ho2,hb2⟩;have HO2:=Lh ho2;have HB2:=Lh hb2;clear ho2 hb2) | go_in)
     go_ret
     rw [HS.out]
     exact SortedSays.to ⟨_,rfl,HO2.out,HB2.out⟩ (HB.out.trans (HB1.out.mono HB.out.size))
 by_cases k9:k=9∨k=10∨k=11∨k=12∨k=13
 · have hN:=HN.out
   rw [if_neg k1,if_neg k2,if_pos k9] at hN
   have HNN:=Lh hN
   clear HN hk17 k1 k2 hN
   cases dc:(o.d == o.c)
   · have HS:=Lh (show newsF vs o l=[lessF o.d o.c] by rw [HNN.out,if_pos (by simpa using dc)])
     have nc:(o.d != o.c)=true:=by rw [bne,dc];rfl
     clear HNN dc
     rcases k9 with rfl | rfl | rfl | rfl | rfl
     all_goals
       go_enter Tryz.func76,Tryz.ntmps76
       go_upto_region 1 with (first | go_in)
       rw [←HW.out]
       clear HW
       have c0:=H.out.op.kind
       rw [HK.out] at c0
       have c1:=H.out.op.d
       have c5:=H.out.op.c
       go_wp2_with (first | ((with_reducible refine (HL.out _ _ _).mono ?_);rintro e w1 ⟨rfl,hb1⟩;have HB1:=Lh hb1;clear hb1) | go_in)
       go_ret
       exact ⟨_,rfl,by rw [HS.out];exact own_lit (l:=[lessF o.d o.c]) (heap_alloc_new w1 _) (by have:=HB.out.size;have:=HB1.out.size;omega) (by simp),below_lit HB.out HB1.out _⟩
   · have HS:=Lh (show newsF vs o l=[] by rw [HNN.out,if_neg (by simpa using dc)])
     have nc:(o.d != o.c)=false:=by rw [bne,dc];rfl
     clear HNN dc
     rcases k9 with rfl | rfl | rfl | rfl | rfl
     all_goals
       go_enter Tryz.func76,Tryz.ntmps76
       go_upto_region 1 with (first | go_in)
       rw [←HW.out]
       clear HW
       have c0:=H.out.op.kind
       rw [HK.out] at c0
       have c1:=H.out.op.d
       have c5:=H.out.op.c
       go_wp2
       go_ret
       exact ⟨_,rfl,by rw [HS.out];exact World.ownsRow_nil _ _ _ _,HB.out⟩
 by_cases k8:k=8
 · subst k8
   have hN:=HN.out
   rw [if_neg k1,if_neg k2,if_neg k9,if_pos rfl] at hN
   have HNN:=Lh hN
   clear HN hk17 k1 k2 k9 hN
   have HBO:=Lh (fun (w1:World) (h1:NewsAt w1 w.heap.size (w.heap.size+1) Av nv cv vo vr (.slice Al nl cl) vs o l) (At:Option Addr) (nt ct:Nat) (told:List Int) (h2:NumsAt w1 (fun k=>k < w1.heap.size) (.slice At nt ct) told) (h3:told.length≤2) (a b p q:Int)=>both_any w1 (fun k=>k < w1.heap.size) vo vr Av Al At nv cv nl cl nt ct l a b p q told h1.facts h2 (fun k hk=>hk) (by have:=HNL.out;omega) (by have:=HNV.out;omega) h3)
   have HB8:=Lh (HBO.out (W.alloc (.cells #[.int .i64 o.d] 3)) (H.out.next ((Below.refl _ _).alloc (Nat.le_refl _) _)) (some ⟨W.heap.size,0,none⟩) 1 1 [o.d] (Rows.mono (nums_blk (g:=W.heap.size) (l:=[o.d]) (t:=3) (heap_alloc_new W (.cells #[.int .i64 o.d] 3))) (fun k hk=>by subst hk;simp)) (by simp) o.a o.b o.d o.d)
   go_enter Tryz.func76,Tryz.ntmps76
   go_upto_region 1 with (first | go_in)
   rw [←HW.out]
   clear HW
   have c0:=H.out.op.kind
   rw [HK.out] at c0
   have c1:=H.out.op.d
   have c3:=H.out.op.a
   have c4:=H.out.op.b
   have c7:=H.out.c0
   have c8:=H.out.c1
   have c9:=H.out.c2
   go_wp2_with (first
     | ((with_reducible refine HB8.out.mono ?_);rintro e w1 ⟨v1,rfl,ho1,hb1⟩;have HO1:=Lh ho1;have HB1:=Lh hb1;clear ho1 hb1)
     | go_in)
   go_ret
   rw [HNN.out,←HNV.out]
   exact SortedSays.to ⟨_,rfl,HO1.out,HB1.out⟩ (HB.out.alloc HB.out.size _)
 by_cases k14:k=14
 · subst k14
   have hN:=HN.out
   rw [if_neg k1,if_neg k2,if_neg k9,if_neg k8,if_pos rfl] at hN
   have HNN:=Lh hN
   clear HN hk17 k1 k2 k9 k8 hN
   have HBO:=Lh (fun (w1:World) (h1:NewsAt w1 w.heap.size (w.heap.size+1) Av nv cv vo vr (.slice Al nl cl) vs o l) (At:Option Addr) (nt ct:Nat) (told:List Int) (h2:NumsAt w1 (fun k=>k < w1.heap.size) (.slice At nt ct) told) (h3:told.length≤2) (a b p q:Int)=>both_any w1 (fun k=>k < w1.heap.size) vo vr Av Al At nv cv nl cl nt ct l a b p q told h1.facts h2 (fun k hk=>hk) (by have:=HNL.out;omega) (by have:=HNV.out;omega) h3)
   have HB8:=Lh (HBO.out (W.alloc (.cells #[.int .i64 o.d,.int .i64 o.e] 3)) (H.out.next ((Below.refl _ _).alloc (Nat.le_refl _) _)) (some ⟨W.heap.size,0,none⟩) 2 2 [o.d,o.e] (Rows.mono (nums_blk (g:=W.heap.size) (l:=[o.d,o.e]) (t:=3) (heap_alloc_new W (.cells #[.int .i64 o.d,.int .i64 o.e] 3))) (fun k hk=>by subst hk;simp)) (by simp) o.d o.e o.d o.e)
   go_enter Tryz.func76,Tryz.ntmps76
   go_upto_region 1 with (first | go_in)
   rw [←HW.out]
   clear HW
   have c0:=H.out.op.kind
   rw [HK.out] at c0
   have c1:=H.out.op.d
   have c2:=H.out.op.e
   have c7:=H.out.c0
   have c8:=H.out.c1
   have c9:=H.out.c2
   go_wp2_with (first
     | ((with_reducible refine HB8.out.mono ?_);rintro e w1 ⟨v1,rfl,ho1,hb1⟩;have HO1:=Lh ho1;have HB1:=Lh hb1;clear ho1 hb1)
     | go_in)
   go_ret
   rw [HNN.out,←HNV.out]
   exact SortedSays.to ⟨_,rfl,HO1.out,HB1.out⟩ (HB.out.alloc HB.out.size _)
 by_cases k17:k=17
 · subst k17
   have hN:=HN.out
   rw [if_neg k1,if_neg k2,if_neg k9,if_neg k8,if_neg k14,if_pos rfl] at hN
   have HNN:=Lh hN
   have hr:=Needs_any o W
   rw [show (Value.agg (kopRow o).toArray)=.agg #[.int .i64 17,.int .i64 o.d,.int .i64 o.e,.int .i64 o.a,.int .i64 o.b,.int .i64 o.c,.int .u64 o.imm] from by simp only [kopRow,HK.out]] at hr
   have HR:=Lh hr
   clear hr
   clear HN hk17 k1 k2 k9 k8 k14 hN
   go_enter Tryz.func76,Tryz.ntmps76
   go_upto_region 1 with (first | go_in)
   rw [←HW.out]
   clear HW
   have c0:=H.out.op.kind
   rw [HK.out] at c0
   have c1:=H.out.op.d
   have c2:=H.out.op.e
   have c3:=H.out.op.a
   have c4:=H.out.op.b
   have c5:=H.out.op.c
   have c6:=H.out.op.imm
   go_wp2_with (first | ((with_reducible refine HR.out.mono ?_);rintro e w1 ⟨v1,rfl,ho1,hb1⟩;have HO1:=Lh ho1;have HB1:=Lh hb1;clear ho1 hb1) | go_in)
   go_ret
   rw [HNN.out]
   exact SortedSays.to ⟨_,rfl,HO1.out,HB1.out⟩ HB.out
 have HNN:=Lh (show newsF vs o l=[] by rw [HN.out,if_neg k1,if_neg k2,if_neg k9,if_neg k8,if_neg k14,if_neg k17])
 clear HN
 have hk7:k=3∨k=4∨k=5∨k=6∨k=7∨k=15∨k=16:=by omega
 clear hk17 k1 k2 k9 k8 k14 k17
 rcases hk7 with rfl | rfl | rfl | rfl | rfl | rfl | rfl
 all_goals
   go_enter Tryz.func76,Tryz.ntmps76
   go_upto_region 1 with (first | go_in)
   rw [←HW.out]
   clear HW
   have c0:=H.out.op.kind
   rw [HK.out] at c0
   go_wp2
   go_ret
   exact ⟨_,rfl,by rw [HNN.out];exact World.ownsRow_nil _ _ _ _,HB.out⟩
end Go.Proofs.YtjbabpnepjhllaaGreat
namespace Go.Proofs.YtjbabpnepjhllaaGreat
open Go.RowKit
set_option maxRecDepth 100000
theorem flat_facts (l:List Fct):(l.map factRow).flatten=cellsOfF l:=rfl
theorem facts_own {w:World} {base:Nat} {v:Value} {l:List Fct} (h:w.ownsRow base 45 3 v l.length (cellsOfF l)):FactsAt w (fun k=>v.ownBlock=some k) v l:=by
 have hsz:∀ r∈(l.map factRow),r.length=3:=by intro r hr;obtain ⟨x,_,rfl⟩:=List.mem_map.1 hr;rfl
 rcases Nat.eq_zero_or_pos l.length with h0 | hpos
 · obtain rfl:=List.eq_nil_of_length_eq_zero h0
   rcases h.2 with ⟨rfl,_⟩ | ⟨g,cap,cur,rfl,_,_,hnc,_⟩
   · exact ⟨none,0,rfl,by simp,by simp,fun h=>absurd rfl h⟩
   · exact ⟨_,cap,rfl,by simp,by simp,fun h=>absurd rfl h⟩
 · rw [←flat_facts] at h
   obtain ⟨g,cap,rfl,hg,hnc,hrow⟩:=rowsBlk_of_own h hsz hpos
   refine ⟨_,cap,by simp,by simpa using hnc,hsz,fun _=>⟨g,0,rfl,rfl,fun i j r u hr hu=>?_⟩⟩
   rw [Nat.zero_add]
   exact hrow.cell hr hu
def FactsSay (l:List Fct) (w:World) (e:Ending) (w':World):Prop:=∃ A n c,e=.returned (.slice A n c)∧FactsAt w' (fun k=>k < w'.heap.size) (.slice A n c) l∧Below w.heap.size w w'
theorem FactsSay.of {base:Nat} {l:List Fct} {w:World} {e:Ending} {w':World} (h:SortedSays base l w e w'):FactsSay l w e w':=by
 obtain ⟨v,rfl,ho,hb⟩:=h
 obtain ⟨A,c,rfl⟩:=own_form ho
 exact ⟨A,_,c,rfl,Rows.mono (facts_own ho) (fun k hk=>(own_lt ho k hk).1),hb⟩
def FactsIn (F:Nat→Prop) (l:List Fct) (w:World) (e:Ending) (w':World):Prop:=∃ A n c,e=.returned (.slice A n c)∧FactsAt w' (fun k=>F k∨(w.heap.size≤k∧k < w'.heap.size)) (.slice A n c) l∧Below w.heap.size w w'
theorem FactsIn.of {F:Nat→Prop} {l:List Fct} {w:World} {e:Ending} {w':World} (h:SortedSays w.heap.size l w e w'):FactsIn F l w e w':=by
 obtain ⟨v,rfl,ho,hb⟩:=h
 obtain ⟨A,c,rfl⟩:=own_form ho
 exact ⟨A,_,c,rfl,Rows.mono (facts_own ho) (fun k hk=>.inr ⟨(own_lt ho k hk).2,(own_lt ho k hk).1⟩),hb⟩
theorem FactsSay.to {w W:World} {l:List Fct} {e:Ending} {w':World} (h:FactsSay l W e w') (hb:Below w.heap.size w W):FactsSay l w e w':=by
 obtain ⟨A,n,c,he,hf,hb2⟩:=h
 exact ⟨A,n,c,he,hf,hb.trans (hb2.mono hb.size)⟩
theorem cell_grown {w w':World} {m:Nat} {p:Addr} (h:w.grownBy w' (some m)) (hp:p.block < w.heap.size) (hn:p.block≠m):w'.cell? p=w.cell? p :=
 World.cell?_of_block (h.block p.block hp (fun e=>hn (by cases e;rfl)))
set_option maxHeartbeats 4000000 in
theorem after_in (w:World) (F:Nat→Prop) (Av Al:Option Addr) (nv cv nl cl:Nat) (vo vr:Value) (vs:List KVar) (o:KOp) (l:List Fct) (hv:KVarsAt w F (.slice Av nv cv) vs) (hf:FactsAt w F (.slice Al nl cl) l) (hF:∀ k,F k→k < w.heap.size)
   (hp:PartsK vs.length o) (ho:KOpOk o) (hl:∀ f∈l,FctOk f) (hn:l.length≤40000) (hvn:vs.length≤256) :
   Calls Tryz.prog 50 #[.agg #[.slice Av nv cv,vo,vr],.agg #[.int .i64 o.kind,.int .i64 o.d,.int .i64 o.e,.int .i64 o.a,.int .i64 o.b,.int .i64 o.c,.int .u64 o.imm],.slice Al nl cl] w (FactsIn F (afterF vs o l) w):=by
 obtain ⟨W,hW⟩:∃ W,W=(w.alloc (.cells #[.slice Av nv cv,vo,vr] 25)).alloc (.cells #[.int .i64 o.kind,.int .i64 o.d,.int .i64 o.e,.int .i64 o.a,.int .i64 o.b,.int .i64 o.c,.int .u64 o.imm] 43):=⟨_,rfl⟩
 obtain ⟨h,hb⟩:=news_start w F Av nv cv vo vr (.slice Al nl cl) vs o l hv hf hF
 rw [show (w.alloc (.cells #[.slice Av nv cv,vo,vr] 25)).alloc (.cells (kopRow o).toArray 43)=W from hW.symm] at h hb
 have hz:W.heap.size=w.heap.size+2:=by rw [hW];simp
 have hnl:=(rows_len hf).1
 have hlen:=newsF_len vs o l
 have HF0:=Lh (show FactsAt W F (.slice Al nl cl) l from Rows.keep hf (SameOn.of_below hb hF))
 have HW:=Lh hW
 have H:=Lh h
 have HB:=Lh hb
 have HZ:=Lh hz
 have HNW:=Lh (news_any W (fun k=>k < W.heap.size) Av Al nv cv nl cl vo vr vs o l h.vars h.facts (fun k hk=>hk) hp (by omega) hvn)
 have HOF:=Lh (fun (w1:World) (h1:Below W.heap.size W w1)=>of_any w1 (fun k=>k < w1.heap.size) (h.next h1).facts (fun k hk=>hk) hl (by omega))
 have HDEL:=Lh (fun (w1 w2:World) (h1:Below W.heap.size W w1) (h2:Below w1.heap.size w1 w2) (h3:SetAt w2 w1.heap.size nl (sortF l))=>DeleteFunc_any 78 #[.pointer (some ⟨w.heap.size+1,0,none⟩)] w1.heap.size nl (sortF l) w2 (goneF o) (enters_of Tryz.func78 (by kernel_rfl) rfl) h3
   (fun W3 f hg=>after1_any o f (w.heap.size+1) W3
     ((cell_grown hg (show w.heap.size+1 < _ by have:=h1.size;have:=h2.size;omega) (show w.heap.size+1≠_ by have:=h1.size;omega)).trans ((h.next h1).next h2).op.d)
     ((cell_grown hg (show w.heap.size+1 < _ by have:=h1.size;have:=h2.size;omega) (show w.heap.size+1≠_ by have:=h1.size;omega)).trans ((h.next h1).next h2).op.e)
     (by have:=hg.size;have:=h1.size;have:=h2.size;omega)))
 have HPUT:=Lh (fun (w1 w2 w3:World) (v1:Value) (h1:Below W.heap.size W w1) (h2:Below w1.heap.size w1 w2) (h3:w2.grownBy w3 (some w1.heap.size)) (h4:SetAt w3 w1.heap.size nl ((sortF l).filter fun f=>!goneF o f)) (h5:w1.ownsRow W.heap.size 45 3 v1 (newsF vs o l).length (cellsOfF (newsF vs o l))) =>
   (show ∃ A c,v1=.slice A (newsF vs o l).length c∧Calls Tryz.prog 53 #[.map (some w1.heap.size),.slice A (newsF vs o l).length c] w3 fun e w'=>e=.returned (.tuple #[])∧SetAt w' w1.heap.size (nl+(newsF vs o l).length) (putsF ((sortF l).filter fun f=>!goneF o f) (newsF vs o l))∧Chg (fun k=>k=w1.heap.size) w3 w' from by
     obtain ⟨A,c,rfl⟩:=own_form h5
     refine ⟨A,c,rfl,put_any w3 (fun k=>(Value.slice A (newsF vs o l).length c).ownBlock=some k) h4 (Rows.keep (facts_own h5) (fun k hk=>?_)) (fun k hk=>?_) (newsF_ok ho hl (by omega)) (by omega)⟩
     · have:=own_lt h5 k hk
       rw [h3.block k (by have:=h2.size;omega) (fun e=>by cases e;omega),h2.block k this.1]
     · have:=own_lt h5 k hk
       exact ⟨by have:=h2.size;have:=h3.size;omega,by omega⟩))
 have HSRT:=Lh (fun (w4:World) (b:Nat) (h4:SetAt w4 b (nl+(newsF vs o l).length) (putsF ((sortF l).filter fun f=>!goneF o f) (newsF vs o l)))=>sorted_any w4 h4 (ord_putsF ((ord_sortF l).filter _)) (by omega))
 clear hW h hb hz hv hf hF hnl hlen
 by_cases k2:o.kind=2∧o.d=o.a
 · have HAF:=Lh (show afterF vs o l=l by unfold afterF;rw [if_pos k2])
   have d1:(o.kind == 2)=true:=by rw [beq_iff_eq];exact k2.1
   have d2:(o.d == o.a)=true:=by rw [beq_iff_eq];exact k2.2
   clear k2 HNW HOF HDEL HPUT HSRT
   go_enter Tryz.func50,Tryz.ntmps50
   go_upto_region 1 with (first | go_in)
   rw [←HW.out]
   clear HW
   have c0:=H.out.op.kind
   have c1:=H.out.op.d
   have c3:=H.out.op.a
   go_wp2
   go_ret
   rw [HAF.out]
   exact ⟨_,_,_,rfl,Rows.mono HF0.out (fun k hk=>.inl hk),HB.out⟩
 have HAF:=Lh (show afterF vs o l=putsF ((sortF l).filter fun f=>!goneF o f) (newsF vs o l) by unfold afterF;rw [if_neg k2])
 have HPUT:=Lh (fun (w1 w2 w3:World) (A:Option Addr) (c:Nat) (h1:Below W.heap.size W w1) (h2:Below w1.heap.size w1 w2) (h3:w2.grownBy w3 (some w1.heap.size)) (h4:SetAt w3 w1.heap.size nl ((sortF l).filter fun f=>!goneF o f)) (h5:w1.ownsRow W.heap.size 45 3 (.slice A (newsF vs o l).length c) (newsF vs o l).length (cellsOfF (newsF vs o l)))=>show Calls Tryz.prog 53 #[.map (some w1.heap.size),.slice A (newsF vs o l).length c] w3 fun e w'=>e=.returned (.tuple #[])∧SetAt w' w1.heap.size (nl+(newsF vs o l).length) (putsF ((sortF l).filter fun f=>!goneF o f) (newsF vs o l))∧Chg (fun k=>k=w1.heap.size) w3 w' from by
   obtain ⟨A',c',e,hc⟩:=HPUT.out w1 w2 w3 (.slice A (newsF vs o l).length c) h1 h2 h3 h4 h5
   cases e
   exact hc)
 cases d1:(o.kind == 2)
 · clear k2
   go_enter Tryz.func50,Tryz.ntmps50
   go_upto_region 1 with (first | go_in)
   rw [←HW.out]
   clear HW
   have c0:=H.out.op.kind
   have c1:=H.out.op.d
   have c3:=H.out.op.a
   have c2:=H.out.op.e
   have c4:=H.out.op.b
   have c5:=H.out.op.c
   have c6:=H.out.op.imm
   have c7:=H.out.c0
   have c8:=H.out.c1
   have c9:=H.out.c2
   go_wp2_with (first
     | ((with_reducible refine HNW.out.mono ?_);rintro e w1 ⟨v1,rfl,ho1,hb1⟩;have HO1:=Lh ho1;have HB1:=Lh hb1;obtain ⟨A1,e1,rfl⟩:=own_form ho1;clear ho1 hb1)
     | ((with_reducible refine (HOF.out w1 HB1.out).mono ?_);rintro e w2 ⟨rfl,hs2,hb2⟩;have HS2:=Lh hs2;have HB2:=Lh hb2;clear hs2 hb2)
     | ((with_reducible refine (HDEL.out w1 w2 HB1.out HB2.out HS2.out).mono ?_);rintro e w3 ⟨rfl,hs3,hg3⟩;have HS3:=Lh hs3;have HG3:=Lh hg3;clear hs3 hg3)
     | ((with_reducible refine (HPUT.out w1 w2 w3 _ _ HB1.out HB2.out HG3.out HS3.out HO1.out).mono ?_);rintro e w4 ⟨rfl,hs4,hc4⟩;have HS4:=Lh hs4;have HC4:=Lh hc4;clear hs4 hc4)
     | ((with_reducible refine (HSRT.out w4 w1.heap.size HS4.out).mono ?_);rintro e w5 ⟨aB,rfl,ho5,hb5⟩;have HO5:=Lh ho5;have HB5:=Lh hb5;clear ho5 hb5)
     | go_in)
   go_ret
   have hb3:Below W.heap.size W w3:=by
     have h1:=HB1.out
     have h2:=HB2.out
     have h3:=HG3.out
     exact (h1.trans (h2.mono h1.size)).trans ⟨h3.os,h3.tape,h3.output,h3.size,fun k hk=>h3.block k (by have:=h1.size;have:=h2.size;omega) (fun e=>by cases e;have:=h1.size;omega)⟩
   have hb4:Below W.heap.size W w4:=hb3.trans (HC4.out.below (fun k hk e=>by subst e;have:=HB1.out.size;omega) hb3.size)
   rw [HAF.out]
   exact FactsIn.of ⟨aB,rfl,ownsRow_base HO5.out (Nat.le_trans HB.out.size hb4.size),HB.out.trans ((hb4.trans (HB5.out.mono hb4.size)).mono HB.out.size)⟩
 · have d2:(o.d == o.a)=false:=beq_eq_false_iff_ne.2 fun e=>k2 ⟨by simpa using d1,e⟩
   clear k2
   go_enter Tryz.func50,Tryz.ntmps50
   go_upto_region 1 with (first | go_in)
   rw [←HW.out]
   clear HW
   have c0:=H.out.op.kind
   have c1:=H.out.op.d
   have c3:=H.out.op.a
   have c2:=H.out.op.e
   have c4:=H.out.op.b
   have c5:=H.out.op.c
   have c6:=H.out.op.imm
   have c7:=H.out.c0
   have c8:=H.out.c1
   have c9:=H.out.c2
   go_wp2_with (first
     | ((with_reducible refine HNW.out.mono ?_);rintro e w1 ⟨v1,rfl,ho1,hb1⟩;have HO1:=Lh ho1;have HB1:=Lh hb1;obtain ⟨A1,e1,rfl⟩:=own_form ho1;clear ho1 hb1)
     | ((with_reducible refine (HOF.out w1 HB1.out).mono ?_);rintro e w2 ⟨rfl,hs2,hb2⟩;have HS2:=Lh hs2;have HB2:=Lh hb2;clear hs2 hb2)
     | ((with_reducible refine (HDEL.out w1 w2 HB1.out HB2.out HS2.out).mono ?_);rintro e w3 ⟨rfl,hs3,hg3⟩;have HS3:=Lh hs3;have HG3:=Lh hg3;clear hs3 hg3)
     | ((with_reducible refine (HPUT.out w1 w2 w3 _ _ HB1.out HB2.out HG3.out HS3.out HO1.out).mono ?_);rintro e w4 ⟨rfl,hs4,hc4⟩;have HS4:=Lh hs4;have HC4:=Lh hc4;clear hs4 hc4)
     | ((with_reducible refine (HSRT.out w4 w1.heap.size HS4.out).mono ?_);rintro e w5 ⟨aB,rfl,ho5,hb5⟩;have HO5:=Lh ho5;have HB5:=Lh hb5;clear ho5 hb5)
     | go_in)
   go_ret
   have hb3:Below W.heap.size W w3:=by
     have h1:=HB1.out
     have h2:=HB2.out
     have h3:=HG3.out
     exact (h1.trans (h2.mono h1.size)).trans ⟨h3.os,h3.tape,h3.output,h3.size,fun k hk=>h3.block k (by have:=h1.size;have:=h2.size;omega) (fun e=>by cases e;have:=h1.size;omega)⟩
   have hb4:Below W.heap.size W w4:=hb3.trans (HC4.out.below (fun k hk e=>by subst e;have:=HB1.out.size;omega) hb3.size)
   rw [HAF.out]
   exact FactsIn.of ⟨aB,rfl,ownsRow_base HO5.out (Nat.le_trans HB.out.size hb4.size),HB.out.trans ((hb4.trans (HB5.out.mono hb4.size)).mono HB.out.size)⟩
end Go.Proofs.YtjbabpnepjhllaaGreat
