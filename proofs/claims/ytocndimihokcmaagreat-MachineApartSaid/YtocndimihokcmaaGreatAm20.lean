/- Part 20 of a claim; what it proves stands in its last text. -/
import Derived.Test.YtocndimihokcmaaGreatAm19
import Derived.Lib.SlicesS
import Derived.Test.YtocndimihokcmaaGreatAm14
namespace Go.Proofs.YtocndimihokcmaaGreat
open Go.RowKit
set_option maxRecDepth 100000
def DspOk (i:Ins):Prop:=-9223372036854775808≤i.disp∧i.disp≤9223372036854775807
theorem dsp_R {op d s t imm:Int}:DspOk (insR op d s t imm):=by show (-9223372036854775808:Int)≤0∧(0:Int)≤9223372036854775807;decide
theorem dsp_P {op d s:Int} {r rm:Nat} {c:Cur} (h:CurOk c):DspOk (insP op d s (placeC r rm c).1):=by
 have h0:-9223372036854775808≤(place1 r rm c).1.disp∧(place1 r rm c).1.disp≤9223372036854775807:=by
   have e:(place1 r rm c).1.disp=0:=by
     unfold place1
     split
     · show (sibC r (byteC c).1).disp=0
       unfold sibC
       split <;> rfl
     · rfl
   rw [e]
   decide
 have hc:CurOk (place1 r rm c).2:=by
   unfold place1
   split
   · exact (bok h).1
   · exact h
 show -9223372036854775808≤(placeC r rm c).1.disp∧(placeC r rm c).1.disp≤9223372036854775807
 have h1:=(nok (k:=1) hc).2
 have h4:=(nok (k:=4) hc).2
 unfold placeC
 split
 · show -9223372036854775808≤(numC 1 (place1 r rm c).2).1∧(numC 1 (place1 r rm c).2).1≤9223372036854775807
   simp only [Nat.reducePow] at h1
   omega
 · split
   · show -9223372036854775808≤(numC 4 (place1 r rm c).2).1∧(numC 4 (place1 r rm c).2).1≤9223372036854775807
     simp only [Nat.reducePow] at h4
     omega
   · exact h0
theorem dsp_ite {q:Prop} [Decidable q] {a b:Ins×Cur} (ha:DspOk a.1) (hb:DspOk b.1):DspOk (if q then a else b).1:=by
 split
 · exact ha
 · exact hb
theorem wide_dsp (r:Nat) {c:Cur} (h:CurOk c):DspOk (wideC r c).1:=by
 have h2:=(bok (bok h).1).1
 unfold wideC
 exact dsp_ite dsp_R (dsp_ite (dsp_P h2) (dsp_ite (dsp_ite dsp_R (dsp_P h2)) (dsp_ite dsp_R (dsp_ite dsp_R (dsp_ite dsp_R dsp_R)))))
theorem any_dsp (f:Nat):∀ {c:Cur},CurOk c→DspOk (anyC f c).1:=by
 induction f with
 | zero=>intro c _;exact dsp_R
 | succ f ih =>
   intro c h
   have h1:=ih (bok h).1
   unfold anyC
   exact dsp_ite dsp_R (dsp_ite dsp_R (dsp_ite dsp_R (dsp_ite (dsp_ite h1 h1) (dsp_ite dsp_R (dsp_ite dsp_R (dsp_ite dsp_R (dsp_ite dsp_R (wide_dsp _ (bok h).1))))))))
theorem any_insOk (f:Nat) {c:Cur} (h:CurOk c):InsOk (anyC f c).1:=⟨any_dsp f h,(any_imm f h).2⟩
def decR (code:List UInt8) (a:Int):Ins×Int×Int :=
 if a < 0∨(code.length:Int) < a then (insR 0 0 0 0 0,0,2) else if a=code.length then (insR 0 0 0 0 0,0,8) else match decF ((natsB code).drop a.toNat) with
   | none=>(insR 0 0 0 0 0,0,4)
   | some x=>(x.1,x.2,0)
theorem byt_eq (a b:List UInt8):(ByteArray.mk a.toArray=ByteArray.mk b.toArray)↔a=b:=by
 constructor
 · intro h
   have h1:=congrArg (fun x:ByteArray=>x.data.toList) h
   simpa using h1
 · intro h;rw [h]
theorem bytes_slice (l:List UInt8) (i j:Nat):(ByteArray.mk l.toArray).extract i j=⟨((l.drop i).take (j - i)).toArray⟩:=by
 apply ByteArray.ext
 rw [ByteArray.data_extract]
 simp [List.extract_eq_take_drop]
set_option maxHeartbeats 8000000 in
theorem dInst_arg {code:List UInt8} {w:World} {a:Int} (ha:-9223372036854775808≤a∧a≤9223372036854775807) (h:a < 0∨(code.length:Int) < a):Calls Tryz.prog 24 #[strB code,.int .i64 a] w (fun e_ w_=>e_=.returned (.tuple #[.agg (insRow (insR 0 0 0 0 0)).toArray,.int .i64 0,.int .i64 2])∧Below w.heap.size w w_):=by
 obtain ⟨s,hs⟩:∃ s:ByteArray,s=⟨code.toArray⟩:=⟨_,rfl⟩
 have hsz:s.size=code.length:=by rw [hs];simp [ByteArray.size]
 show Calls _ _ #[.string ⟨code.toArray⟩,_] _ _
 rw [←hs]
 rw [←hsz] at h
 clear hs hsz
 by_cases h0:a < 0
 · have d1:decide (a < 0)=true:=decide_eq_true h0
   skip
   go_enter Tryz.func24,Tryz.ntmps24
   go_wp2
   refine bodyPost_ret (results3 (ty:=40) rfl _ _ w.heap.size 40 _ (0,0) _ rfl (heap_alloc_new w _) Tryz.underlying40 rfl (by kernel_rfl)) rfl ⟨rfl,(Below.refl _ _).alloc (Nat.le_refl _) _⟩
 · have d1:decide (a < 0)=false:=decide_eq_false h0
   have d2:decide ((s.size:Int) < a)=true:=decide_eq_true (by omega)
   go_enter Tryz.func24,Tryz.ntmps24
   go_wp2
   refine bodyPost_ret (results3 (ty:=40) rfl _ _ w.heap.size 40 _ (0,0) _ rfl (heap_alloc_new w _) Tryz.underlying40 rfl (by kernel_rfl)) rfl ⟨rfl,(Below.refl _ _).alloc (Nat.le_refl _) _⟩
set_option maxHeartbeats 8000000 in
theorem dInst_more {code:List UInt8} {w:World} {a:Nat} (hl:code.length≤1000000000) (h:a=code.length):Calls Tryz.prog 24 #[strB code,.int .i64 a] w (fun e_ w_=>e_=.returned (.tuple #[.agg (insRow (insR 0 0 0 0 0)).toArray,.int .i64 0,.int .i64 8])∧Below w.heap.size w w_):=by
 obtain ⟨s,hs⟩:∃ s:ByteArray,s=⟨code.toArray⟩:=⟨_,rfl⟩
 have hsz:s.size=code.length:=by rw [hs];simp [ByteArray.size]
 show Calls _ _ #[.string ⟨code.toArray⟩,_] _ _
 rw [←hs]
 rw [←hsz] at h hl
 clear hs hsz
 have h0:¬ (a:Int) < 0:=by omega
 have d2:decide (s.size < a)=false:=decide_eq_false (by omega)
 have d3:((a:Int) ==(s.size:Int))=true:=beq_iff_eq.2 (by omega)
 clear h
 go_enter Tryz.func24,Tryz.ntmps24
 go_wp2
 refine bodyPost_ret (results3 (ty:=40) rfl _ _ w.heap.size 40 _ (0,0) _ rfl (heap_alloc_new w _) Tryz.underlying40 rfl (by kernel_rfl)) rfl ⟨rfl,(Below.refl _ _).alloc (Nat.le_refl _) _⟩
set_option maxHeartbeats 8000000 in
theorem dIn_lacks {w:World} {a:Nat} {s t u:ByteArray} {win es:List UInt8} {I0:Ins} {c1:Cur} {er:Int} (ht:t=⟨win.toArray⟩) (hu:u=⟨es.toArray⟩) (hlt:a < s.size) (hl2:s.size≤1000000000) (hwl:win.length≤16) (fx:s.extract a (min (s.size:Int) ((a:Int)+16)).toNat=t)
   (HA:∀ w_,CurAt 104 false win (w.heap.size+1) w_ (natsB win,false)→Calls Tryz.prog 43 #[.pointer (some ⟨(w.heap.size+1),0,none⟩)] w_ (CurSay 104 false win (w.heap.size+1) w_ c1 (.agg (insRow I0).toArray)))
   (HEI:∀ w_,Calls Tryz.prog 44 #[.agg (insRow I0).toArray] w_ (fun e w'=>e=.returned (.tuple #[.string u,.int .i64 er])∧Below w_.heap.size w_ w'))
   (hlk:c1.2=true):Calls Tryz.prog 24 #[.string s,.int .i64 a] w (fun e_ w_=>e_=.returned (.tuple #[.agg (insRow (insR 0 0 0 0 0)).toArray,.int .i64 0,.int .i64 4])∧Below w.heap.size w w_):=by
 have HT:=Lh ht
 have HU:=Lh hu
 have HWL:=Lh hwl
 have HA:=Lh HA
 have HEI:=Lh HEI
 have h0:¬ (a:Int) < 0:=by omega
 have d2:decide (s.size < a)=false:=decide_eq_false (by omega)
 have d3:((a:Int) ==(s.size:Int))=false:=beq_eq_false_iff_ne.2 (by omega)
 have HC0:=Lh (show CurAt 104 false win (w.heap.size+1) ((w.alloc (.cells [.int .i64 0,.int .i64 0,.int .i64 0,.int .i64 0,.int .i64 0,.int .i64 0,.int .i64 0,.int .i64 0,.int .i64 0].toArray 40)).alloc (.cells [.string t,.int .i64 0,.bool false].toArray 104)) (natsB win,false) from ⟨List.suffix_refl _,by
   have h1:=heap_alloc_new (w.alloc (.cells [.int .i64 0,.int .i64 0,.int .i64 0,.int .i64 0,.int .i64 0,.int .i64 0,.int .i64 0,.int .i64 0,.int .i64 0].toArray 40)) (.cells [.string t,.int .i64 0,.bool false].toArray 104)
   have h2:(w.alloc (.cells [.int .i64 0,.int .i64 0,.int .i64 0,.int .i64 0,.int .i64 0,.int .i64 0,.int .i64 0,.int .i64 0,.int .i64 0].toArray 40)).heap.size=w.heap.size+1:=by simp
   rw [h2] at h1
   rw [h1]
   unfold curV strB
   rw [natsB_len,Nat.sub_self,HT.out]
   rfl⟩)
 have HR0:=Lh (show ((w.alloc (.cells [.int .i64 0,.int .i64 0,.int .i64 0,.int .i64 0,.int .i64 0,.int .i64 0,.int .i64 0,.int .i64 0,.int .i64 0].toArray 40)).alloc (.cells [.string t,.int .i64 0,.bool false].toArray 104)).heap[w.heap.size]? = some (.cells [.int .i64 0,.int .i64 0,.int .i64 0,.int .i64 0,.int .i64 0,.int .i64 0,.int .i64 0,.int .i64 0,.int .i64 0].toArray 40 (0,0)) from (heap_alloc_old (w.alloc _) _ (by simp)).trans (heap_alloc_new w _))
 have HB0:=Lh (show Below w.heap.size w ((w.alloc (.cells [.int .i64 0,.int .i64 0,.int .i64 0,.int .i64 0,.int .i64 0,.int .i64 0,.int .i64 0,.int .i64 0,.int .i64 0].toArray 40)).alloc (.cells [.string t,.int .i64 0,.bool false].toArray 104)) from ((Below.refl _ _).alloc (Nat.le_refl _) _).alloc (by simp) _)
 clear ht hu hwl
 obtain ⟨nn,hnn⟩:∃ x,x=win.length - c1.1.length:=⟨_,rfl⟩
 have HNN:=Lh hnn.symm
 clear hnn
 have HLK:=Lh hlk
 clear hlk
 go_enter Tryz.func24,Tryz.ntmps24
 go_wp2_with (first | ((with_reducible refine (HA.out _ HC0.out).mono ?_);rintro e_ w2 ⟨rfl,hc2,hg2⟩;have HR2:=Lh (keepS hg2 (by omega) HR0.out);have HC2:=Lh hc2;have HB2:=Lh (HB0.out.trans (hg2.below (fun k hk e=>by have h9:k=w.heap.size+1:=e;omega) HB0.out.size));clear hc2 hg2) | (refine wpList_store_row rfl 40 _ _ rfl w.heap.size (insRow I0).toArray rfl rfl 40 _ HR2.out (by kernel_rfl) (by rfl) (by kernel_rfl) ?_;generalize hY:w2.setRow w.heap.size (insRow I0).toArray=Y;have HRY:=Lh (show Y.heap[w.heap.size]? = some (.cells (insRow I0).toArray 40 (0,0)) from by rw [←hY];exact setRow_heap _ _ _ _ _ _ HR2.out);have HCY:=Lh (show CurAt 104 false win (w.heap.size+1) Y c1 from by rw [←hY];exact HC2.out.setRow (by omega) _);have HBY:=Lh (show Below w.heap.size w Y from by rw [←hY];exact Below.setRow HB2.out (Nat.le_refl _) _);clear hY) | (refine wpList_load_row rfl 40 _ rfl w.heap.size rfl 40 _ (0,0) _ HRY.out Tryz.underlying40 rfl (by kernel_rfl) ?_) | ((with_reducible refine (HEI.out _).mono ?_);rintro e_ w3 ⟨rfl,hb3⟩;have HR3:=Lh ((hb3.block _ (lt_of_block HRY.out)).trans HRY.out);have HC3:=Lh (HCY.out.chg (Chg.of_below (F:=fun _=>False) hb3) (fun h=>h));have HB3:=Lh (HBY.out.trans (hb3.mono HBY.out.size));clear hb3))
 obtain ⟨k0_,k1_,k2_,_,_⟩:=row3 HC3.out.blk
 rw [HNN.out] at k1_
 have k0_:w3.cell? ⟨(w.heap.size+1),0,none⟩=some (.string t):=k0_.trans (by unfold strB;rw [HT.out])
 have HS3:=Lh (show w3.cell? ⟨(w.heap.size+1),0,none⟩=some (.string t)∧w3.cell? ⟨(w.heap.size+1),1,none⟩=some (.int .i64 (nn:Nat))∧w3.cell? ⟨(w.heap.size+1),2,none⟩=some (.bool true) from ⟨k0_,k1_,k2_.trans (by rw [HLK.out];rfl)⟩)
 clear k0_ k1_ k2_
 (refine wp_region_lines (fun w_=>w_.cell? ⟨(w.heap.size+1),0,none⟩=some (.string t)∧w_.cell? ⟨(w.heap.size+1),1,none⟩=some (.int .i64 (nn:Nat))∧w_.cell? ⟨(w.heap.size+1),2,none⟩=some (.bool true)) (by kernel_rfl) (by kernel_rfl) HS3.out ?_)
 (try simp only [])
 repeat (first | (refine runL_no (by rfl) ?_;(try simp only [Act.put,List.setIfInBounds_toArray,List.set_cons_zero,List.set_cons_succ])) | (refine runL_val (v:=?_) (by rfl) ?_ ?_;rotate_left;(focus (intro w_ hw_;obtain ⟨f1_,f2_,f3_⟩:=hw_;go_simp;(try with_reducible rfl);done));(try simp only [Act.put,List.setIfInBounds_toArray,List.set_cons_zero,List.set_cons_succ])))
 (refine runL_nil ?_)
 go_wp2_with (first | (refine wpList_store_row rfl 40 _ _ rfl w.heap.size _ rfl rfl 40 _ HR3.out (by kernel_rfl) (by rfl) (by kernel_rfl) ?_))
 refine bodyPost_ret (results3 (ty:=40) rfl _ _ w.heap.size 40 _ (0,0) _ rfl (setRow_heap _ _ _ _ _ _ HR3.out) Tryz.underlying40 rfl (by kernel_rfl)) rfl ⟨rfl,?_⟩
 exact Below.setRow HB3.out.drew (Nat.le_refl _) _
set_option maxHeartbeats 8000000 in
theorem dIn_bad {w:World} {a:Nat} {s t u:ByteArray} {win es:List UInt8} {I0:Ins} {c1:Cur} {er:Int} (ht:t=⟨win.toArray⟩) (hu:u=⟨es.toArray⟩) (hlt:a < s.size) (hl2:s.size≤1000000000) (hwl:win.length≤16) (fx:s.extract a (min (s.size:Int) ((a:Int)+16)).toNat=t)
   (HA:∀ w_,CurAt 104 false win (w.heap.size+1) w_ (natsB win,false)→Calls Tryz.prog 43 #[.pointer (some ⟨(w.heap.size+1),0,none⟩)] w_ (CurSay 104 false win (w.heap.size+1) w_ c1 (.agg (insRow I0).toArray)))
   (HEI:∀ w_,Calls Tryz.prog 44 #[.agg (insRow I0).toArray] w_ (fun e w'=>e=.returned (.tuple #[.string u,.int .i64 er])∧Below w_.heap.size w_ w'))
   (hlk:c1.2=false) (hne:er=2):Calls Tryz.prog 24 #[.string s,.int .i64 a] w (fun e_ w_=>e_=.returned (.tuple #[.agg (insRow (insR 0 0 0 0 0)).toArray,.int .i64 0,.int .i64 4])∧Below w.heap.size w w_):=by
 have HT:=Lh ht
 have HU:=Lh hu
 have HWL:=Lh hwl
 have HA:=Lh HA
 have HEI:=Lh HEI
 have h0:¬ (a:Int) < 0:=by omega
 have d2:decide (s.size < a)=false:=decide_eq_false (by omega)
 have d3:((a:Int) ==(s.size:Int))=false:=beq_eq_false_iff_ne.2 (by omega)
 have HC0:=Lh (show CurAt 104 false win (w.heap.size+1) ((w.alloc (.cells [.int .i64 0,.int .i64 0,.int .i64 0,.int .i64 0,.int .i64 0,.int .i64 0,.int .i64 0,.int .i64 0,.int .i64 0].toArray 40)).alloc (.cells [.string t,.int .i64 0,.bool false].toArray 104)) (natsB win,false) from ⟨List.suffix_refl _,by
   have h1:=heap_alloc_new (w.alloc (.cells [.int .i64 0,.int .i64 0,.int .i64 0,.int .i64 0,.int .i64 0,.int .i64 0,.int .i64 0,.int .i64 0,.int .i64 0].toArray 40)) (.cells [.string t,.int .i64 0,.bool false].toArray 104)
   have h2:(w.alloc (.cells [.int .i64 0,.int .i64 0,.int .i64 0,.int .i64 0,.int .i64 0,.int .i64 0,.int .i64 0,.int .i64 0,.int .i64 0].toArray 40)).heap.size=w.heap.size+1:=by simp
   rw [h2] at h1
   rw [h1]
   unfold curV strB
   rw [natsB_len,Nat.sub_self,HT.out]
   rfl⟩)
 have HR0:=Lh (show ((w.alloc (.cells [.int .i64 0,.int .i64 0,.int .i64 0,.int .i64 0,.int .i64 0,.int .i64 0,.int .i64 0,.int .i64 0,.int .i64 0].toArray 40)).alloc (.cells [.string t,.int .i64 0,.bool false].toArray 104)).heap[w.heap.size]? = some (.cells [.int .i64 0,.int .i64 0,.int .i64 0,.int .i64 0,.int .i64 0,.int .i64 0,.int .i64 0,.int .i64 0,.int .i64 0].toArray 40 (0,0)) from (heap_alloc_old (w.alloc _) _ (by simp)).trans (heap_alloc_new w _))
 have HB0:=Lh (show Below w.heap.size w ((w.alloc (.cells [.int .i64 0,.int .i64 0,.int .i64 0,.int .i64 0,.int .i64 0,.int .i64 0,.int .i64 0,.int .i64 0,.int .i64 0].toArray 40)).alloc (.cells [.string t,.int .i64 0,.bool false].toArray 104)) from ((Below.refl _ _).alloc (Nat.le_refl _) _).alloc (by simp) _)
 clear ht hu hwl
 obtain ⟨nn,hnn⟩:∃ x,x=win.length - c1.1.length:=⟨_,rfl⟩
 have HNN:=Lh hnn.symm
 clear hnn
 have HLK:=Lh hlk
 subst hne
 clear hlk
 go_enter Tryz.func24,Tryz.ntmps24
 go_wp2_with (first | ((with_reducible refine (HA.out _ HC0.out).mono ?_);rintro e_ w2 ⟨rfl,hc2,hg2⟩;have HR2:=Lh (keepS hg2 (by omega) HR0.out);have HC2:=Lh hc2;have HB2:=Lh (HB0.out.trans (hg2.below (fun k hk e=>by have h9:k=w.heap.size+1:=e;omega) HB0.out.size));clear hc2 hg2) | (refine wpList_store_row rfl 40 _ _ rfl w.heap.size (insRow I0).toArray rfl rfl 40 _ HR2.out (by kernel_rfl) (by rfl) (by kernel_rfl) ?_;generalize hY:w2.setRow w.heap.size (insRow I0).toArray=Y;have HRY:=Lh (show Y.heap[w.heap.size]? = some (.cells (insRow I0).toArray 40 (0,0)) from by rw [←hY];exact setRow_heap _ _ _ _ _ _ HR2.out);have HCY:=Lh (show CurAt 104 false win (w.heap.size+1) Y c1 from by rw [←hY];exact HC2.out.setRow (by omega) _);have HBY:=Lh (show Below w.heap.size w Y from by rw [←hY];exact Below.setRow HB2.out (Nat.le_refl _) _);clear hY) | (refine wpList_load_row rfl 40 _ rfl w.heap.size rfl 40 _ (0,0) _ HRY.out Tryz.underlying40 rfl (by kernel_rfl) ?_) | ((with_reducible refine (HEI.out _).mono ?_);rintro e_ w3 ⟨rfl,hb3⟩;have HR3:=Lh ((hb3.block _ (lt_of_block HRY.out)).trans HRY.out);have HC3:=Lh (HCY.out.chg (Chg.of_below (F:=fun _=>False) hb3) (fun h=>h));have HB3:=Lh (HBY.out.trans (hb3.mono HBY.out.size));clear hb3))
 obtain ⟨k0_,k1_,k2_,_,_⟩:=row3 HC3.out.blk
 rw [HNN.out] at k1_
 have k0_:w3.cell? ⟨(w.heap.size+1),0,none⟩=some (.string t):=k0_.trans (by unfold strB;rw [HT.out])
 have HS3:=Lh (show w3.cell? ⟨(w.heap.size+1),0,none⟩=some (.string t)∧w3.cell? ⟨(w.heap.size+1),1,none⟩=some (.int .i64 (nn:Nat))∧w3.cell? ⟨(w.heap.size+1),2,none⟩=some (.bool false) from ⟨k0_,k1_,k2_.trans (by rw [HLK.out];rfl)⟩)
 clear k0_ k1_ k2_
 (refine wp_region_lines (fun w_=>w_.cell? ⟨(w.heap.size+1),0,none⟩=some (.string t)∧w_.cell? ⟨(w.heap.size+1),1,none⟩=some (.int .i64 (nn:Nat))∧w_.cell? ⟨(w.heap.size+1),2,none⟩=some (.bool false)) (by kernel_rfl) (by kernel_rfl) HS3.out ?_)
 (try simp only [])
 repeat (first | (refine runL_no (by rfl) ?_;(try simp only [Act.put,List.setIfInBounds_toArray,List.set_cons_zero,List.set_cons_succ])) | (refine runL_val (v:=?_) (by rfl) ?_ ?_;rotate_left;(focus (intro w_ hw_;obtain ⟨f1_,f2_,f3_⟩:=hw_;go_simp;(try with_reducible rfl);done));(try simp only [Act.put,List.setIfInBounds_toArray,List.set_cons_zero,List.set_cons_succ])))
 (refine runL_nil ?_)
 go_wp2_with (first | (refine wpList_store_row rfl 40 _ _ rfl w.heap.size _ rfl rfl 40 _ HR3.out (by kernel_rfl) (by rfl) (by kernel_rfl) ?_))
 refine bodyPost_ret (results3 (ty:=40) rfl _ _ w.heap.size 40 _ (0,0) _ rfl (setRow_heap _ _ _ _ _ _ HR3.out) Tryz.underlying40 rfl (by kernel_rfl)) rfl ⟨rfl,?_⟩
 exact Below.setRow HB3.out.drew (Nat.le_refl _) _
set_option maxHeartbeats 8000000 in
theorem dIn_other {w:World} {a:Nat} {s t u:ByteArray} {win es:List UInt8} {I0:Ins} {c1:Cur} {er:Int} (ht:t=⟨win.toArray⟩) (hu:u=⟨es.toArray⟩) (hlt:a < s.size) (hl2:s.size≤1000000000) (hwl:win.length≤16) (fx:s.extract a (min (s.size:Int) ((a:Int)+16)).toNat=t)
   (HA:∀ w_,CurAt 104 false win (w.heap.size+1) w_ (natsB win,false)→Calls Tryz.prog 43 #[.pointer (some ⟨(w.heap.size+1),0,none⟩)] w_ (CurSay 104 false win (w.heap.size+1) w_ c1 (.agg (insRow I0).toArray)))
   (HEI:∀ w_,Calls Tryz.prog 44 #[.agg (insRow I0).toArray] w_ (fun e w'=>e=.returned (.tuple #[.string u,.int .i64 er])∧Below w_.heap.size w_ w'))
   (hlk:c1.2=false) (hne:er=0) (hes:es≠win.take (win.length - c1.1.length)):Calls Tryz.prog 24 #[.string s,.int .i64 a] w (fun e_ w_=>e_=.returned (.tuple #[.agg (insRow (insR 0 0 0 0 0)).toArray,.int .i64 0,.int .i64 4])∧Below w.heap.size w w_):=by
 have HT:=Lh ht
 have HU:=Lh hu
 have HWL:=Lh hwl
 have HA:=Lh HA
 have HEI:=Lh HEI
 have h0:¬ (a:Int) < 0:=by omega
 have d2:decide (s.size < a)=false:=decide_eq_false (by omega)
 have d3:((a:Int) ==(s.size:Int))=false:=beq_eq_false_iff_ne.2 (by omega)
 have HC0:=Lh (show CurAt 104 false win (w.heap.size+1) ((w.alloc (.cells [.int .i64 0,.int .i64 0,.int .i64 0,.int .i64 0,.int .i64 0,.int .i64 0,.int .i64 0,.int .i64 0,.int .i64 0].toArray 40)).alloc (.cells [.string t,.int .i64 0,.bool false].toArray 104)) (natsB win,false) from ⟨List.suffix_refl _,by
   have h1:=heap_alloc_new (w.alloc (.cells [.int .i64 0,.int .i64 0,.int .i64 0,.int .i64 0,.int .i64 0,.int .i64 0,.int .i64 0,.int .i64 0,.int .i64 0].toArray 40)) (.cells [.string t,.int .i64 0,.bool false].toArray 104)
   have h2:(w.alloc (.cells [.int .i64 0,.int .i64 0,.int .i64 0,.int .i64 0,.int .i64 0,.int .i64 0,.int .i64 0,.int .i64 0,.int .i64 0].toArray 40)).heap.size=w.heap.size+1:=by simp
   rw [h2] at h1
   rw [h1]
   unfold curV strB
   rw [natsB_len,Nat.sub_self,HT.out]
   rfl⟩)
 have HR0:=Lh (show ((w.alloc (.cells [.int .i64 0,.int .i64 0,.int .i64 0,.int .i64 0,.int .i64 0,.int .i64 0,.int .i64 0,.int .i64 0,.int .i64 0].toArray 40)).alloc (.cells [.string t,.int .i64 0,.bool false].toArray 104)).heap[w.heap.size]? = some (.cells [.int .i64 0,.int .i64 0,.int .i64 0,.int .i64 0,.int .i64 0,.int .i64 0,.int .i64 0,.int .i64 0,.int .i64 0].toArray 40 (0,0)) from (heap_alloc_old (w.alloc _) _ (by simp)).trans (heap_alloc_new w _))
 have HB0:=Lh (show Below w.heap.size w ((w.alloc (.cells [.int .i64 0,.int .i64 0,.int .i64 0,.int .i64 0,.int .i64 0,.int .i64 0,.int .i64 0,.int .i64 0,.int .i64 0].toArray 40)).alloc (.cells [.string t,.int .i64 0,.bool false].toArray 104)) from ((Below.refl _ _).alloc (Nat.le_refl _) _).alloc (by simp) _)
 clear ht hu hwl
 obtain ⟨nn,hnn⟩:∃ x,x=win.length - c1.1.length:=⟨_,rfl⟩
 have HNN:=Lh hnn.symm
 clear hnn
 have hnt:nn≤t.size:=by have h1:=HNN.out;have h2:t.size=win.length:=by { rw [HT.out];simp [ByteArray.size] };omega
 have hn16:nn≤16:=by have h1:=HNN.out;have:=HWL.out;omega
 have he_:(u=t.extract 0 nn)↔es=win.take (win.length - c1.1.length):=by rw [HU.out,HT.out,bytes_slice,HNN.out,Nat.sub_zero,List.drop_zero];exact byt_eq _ _
 have dd:(u.toList ==(t.extract 0 nn).toList)=false:=(Lib.bytes_beq_false_iff _ _).2 (fun h=>hes (he_.1 h))
 clear he_ hes
 have HLK:=Lh hlk
 subst hne
 clear hlk
 go_enter Tryz.func24,Tryz.ntmps24
 go_wp2_with (first | ((with_reducible refine (HA.out _ HC0.out).mono ?_);rintro e_ w2 ⟨rfl,hc2,hg2⟩;have HR2:=Lh (keepS hg2 (by omega) HR0.out);have HC2:=Lh hc2;have HB2:=Lh (HB0.out.trans (hg2.below (fun k hk e=>by have h9:k=w.heap.size+1:=e;omega) HB0.out.size));clear hc2 hg2) | (refine wpList_store_row rfl 40 _ _ rfl w.heap.size (insRow I0).toArray rfl rfl 40 _ HR2.out (by kernel_rfl) (by rfl) (by kernel_rfl) ?_;generalize hY:w2.setRow w.heap.size (insRow I0).toArray=Y;have HRY:=Lh (show Y.heap[w.heap.size]? = some (.cells (insRow I0).toArray 40 (0,0)) from by rw [←hY];exact setRow_heap _ _ _ _ _ _ HR2.out);have HCY:=Lh (show CurAt 104 false win (w.heap.size+1) Y c1 from by rw [←hY];exact HC2.out.setRow (by omega) _);have HBY:=Lh (show Below w.heap.size w Y from by rw [←hY];exact Below.setRow HB2.out (Nat.le_refl _) _);clear hY) | (refine wpList_load_row rfl 40 _ rfl w.heap.size rfl 40 _ (0,0) _ HRY.out Tryz.underlying40 rfl (by kernel_rfl) ?_) | ((with_reducible refine (HEI.out _).mono ?_);rintro e_ w3 ⟨rfl,hb3⟩;have HR3:=Lh ((hb3.block _ (lt_of_block HRY.out)).trans HRY.out);have HC3:=Lh (HCY.out.chg (Chg.of_below (F:=fun _=>False) hb3) (fun h=>h));have HB3:=Lh (HBY.out.trans (hb3.mono HBY.out.size));clear hb3))
 obtain ⟨k0_,k1_,k2_,_,_⟩:=row3 HC3.out.blk
 rw [HNN.out] at k1_
 have k0_:w3.cell? ⟨(w.heap.size+1),0,none⟩=some (.string t):=k0_.trans (by unfold strB;rw [HT.out])
 have HS3:=Lh (show w3.cell? ⟨(w.heap.size+1),0,none⟩=some (.string t)∧w3.cell? ⟨(w.heap.size+1),1,none⟩=some (.int .i64 (nn:Nat))∧w3.cell? ⟨(w.heap.size+1),2,none⟩=some (.bool false) from ⟨k0_,k1_,k2_.trans (by rw [HLK.out];rfl)⟩)
 clear k0_ k1_ k2_
 (refine wp_region_lines (fun w_=>w_.cell? ⟨(w.heap.size+1),0,none⟩=some (.string t)∧w_.cell? ⟨(w.heap.size+1),1,none⟩=some (.int .i64 (nn:Nat))∧w_.cell? ⟨(w.heap.size+1),2,none⟩=some (.bool false)) (by kernel_rfl) (by kernel_rfl) HS3.out ?_)
 (try simp only [])
 repeat (first | (refine runL_no (by rfl) ?_;(try simp only [Act.put,List.setIfInBounds_toArray,List.set_cons_zero,List.set_cons_succ])) | (refine runL_val (v:=?_) (by rfl) ?_ ?_;rotate_left;(focus (intro w_ hw_;obtain ⟨f1_,f2_,f3_⟩:=hw_;go_simp;(try with_reducible rfl);done));(try simp only [Act.put,List.setIfInBounds_toArray,List.set_cons_zero,List.set_cons_succ])))
 (refine runL_nil ?_)
 go_wp2_with (first | (refine wpList_store_row rfl 40 _ _ rfl w.heap.size _ rfl rfl 40 _ HR3.out (by kernel_rfl) (by rfl) (by kernel_rfl) ?_))
 refine bodyPost_ret (results3 (ty:=40) rfl _ _ w.heap.size 40 _ (0,0) _ rfl (setRow_heap _ _ _ _ _ _ HR3.out) Tryz.underlying40 rfl (by kernel_rfl)) rfl ⟨rfl,?_⟩
 exact Below.setRow HB3.out.drew (Nat.le_refl _) _
set_option maxHeartbeats 8000000 in
theorem dIn_ok {w:World} {a:Nat} {s t u:ByteArray} {win es:List UInt8} {I0:Ins} {c1:Cur} {er:Int} (ht:t=⟨win.toArray⟩) (hu:u=⟨es.toArray⟩) (hlt:a < s.size) (hl2:s.size≤1000000000) (hwl:win.length≤16) (fx:s.extract a (min (s.size:Int) ((a:Int)+16)).toNat=t)
   (HA:∀ w_,CurAt 104 false win (w.heap.size+1) w_ (natsB win,false)→Calls Tryz.prog 43 #[.pointer (some ⟨(w.heap.size+1),0,none⟩)] w_ (CurSay 104 false win (w.heap.size+1) w_ c1 (.agg (insRow I0).toArray)))
   (HEI:∀ w_,Calls Tryz.prog 44 #[.agg (insRow I0).toArray] w_ (fun e w'=>e=.returned (.tuple #[.string u,.int .i64 er])∧Below w_.heap.size w_ w'))
   (hlk:c1.2=false) (hne:er=0) (hes:es=win.take (win.length - c1.1.length)):Calls Tryz.prog 24 #[.string s,.int .i64 a] w (fun e_ w_=>e_=.returned (.tuple #[.agg (insRow (I0)).toArray,.int .i64 (win.length - c1.1.length:Nat),.int .i64 0])∧Below w.heap.size w w_):=by
 have HT:=Lh ht
 have HU:=Lh hu
 have HWL:=Lh hwl
 have HA:=Lh HA
 have HEI:=Lh HEI
 have h0:¬ (a:Int) < 0:=by omega
 have d2:decide (s.size < a)=false:=decide_eq_false (by omega)
 have d3:((a:Int) ==(s.size:Int))=false:=beq_eq_false_iff_ne.2 (by omega)
 have HC0:=Lh (show CurAt 104 false win (w.heap.size+1) ((w.alloc (.cells [.int .i64 0,.int .i64 0,.int .i64 0,.int .i64 0,.int .i64 0,.int .i64 0,.int .i64 0,.int .i64 0,.int .i64 0].toArray 40)).alloc (.cells [.string t,.int .i64 0,.bool false].toArray 104)) (natsB win,false) from ⟨List.suffix_refl _,by
   have h1:=heap_alloc_new (w.alloc (.cells [.int .i64 0,.int .i64 0,.int .i64 0,.int .i64 0,.int .i64 0,.int .i64 0,.int .i64 0,.int .i64 0,.int .i64 0].toArray 40)) (.cells [.string t,.int .i64 0,.bool false].toArray 104)
   have h2:(w.alloc (.cells [.int .i64 0,.int .i64 0,.int .i64 0,.int .i64 0,.int .i64 0,.int .i64 0,.int .i64 0,.int .i64 0,.int .i64 0].toArray 40)).heap.size=w.heap.size+1:=by simp
   rw [h2] at h1
   rw [h1]
   unfold curV strB
   rw [natsB_len,Nat.sub_self,HT.out]
   rfl⟩)
 have HR0:=Lh (show ((w.alloc (.cells [.int .i64 0,.int .i64 0,.int .i64 0,.int .i64 0,.int .i64 0,.int .i64 0,.int .i64 0,.int .i64 0,.int .i64 0].toArray 40)).alloc (.cells [.string t,.int .i64 0,.bool false].toArray 104)).heap[w.heap.size]? = some (.cells [.int .i64 0,.int .i64 0,.int .i64 0,.int .i64 0,.int .i64 0,.int .i64 0,.int .i64 0,.int .i64 0,.int .i64 0].toArray 40 (0,0)) from (heap_alloc_old (w.alloc _) _ (by simp)).trans (heap_alloc_new w _))
 have HB0:=Lh (show Below w.heap.size w ((w.alloc (.cells [.int .i64 0,.int .i64 0,.int .i64 0,.int .i64 0,.int .i64 0,.int .i64 0,.int .i64 0,.int .i64 0,.int .i64 0].toArray 40)).alloc (.cells [.string t,.int .i64 0,.bool false].toArray 104)) from ((Below.refl _ _).alloc (Nat.le_refl _) _).alloc (by simp) _)
 clear ht hu hwl
 obtain ⟨nn,hnn⟩:∃ x,x=win.length - c1.1.length:=⟨_,rfl⟩
 have HNN:=Lh hnn.symm
 clear hnn
 have hnt:nn≤t.size:=by have h1:=HNN.out;have h2:t.size=win.length:=by { rw [HT.out];simp [ByteArray.size] };omega
 have hn16:nn≤16:=by have h1:=HNN.out;have:=HWL.out;omega
 have he_:(u=t.extract 0 nn)↔es=win.take (win.length - c1.1.length):=by rw [HU.out,HT.out,bytes_slice,HNN.out,Nat.sub_zero,List.drop_zero];exact byt_eq _ _
 have dd:(u.toList ==(t.extract 0 nn).toList)=true:=(Lib.bytes_beq_iff _ _).2 (he_.2 hes)
 clear he_ hes
 have HLK:=Lh hlk
 subst hne
 clear hlk
 go_enter Tryz.func24,Tryz.ntmps24
 go_wp2_with (first | ((with_reducible refine (HA.out _ HC0.out).mono ?_);rintro e_ w2 ⟨rfl,hc2,hg2⟩;have HR2:=Lh (keepS hg2 (by omega) HR0.out);have HC2:=Lh hc2;have HB2:=Lh (HB0.out.trans (hg2.below (fun k hk e=>by have h9:k=w.heap.size+1:=e;omega) HB0.out.size));clear hc2 hg2) | (refine wpList_store_row rfl 40 _ _ rfl w.heap.size (insRow I0).toArray rfl rfl 40 _ HR2.out (by kernel_rfl) (by rfl) (by kernel_rfl) ?_;generalize hY:w2.setRow w.heap.size (insRow I0).toArray=Y;have HRY:=Lh (show Y.heap[w.heap.size]? = some (.cells (insRow I0).toArray 40 (0,0)) from by rw [←hY];exact setRow_heap _ _ _ _ _ _ HR2.out);have HCY:=Lh (show CurAt 104 false win (w.heap.size+1) Y c1 from by rw [←hY];exact HC2.out.setRow (by omega) _);have HBY:=Lh (show Below w.heap.size w Y from by rw [←hY];exact Below.setRow HB2.out (Nat.le_refl _) _);clear hY) | (refine wpList_load_row rfl 40 _ rfl w.heap.size rfl 40 _ (0,0) _ HRY.out Tryz.underlying40 rfl (by kernel_rfl) ?_) | ((with_reducible refine (HEI.out _).mono ?_);rintro e_ w3 ⟨rfl,hb3⟩;have HR3:=Lh ((hb3.block _ (lt_of_block HRY.out)).trans HRY.out);have HC3:=Lh (HCY.out.chg (Chg.of_below (F:=fun _=>False) hb3) (fun h=>h));have HB3:=Lh (HBY.out.trans (hb3.mono HBY.out.size));clear hb3))
 obtain ⟨k0_,k1_,k2_,_,_⟩:=row3 HC3.out.blk
 rw [HNN.out] at k1_
 have k0_:w3.cell? ⟨(w.heap.size+1),0,none⟩=some (.string t):=k0_.trans (by unfold strB;rw [HT.out])
 have HS3:=Lh (show w3.cell? ⟨(w.heap.size+1),0,none⟩=some (.string t)∧w3.cell? ⟨(w.heap.size+1),1,none⟩=some (.int .i64 (nn:Nat))∧w3.cell? ⟨(w.heap.size+1),2,none⟩=some (.bool false) from ⟨k0_,k1_,k2_.trans (by rw [HLK.out];rfl)⟩)
 clear k0_ k1_ k2_
 (refine wp_region_lines (fun w_=>w_.cell? ⟨(w.heap.size+1),0,none⟩=some (.string t)∧w_.cell? ⟨(w.heap.size+1),1,none⟩=some (.int .i64 (nn:Nat))∧w_.cell? ⟨(w.heap.size+1),2,none⟩=some (.bool false)) (by kernel_rfl) (by kernel_rfl) HS3.out ?_)
 (try simp only [])
 repeat (first | (refine runL_no (by rfl) ?_;(try simp only [Act.put,List.setIfInBounds_toArray,List.set_cons_zero,List.set_cons_succ])) | (refine runL_val (v:=?_) (by rfl) ?_ ?_;rotate_left;(focus (intro w_ hw_;obtain ⟨f1_,f2_,f3_⟩:=hw_;go_simp;(try with_reducible rfl);done));(try simp only [Act.put,List.setIfInBounds_toArray,List.set_cons_zero,List.set_cons_succ])))
 (refine runL_nil ?_)
 go_wp2
 have HR4:=Lh (show w3.drew.heap[w.heap.size]? = some (.cells (insRow I0).toArray 40 (0,0)) from HR3.out)
 have HS4:=Lh (show (w3.drew.setRow w.heap.size (insRow I0).toArray).cell? ⟨(w.heap.size+1),1,none⟩=some (.int .i64 (nn:Nat))∧(w3.drew.setRow w.heap.size (insRow I0).toArray).heap[w.heap.size]? = some (.cells (insRow I0).toArray 40 (0,0)) from ⟨by rw [←HS3.out.2.1];unfold World.cell?;rw [setRow_other _ _ _ _ (show w.heap.size+1≠w.heap.size by omega)];rfl,setRow_heap _ _ _ _ _ _ HR4.out⟩)
 (refine wp_region_lines (fun w_=>w_.cell? ⟨(w.heap.size+1),1,none⟩=some (.int .i64 (nn:Nat))∧w_.heap[w.heap.size]? = some (.cells (insRow I0).toArray 40 (0,0))) (by kernel_rfl) (by kernel_rfl) ⟨HS3.out.2.1,HR4.out⟩ ?_)
 (try simp only [])
 repeat (first | (refine runL_no (by rfl) ?_;(try simp only [Act.put,List.setIfInBounds_toArray,List.set_cons_zero,List.set_cons_succ])) | (refine runL_val (v:=?_) (by rfl) ?_ ?_;rotate_left;(focus (intro w_ hw_;have f1_:=hw_.1;go_simp;(try with_reducible rfl);done));(try simp only [Act.put,List.setIfInBounds_toArray,List.set_cons_zero,List.set_cons_succ])) | (refine runL_val (v:=.agg (insRow I0).toArray) (by rfl) (fun w_ hw_=>exec_load_row 40 _ rfl w.heap.size rfl _ _ (0,0) hw_.2 _ Tryz.underlying40 rfl (by kernel_rfl)) ?_;(try simp only [Act.put,List.setIfInBounds_toArray,List.set_cons_zero,List.set_cons_succ])) | (refine runL_skip (w1:=w3.drew.drew.setRow w.heap.size (insRow I0).toArray) (by rfl) (by rfl) (exec_store_row 40 _ _ rfl w.heap.size _ rfl rfl 40 _ HR4.out (by kernel_rfl) rfl (by kernel_rfl)) (.inr HS4.out) ?_;(try simp only [Act.put])))
 (refine runL_nil ?_)
 go_wp2
 refine bodyPost_ret (results3 (ty:=40) rfl _ _ w.heap.size 40 _ (0,0) _ rfl (setRow_heap _ _ _ _ _ _ HR4.out) Tryz.underlying40 rfl (by kernel_rfl)) rfl ⟨by rw [HNN.out];rfl,?_⟩
 exact Below.setRow HB3.out.drew.drew (Nat.le_refl _) _
def AllB (l:List Nat):Prop:=∀ x∈l,x < 256
theorem allB_nil:AllB []:=fun x hx=>by cases hx
theorem allB_cons {a:Nat} {l:List Nat} (h:a < 256) (hl:AllB l):AllB (a :: l):=fun x hx=>by
 rcases List.mem_cons.1 hx with rfl | hx
 · exact h
 · exact hl x hx
theorem allB_ite {c:Prop} [Decidable c] {a b:List Nat} (ha:c→AllB a) (hb:¬ c→AllB b):AllB (if c then a else b):=by
 by_cases h:c
 · rw [if_pos h];exact ha h
 · rw [if_neg h];exact hb h
theorem hasOk_in {b:Bool} {r:Int} (h:hasOk b r=true):0≤r∧r < 16:=by
 cases b with
 | true=>exact reg_yes h
 | false=>have:=reg_no h;omega
theorem rrF_byte (op:Int):rrF op < 256:=by
 unfold rrF
 repeat' split
 all_goals decide
theorem enc_bytes {i:Ins} (h:chkI i=true):AllB (encF i):=by
 obtain ⟨hd,hs,ht,hm,k,e,h1,h2,h3,h4,_,_⟩:=chkI_fields h
 have d:=hasOk_in h1
 have s:=hasOk_in h2
 have t:=hasOk_in h3
 have hp:(i.op=3∨i.op=4∨i.op=5)→PlcOk i:=by
   intro ho
   unfold formI at e
   rw [if_neg (by omega),if_neg (by omega)] at e
   by_cases h35:i.op=3∨i.op=5
   · rw [if_pos h35] at e
     cases e
     exact place_yes h4
   · rw [if_neg h35,if_pos (by omega)] at e
     cases e
     exact place_yes h4
 have r1:=rex_byte (m:=0) (x:=0) (by decide) (by decide) d.2
 have r2:=rex_byte (x:=0) s.2 (by decide) d.2
 have r3:=rex_byte (x:=0) d.2 (by decide) s.2
 have l1:=lo3_lt i.d
 have l2:=lo3_lt i.s
 have g1:=hi3_lt d.2
 have g2:=hi3_lt t.2
 have rr:=rrF_byte i.op
 unfold encF
 repeat' (with_reducible first | exact allB_nil | refine allB_cons ?_ ?_ | refine allB_ite (fun h_=>?_) (fun h_=>?_))
 all_goals first
     | exact little_byte _ _
     | exact placeY_byte _ _ (hp (by omega))
     | exact both_byte _ _
     | omega
     | exact rex_byte d.2 (hp (by omega)).lt (hp (by omega)).base.2
     | exact rex_byte s.2 (hp (by omega)).lt (hp (by omega)).base.2
theorem natsB_drop (l:List UInt8) (n:Nat):(natsB l).drop n=natsB (l.drop n):=by unfold natsB;rw [List.map_drop]
theorem natsB_take (l:List UInt8) (n:Nat):(natsB l).take n=natsB (l.take n):=by unfold natsB;rw [List.map_take]
theorem natsB_lt (l:List UInt8):∀ b∈natsB l,b < 256:=by
 intro x hx
 unfold natsB at hx
 obtain ⟨y,_,rfl⟩:=List.mem_map.1 hx
 exact y.toNat_lt
theorem toB_natsB (l:List UInt8):toB (natsB l)=l:=by
 unfold toB natsB
 rw [List.map_map]
 conv=>rhs;rw [←List.map_id l]
 refine List.map_congr_left fun x _=>?_
 simp
theorem natsB_toB {l:List Nat} (h:∀ b∈l,b < 256):natsB (toB l)=l:=by
 unfold toB natsB
 rw [List.map_map]
 conv=>rhs;rw [←List.map_id l]
 refine List.map_congr_left fun x hx=>?_
 have:=h x hx
 simp
 omega
theorem dInst_any {code:List UInt8} {w:World} {a:Int} (hl:code.length≤1000000000) (ha:-9223372036854775808≤a∧a≤9223372036854775807):Calls Tryz.prog 24 #[strB code,.int .i64 a] w fun e w'=>e=.returned (.tuple #[.agg (insRow (decR code a).1).toArray,.int .i64 (decR code a).2.1,.int .i64 (decR code a).2.2])∧Below w.heap.size w w':=by
 by_cases h1:a < 0∨(code.length:Int) < a
 · have e:decR code a=(insR 0 0 0 0 0,0,2):=by unfold decR;rw [if_pos h1]
   rw [e]
   exact dInst_arg ha h1
 obtain ⟨n,rfl⟩:∃ n:Nat,a=n:=⟨a.toNat,by omega⟩
 by_cases h2:n=code.length
 · have e:decR code (n:Int)=(insR 0 0 0 0 0,0,8):=by unfold decR;rw [if_neg h1,if_pos (by omega)]
   rw [e]
   exact dInst_more hl h2
 have h3:n < code.length:=by omega
 obtain ⟨win,hwin⟩:∃ x,x=(code.drop n).take 16:=⟨_,rfl⟩
 have hwl:win.length≤16:=by rw [hwin];exact List.length_take_le _ _
 obtain ⟨r,hr⟩:∃ r,r=anyC (win.length+1) (natsB win,false):=⟨_,rfl⟩
 have hdec:decF ((natsB code).drop n)=instP r (natsB win):=by
   have hn:(natsB win)=((natsB code).drop n).take 16:=by rw [hwin,natsB_drop,natsB_take]
   have:=decF_any (s:=(natsB code).drop n) (by rw [natsB_drop];exact natsB_lt _)
   rw [←this,←hn,hr,natsB_len]
 have hok:CurOk (natsB win,false):=natsB_lt win
 have hi:InsOk r.1:=by rw [hr];exact any_insOk _ hok
 have he:decR code (n:Int)=match instP r (natsB win) with | none=>(insR 0 0 0 0 0,0,4) | some x=>(x.1,x.2,0):=by
   unfold decR
   rw [if_neg h1,if_neg (by omega),←hdec]
   rfl
 have hA:∀ w_,CurAt 104 false win (w.heap.size+1) w_ (natsB win,false)→Calls Tryz.prog 43 #[.pointer (some ⟨w.heap.size+1,0,none⟩)] w_ (CurSay 104 false win (w.heap.size+1) w_ r.2 (.agg (insRow r.1).toArray)):=by
   intro w_ h_
   rw [hr]
   exact danyF_any (by omega) win.length _ _ (by rw [natsB_len];exact Nat.le_refl _) h_
 have hE:∀ w_,Calls Tryz.prog 44 #[.agg (insRow r.1).toArray] w_ (fun e w'=>e=.returned (.tuple #[.string ⟨(if chkP r.1 then toB (encF r.1) else []).toArray⟩,.int .i64 (errOf (chkP r.1))])∧Below w_.heap.size w_ w'):=fun w_=>encInst_any r.1 hi w_
 have hs:(ByteArray.mk code.toArray).size=code.length:=by simp [ByteArray.size]
 have fx:(ByteArray.mk code.toArray).extract n (min ((ByteArray.mk code.toArray).size:Int) ((n:Int)+16)).toNat=⟨win.toArray⟩:=by
   rw [bytes_slice,hwin,hs]
   congr 2
   rw [List.take_eq_take_iff,List.length_drop]
   omega
 have hlen:r.2.1.length≤win.length:=by
   rw [hr]
   have:=any_less (win.length+1) (natsB win,false)
   unfold LessC at this
   rwa [natsB_len] at this
 show Calls _ _ #[.string ⟨code.toArray⟩,_] _ _
 rw [he]
 unfold instP
 by_cases hk:r.2.2=true
 · rw [if_pos (.inl hk)]
   exact dIn_lacks rfl rfl (by rw [hs];exact h3) (by rw [hs];exact hl) hwl fx hA hE hk
 have hk2:r.2.2=false:=by simpa using hk
 cases hc:chkI r.1 with
 | false =>
   rw [if_pos (.inr (.inl rfl))]
   exact dIn_bad rfl rfl (by rw [hs];exact h3) (by rw [hs];exact hl) hwl fx hA hE hk2 (by rw [chk_eq,hc];rfl)
 | true =>
   have hes:(if chkP r.1 then toB (encF r.1) else [])=toB (encF r.1):=by rw [chk_eq,hc];rfl
   rw [hes] at hE
   have hiff:toB (encF r.1)=win.take (win.length - r.2.1.length)↔encF r.1=(natsB win).take ((natsB win).length - r.2.1.length):=by
     rw [natsB_take,natsB_len]
     constructor
     · intro h
       have h4:=congrArg natsB h
       rwa [natsB_toB (enc_bytes hc)] at h4
     · intro h
       have h4:=congrArg toB h
       rwa [toB_natsB] at h4
   by_cases hq:encF r.1=(natsB win).take ((natsB win).length - r.2.1.length)
   · rw [if_neg (by rintro (h | h | h);exact hk h;cases h;exact h hq),natsB_len]
     exact dIn_ok rfl rfl (by rw [hs];exact h3) (by rw [hs];exact hl) hwl fx hA hE hk2 (by rw [chk_eq,hc];rfl) (hiff.2 hq)
   · rw [if_pos (.inr (.inr hq))]
     exact dIn_other rfl rfl (by rw [hs];exact h3) (by rw [hs];exact hl) hwl fx hA hE hk2 (by rw [chk_eq,hc];rfl) (fun h=>hq (hiff.1 h))
end Go.Proofs.YtocndimihokcmaaGreat
namespace Go.Proofs.YtocndimihokcmaaGreat
structure RunR where
 st:St
 steps:Nat
 err:Int
 evs:List Ev
 rs:List Reg
def fetchF (code:List Nat) (pc:Nat):Option (Ins×Nat):=if pc < 4194304∨code.length≤pc - 4194304 then none else decF (code.drop (pc - 4194304))
def runF (code:List Nat):Nat→St→List Reg→Nat→RunR
 | 0,s,rs,n=>if s.pc=1 then ⟨s,n,0,[],rs⟩ else ⟨s,n,10,[],rs⟩
 | f+1,s,rs,n=>if s.pc=1 then ⟨s,n,0,[],rs⟩ else match fetchF code s.pc with
   | none=>⟨s,n,11,[],rs⟩
   | some x=>if (stepF s x.1 x.2 rs).code≠0 then ⟨s,n,11,[],rs⟩ else
     let q:=runF code f (stepF s x.1 x.2 rs).st (stepF s x.1 x.2 rs).rs (n+1)
     { q with evs:=(stepF s x.1 x.2 rs).evs++q.evs }
theorem runF_home {code:List Nat} {f:Nat} {s:St} {rs:List Reg} {n:Nat} (h:s.pc=1):runF code f s rs n=⟨s,n,0,[],rs⟩:=by
 cases f <;> (unfold runF;rw [if_pos h])
theorem runF_full {code:List Nat} {s:St} {rs:List Reg} {n:Nat} (h:s.pc≠1):runF code 0 s rs n=⟨s,n,10,[],rs⟩:=by
 unfold runF;rw [if_neg h]
theorem runF_none {code:List Nat} {f:Nat} {s:St} {rs:List Reg} {n:Nat} (h:s.pc≠1) (hf:fetchF code s.pc=none):runF code (f+1) s rs n=⟨s,n,11,[],rs⟩:=by
 unfold runF;rw [if_neg h,hf]
theorem runF_bad {code:List Nat} {f:Nat} {s:St} {rs:List Reg} {n:Nat} {i:Ins} {k:Nat} (h:s.pc≠1) (hf:fetchF code s.pc=some (i,k)) (hs:(stepF s i k rs).code≠0):runF code (f+1) s rs n=⟨s,n,11,[],rs⟩:=by
 unfold runF;rw [if_neg h,hf];exact if_pos hs
theorem runF_step {code:List Nat} {f:Nat} {s:St} {rs:List Reg} {n:Nat} {i:Ins} {k:Nat} (h:s.pc≠1) (hf:fetchF code s.pc=some (i,k)) (hs:(stepF s i k rs).code=0) :
   runF code (f+1) s rs n={ runF code f (stepF s i k rs).st (stepF s i k rs).rs (n+1) with evs:=(stepF s i k rs).evs++(runF code f (stepF s i k rs).st (stepF s i k rs).rs (n+1)).evs }:=by
 conv=>lhs;unfold runF
 rw [if_neg h,hf];exact if_neg (fun h=>h hs)
theorem fetch_more {code b:List Nat} {pc:Nat} {x:Ins×Nat} (hb:∀ y∈code,y < 256) (h:fetchF code pc=some x):fetchF (code++b) pc=some x:=by
 unfold fetchF at h ⊢
 split at h
 · cases h
 · rename_i hn
   rw [if_neg (by rw [List.length_append];omega),List.drop_append_of_le_length (by omega)]
   exact decF_more (fun y hy=>hb y (List.mem_of_mem_drop hy)) h b
theorem run_more {code b:List Nat} (hb:∀ y∈code,y < 256):∀ f s rs n,(runF code f s rs n).err=0→runF (code++b) f s rs n=runF code f s rs n:=by
 intro f
 induction f with
 | zero =>
   intro s rs n _
   unfold runF;rfl
 | succ f ih =>
   intro s rs n h
   by_cases hh:s.pc=1
   · rw [runF_home hh,runF_home hh]
   · cases hf:fetchF code s.pc with
     | none=>rw [runF_none hh hf] at h;cases h
     | some x =>
       obtain ⟨i,k⟩:=x
       by_cases hs:(stepF s i k rs).code=0
       · rw [runF_step hh hf hs] at h ⊢
         rw [runF_step hh (fetch_more hb hf) hs,ih _ _ _ h]
       · rw [runF_bad hh hf hs] at h;cases h
end Go.Proofs.YtocndimihokcmaaGreat
namespace Go.Proofs.YtocndimihokcmaaGreat
open Go.RowKit
set_option maxRecDepth 100000
def fetchR (code:List UInt8) (pc:Nat):Ins×Int×Int:=match fetchF (natsB code) pc with
 | none=>(insR 0 0 0 0 0,0,11)
 | some x=>(x.1,x.2,0)
set_option maxHeartbeats 4000000 in
theorem fetch_low {s:ByteArray} {p:Int} {w:World} (h:p < 4194304):Calls Tryz.prog 10 #[.string s,.int .u64 p] w (fun e_ w_=>e_=.returned (.tuple #[.agg (insRow (insR 0 0 0 0 0)).toArray,.int .i64 0,.int .i64 11])∧Below w.heap.size w w_):=by
 have d1:decide (p < 4194304)=true:=decide_eq_true h
 go_enter Tryz.func10,Tryz.ntmps10
 go_wp2
 refine bodyPost_ret (results3 (ty:=40) rfl _ _ w.heap.size 40 _ (0,0) _ rfl (heap_alloc_new w _) Tryz.underlying40 rfl (by kernel_rfl)) rfl ⟨rfl,(Below.refl _ _).alloc (Nat.le_refl _) _⟩
set_option maxHeartbeats 4000000 in
theorem fetch_high {s:ByteArray} {p:Int} {w:World} (h0:0≤p) (hs:s.size≤1000000000) (hp:p < 18446744073709551616) (h:¬ p < 4194304) (h2:(s.size:Int)≤p - 4194304):Calls Tryz.prog 10 #[.string s,.int .u64 p] w (fun e_ w_=>e_=.returned (.tuple #[.agg (insRow (insR 0 0 0 0 0)).toArray,.int .i64 0,.int .i64 11])∧Below w.heap.size w w_):=by
 have d1:decide (p < 4194304)=false:=decide_eq_false h
 have h3:4194304≤p:=by omega
 have d2:decide ((s.size:Int)≤p - 4194304)=true:=decide_eq_true (by omega)
 go_enter Tryz.func10,Tryz.ntmps10
 go_wp2
 refine bodyPost_ret (results3 (ty:=40) rfl _ _ w.heap.size 40 _ (0,0) _ rfl (heap_alloc_new w _) Tryz.underlying40 rfl (by kernel_rfl)) rfl ⟨rfl,(Below.refl _ _).alloc (Nat.le_refl _) _⟩
set_option maxHeartbeats 4000000 in
theorem fetch_no {s:ByteArray} {p:Int} {w:World} {I:Ins} {n e0:Int} (hs:s.size≤1000000000) (h:¬ p < 4194304) (h2:p - 4194304 < s.size) (HD:∀ w_,Calls Tryz.prog 24 #[.string s,.int .i64 (p - 4194304)] w_ fun e w'=>e=.returned (.tuple #[.agg (insRow I).toArray,.int .i64 n,.int .i64 e0])∧Below w_.heap.size w_ w') (he:e0≠0):Calls Tryz.prog 10 #[.string s,.int .u64 p] w (fun e_ w_=>e_=.returned (.tuple #[.agg (insRow (insR 0 0 0 0 0)).toArray,.int .i64 0,.int .i64 11])∧Below w.heap.size w w_):=by
 have d1:decide (p < 4194304)=false:=decide_eq_false h
 have h3:4194304≤p:=by omega
 have hp:p≤2000000000:=by omega
 have d2:decide ((s.size:Int)≤p - 4194304)=false:=decide_eq_false (by omega)
 have HD:=Lh HD
 have HR0:=Lh (heap_alloc_new w (.cells #[.int .i64 0,.int .i64 0,.int .i64 0,.int .i64 0,.int .i64 0,.int .i64 0,.int .i64 0,.int .i64 0,.int .i64 0] 40))
 have HB0:=Lh ((Below.refl w.heap.size w).alloc (Nat.le_refl _) (.cells #[.int .i64 0,.int .i64 0,.int .i64 0,.int .i64 0,.int .i64 0,.int .i64 0,.int .i64 0,.int .i64 0,.int .i64 0] 40))
 clear h2
 have d3:(e0 == 0)=false:=beq_eq_false_iff_ne.2 he
 have d4:(e0 != 0)=true:=bne_iff_ne.2 he
 go_enter Tryz.func10,Tryz.ntmps10
 go_wp2_with (first | ((with_reducible refine (HD.out _).mono ?_);rintro e_ w1 ⟨rfl,hb1⟩;have HR1:=Lh ((hb1.block _ (by simp)).trans HR0.out);have HB1:=Lh (HB0.out.trans (hb1.mono (by simp)));clear hb1) | (refine wpList_store_row rfl 40 _ _ rfl w.heap.size _ rfl rfl 40 _ (HR1.out) (by kernel_rfl) (by rfl) (by kernel_rfl) ?_) | (refine wpList_store_row rfl 40 _ _ rfl w.heap.size _ rfl rfl 40 _ (setRow_heap _ _ _ _ _ _ (HR1.out)) (by kernel_rfl) (by rfl) (by kernel_rfl) ?_))
 refine bodyPost_ret (results3 (ty:=40) rfl _ _ w.heap.size 40 _ (0,0) _ rfl (setRow_heap _ _ _ _ _ _ (setRow_heap _ _ _ _ _ _ (HR1.out))) Tryz.underlying40 rfl (by kernel_rfl)) rfl ⟨rfl,?_⟩
 exact Below.setRow (Below.setRow HB1.out (Nat.le_refl _) _) (Nat.le_refl _) _
set_option maxHeartbeats 4000000 in
theorem fetch_yes {s:ByteArray} {p:Int} {w:World} {I:Ins} {n e0:Int} (hs:s.size≤1000000000) (h:¬ p < 4194304) (h2:p - 4194304 < s.size) (HD:∀ w_,Calls Tryz.prog 24 #[.string s,.int .i64 (p - 4194304)] w_ fun e w'=>e=.returned (.tuple #[.agg (insRow I).toArray,.int .i64 n,.int .i64 e0])∧Below w_.heap.size w_ w') (he:e0=0):Calls Tryz.prog 10 #[.string s,.int .u64 p] w (fun e_ w_=>e_=.returned (.tuple #[.agg (insRow (I)).toArray,.int .i64 n,.int .i64 0])∧Below w.heap.size w w_):=by
 have d1:decide (p < 4194304)=false:=decide_eq_false h
 have h3:4194304≤p:=by omega
 have hp:p≤2000000000:=by omega
 have d2:decide ((s.size:Int)≤p - 4194304)=false:=decide_eq_false (by omega)
 have HD:=Lh HD
 have HR0:=Lh (heap_alloc_new w (.cells #[.int .i64 0,.int .i64 0,.int .i64 0,.int .i64 0,.int .i64 0,.int .i64 0,.int .i64 0,.int .i64 0,.int .i64 0] 40))
 have HB0:=Lh ((Below.refl w.heap.size w).alloc (Nat.le_refl _) (.cells #[.int .i64 0,.int .i64 0,.int .i64 0,.int .i64 0,.int .i64 0,.int .i64 0,.int .i64 0,.int .i64 0,.int .i64 0] 40))
 clear h2
 subst he
 go_enter Tryz.func10,Tryz.ntmps10
 go_wp2_with (first | ((with_reducible refine (HD.out _).mono ?_);rintro e_ w1 ⟨rfl,hb1⟩;have HR1:=Lh ((hb1.block _ (by simp)).trans HR0.out);have HB1:=Lh (HB0.out.trans (hb1.mono (by simp)));clear hb1) | (refine wpList_store_row rfl 40 _ _ rfl w.heap.size _ rfl rfl 40 _ (HR1.out) (by kernel_rfl) (by rfl) (by kernel_rfl) ?_) | (refine wpList_load_row rfl 40 _ rfl w.heap.size rfl 40 _ (0,0) _ (setRow_heap _ _ _ _ _ _ (HR1.out)) Tryz.underlying40 rfl (by kernel_rfl) ?_) | (refine wpList_store_row rfl 40 _ _ rfl w.heap.size _ rfl rfl 40 _ (setRow_heap _ _ _ _ _ _ (HR1.out)) (by kernel_rfl) (by rfl) (by kernel_rfl) ?_))
 refine bodyPost_ret (results3 (ty:=40) rfl _ _ w.heap.size 40 _ (0,0) _ rfl (setRow_heap _ _ _ _ _ _ (setRow_heap _ _ _ _ _ _ (HR1.out))) Tryz.underlying40 rfl (by kernel_rfl)) rfl ⟨rfl,?_⟩
 exact Below.setRow (Below.setRow HB1.out (Nat.le_refl _) _) (Nat.le_refl _) _
theorem Fetch_any {code:List UInt8} {pc:Nat} {w:World} (hl:code.length≤1000000000) (hp:pc < 18446744073709551616):Calls Tryz.prog 10 #[strB code,.int .u64 pc] w fun e w'=>e=.returned (.tuple #[.agg (insRow (fetchR code pc).1).toArray,.int .i64 (fetchR code pc).2.1,.int .i64 (fetchR code pc).2.2])∧Below w.heap.size w w':=by
 have hsz:(ByteArray.mk code.toArray).size=code.length:=by simp [ByteArray.size]
 show Calls _ _ #[.string ⟨code.toArray⟩,_] _ _
 obtain ⟨p,hpp⟩:∃ p:Int,p=(pc:Int):=⟨_,rfl⟩
 rw [←hpp]
 by_cases h:p < 4194304
 · have e:fetchR code pc=(insR 0 0 0 0 0,0,11):=by
     unfold fetchR fetchF
     rw [if_pos (.inl (by omega))]
   rw [e]
   exact fetch_low h
 by_cases h2:(code.length:Int)≤p - 4194304
 · have e:fetchR code pc=(insR 0 0 0 0 0,0,11):=by
     unfold fetchR fetchF
     rw [natsB_len,if_pos (.inr (by omega))]
   rw [e]
   exact fetch_high (by omega) (by rw [hsz];exact hl) (by omega) h (by rw [hsz];exact h2)
 have hd:=fun w_=>dInst_any (code:=code) (w:=w_) (a:=p - 4194304) hl (by omega)
 have hf:fetchF (natsB code) pc=decF ((natsB code).drop (p - 4194304).toNat):=by
   unfold fetchF
   rw [natsB_len,if_neg (by omega),show (p - 4194304).toNat=pc - 4194304 by omega]
 have he:decR code (p - 4194304)=match decF ((natsB code).drop (p - 4194304).toNat) with | none=>(insR 0 0 0 0 0,0,4) | some x=>(x.1,x.2,0):=by
   unfold decR
   rw [if_neg (by omega),if_neg (by omega)]
   try rfl
 have h3:p - 4194304 < ((ByteArray.mk code.toArray).size:Int):=by rw [hsz];omega
 have h4:(ByteArray.mk code.toArray).size≤1000000000:=by rw [hsz];exact hl
 rw [he] at hd
 unfold fetchR
 rw [hf]
 cases hx:decF ((natsB code).drop (p - 4194304).toNat) with
 | none =>
   rw [hx] at hd
   exact fetch_no h4 h h3 hd (by decide)
 | some x =>
   rw [hx] at hd
   exact fetch_yes h4 h h3 hd rfl
end Go.Proofs.YtocndimihokcmaaGreat
namespace Go.Proofs.YtocndimihokcmaaGreat
open Go.RowKit
open Go.Maps (Keyed)
open Go.Maps
def fetV (x:Ins×Nat):Value:=.agg (insRow x.1++[Value.int .i64 x.2]).toArray
def fetZ:Value:=.agg #[.int .i64 0,.int .i64 0,.int .i64 0,.int .i64 0,.int .i64 0,.int .i64 0,.int .i64 0,.int .i64 0,.int .i64 0,.int .i64 0]
def selfE (v:Value):Option (DataW Value×List MemPlace):=some (.held v,[])
theorem keyedU:Keyed Tryz.prog 23:=Go.Maps.int_keyed Tryz.underlying23
def KnowOk (code:List Nat) (D:DataW Value):Prop:=IsMap D∧∀ pc:Nat,pc < 18446744073709551616→(∀ z,D.atKey (.int .u64 pc) z=z)∨∃ x,fetchF code pc=some x∧∀ z,D.atKey (.int .u64 pc) z=.held (fetV x)
theorem know_empty (code:List Nat):KnowOk code (.map []):=⟨isMap_empty,fun _ _=>.inl fun _=>rfl⟩
theorem wfU:∀ pc:Nat,pc < 18446744073709551616→(Lit.int .u64 (pc:Int)).wf=true:=by
 intro pc h
 simp only [Lit.wf,IntKind.min,IntKind.max,IntKind.signed,IntKind.bits]
 simp
 omega
theorem know_put {code:List Nat} {D:DataW Value} (h:KnowOk code D) {pc:Nat} (hp:pc < 18446744073709551616) {x:Ins×Nat} (hx:fetchF code pc=some x):KnowOk code (D.put (.int .u64 pc) (.held (fetV x))):=by
 refine ⟨h.1.put _ _,fun q hq=>?_⟩
 by_cases e:q=pc
 · subst e
   exact .inr ⟨x,hx,fun z=>atKey_put_same h.1 (keyedU.key (v:=.int .u64 q) (Go.Maps.keyOf_int_mk Tryz.underlying23 (wfU q hp))) _ z⟩
 · have hne:Lit.int .u64 (q:Int)≠Lit.int .u64 (pc:Int):=by
     intro e2
     simp only [Lit.int.injEq,true_and] at e2
     omega
   rcases h.2 q hq with h1 | ⟨y,hy,h1⟩
   · exact .inl fun z=>by rw [atKey_put_other hne];exact h1 z
   · exact .inr ⟨y,hy,fun z=>by rw [atKey_put_other hne];exact h1 z⟩
theorem infoFet:(Tryz.prog.info? 129).map (fun i=>i.zero)=some (some fetZ):=by kernel_rfl
theorem fet_zero (w:World):(zeroValue 129).run Tryz.prog w=.ok fetZ w:=by
 obtain ⟨i0,hi,hz0⟩:=Option.map_eq_some_iff.1 infoFet
 simp [zeroValue,typeInfo,hi,hz0]
theorem look_hit {w:World} {g n:Nat} {D:DataW Value} (hown:w.ownsMap Tryz.prog 23 selfE g n D) {pc:Nat} (hp:pc < 18446744073709551616) {v:Value} (hk:∀ z,D.atKey (.int .u64 pc) z=.held v) :
   (Instr.lookup 66 (.map (some g)) (.int .u64 pc) true).run Tryz.prog w=.ok (.tuple #[v,.bool true]) w:=by
 obtain ⟨es,clock,hblk,F,_,hD⟩:=hown
 rw [hD] at hk
 rcases Maps.fit_look true keyedU Tryz.underlying66 (fet_zero w) hblk F (Go.Maps.keyOf_int_mk Tryz.underlying23 (wfU pc hp)) with ⟨_,_,hat⟩ | ⟨e0,y,_,_,hrun,hRv,hat,_⟩
 · have e1:=(hk .nil).symm.trans (hat .nil)
   cases e1
 · have e1:=(hk .nil).symm.trans (hat .nil)
   have hy:y.1=.held e0.val:=by
     unfold selfE at hRv
     rw [←Option.some.inj hRv]
   rw [hy] at e1
   have e2:v=e0.val:=by injection e1
   rw [e2]
   exact hrun
theorem look_miss {w:World} {g n:Nat} {D:DataW Value} (hown:w.ownsMap Tryz.prog 23 selfE g n D) {pc:Nat} (hp:pc < 18446744073709551616) (hk:∀ z,D.atKey (.int .u64 pc) z=z) :
   (Instr.lookup 66 (.map (some g)) (.int .u64 pc) true).run Tryz.prog w=.ok (.tuple #[fetZ,.bool false]) w:=by
 obtain ⟨es,clock,hblk,F,_,hD⟩:=hown
 rw [hD] at hk
 rcases Maps.fit_look true keyedU Tryz.underlying66 (fet_zero w) hblk F (Go.Maps.keyOf_int_mk Tryz.underlying23 (wfU pc hp)) with ⟨hrun,_,_⟩ | ⟨e0,y,_,_,hrun,hRv,hat,_⟩
 · exact hrun
 · have hy:y.1=.held e0.val:=by
     unfold selfE at hRv
     rw [←Option.some.inj hRv]
   have e1:=(hk .nil).symm.trans (hat .nil)
   rw [hy] at e1
   cases e1
def runRow (s:St) (n err:Int) (code m:Value) (g:Nat):List Value:=stRow s++[.int .i64 n,.int .i64 err,code,m,.map (some g)]
structure RunAt (code:List UInt8) (m:Value) (b g k:Nat) (w:World) (s:St) (n err:Int):Prop where
 st:StOk s
 ne:b≠g
 blk:w.heap[b]? = some (.cells (runRow s n err (strB code) m g).toArray 68 (0,0))
 known:∃ (c:Nat) (D:DataW Value),c≤k∧w.ownsMap Tryz.prog 23 selfE g c D∧KnowOk (natsB code) D
theorem stRow_len {s:St} (h:StOk s):(stRow s).length=20:=by simp [stRow,h.len]
theorem run_at {s:St} (hs:StOk s) {n err:Int} {code m:Value} {g:Nat}:(runRow s n err code m g)[16]? = some (.int .u64 s.pc)∧(runRow s n err code m g)[20]? = some (.int .i64 n)∧(runRow s n err code m g)[21]? = some (.int .i64 err)∧(runRow s n err code m g)[22]? = some code∧(runRow s n err code m g)[23]? = some m∧(runRow s n err code m g)[24]? = some (.map (some g)):=by
 have hl:=stRow_len hs
 unfold runRow
 refine ⟨?_,?_,?_,?_,?_,?_⟩
 · rw [List.getElem?_append_left (by omega)]
   unfold stRow
   rw [List.getElem?_append_right (by simp [hs.len])]
   simp [hs.len]
 all_goals
   rw [List.getElem?_append_right (by omega),hl]
   rfl
theorem RunAt.cells {code:List UInt8} {m:Value} {b g k:Nat} {w:World} {s:St} {n err:Int} (h:RunAt code m b g k w s n err) :
   w.cell? ⟨b,16,none⟩=some (.int .u64 s.pc)∧w.cell? ⟨b,20,none⟩=some (.int .i64 n)∧w.cell? ⟨b,21,none⟩=some (.int .i64 err)∧w.cell? ⟨b,22,none⟩=some (strB code)∧w.cell? ⟨b,23,none⟩=some m∧w.cell? ⟨b,24,none⟩=some (.map (some g)):=by
 obtain ⟨h1,h2,h3,h4,h5,h6⟩:=run_at h.st (n:=n) (err:=err) (code:=strB code) (m:=m) (g:=g)
 exact ⟨(cell_at h.blk h1).1,(cell_at h.blk h2).1,(cell_at h.blk h3).1,(cell_at h.blk h4).1,(cell_at h.blk h5).1,(cell_at h.blk h6).1⟩
theorem own_chgH {H:Type} {P:Program} {k:TypeId} {R:Value→Option (DataW H×List MemPlace)} {w w':World} {g n:Nat} {D:DataW H} {F:Nat→Prop} (h:w.ownsMap P k R g n D) (hc:Chg F w w') (hF:¬ F g):w'.ownsMap P k R g n D:=by
 have hl:=h.lt
 obtain ⟨es,clock,hb,rest⟩:=h
 exact ⟨es,clock,(hc.block _ hl hF).trans hb,rest⟩
theorem RunAt.chg {code:List UInt8} {m:Value} {b g k:Nat} {w w':World} {s:St} {n err:Int} {F:Nat→Prop} (h:RunAt code m b g k w s n err) (hc:Chg F w w') (hb:¬ F b) (hg:¬ F g):RunAt code m b g k w' s n err:=by
 obtain ⟨c,D,h1,h2,h3⟩:=h.known
 exact ⟨h.st,h.ne,(hc.block _ (lt_of_block h.blk) hb).trans h.blk,c,D,h1,own_chgH h2 hc hg,h3⟩
end Go.Proofs.YtocndimihokcmaaGreat
