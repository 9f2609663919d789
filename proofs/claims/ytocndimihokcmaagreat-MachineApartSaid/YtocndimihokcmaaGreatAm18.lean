/- Part 18 of a claim; what it proves stands in its last text. -/
import Derived.Test.YtocndimihokcmaaGreatAm17
namespace Go.Proofs.YtocndimihokcmaaGreat
open Go.RowKit
set_option maxRecDepth 100000
open Go.Maps (Keyed)
open Go.Maps
theorem groupC_bytes (b m:Nat):(groupC b m).2=0∨(groupC b m).2=1∨(groupC b m).2=4:=by
 unfold groupC
 repeat' split
 all_goals decide
theorem cell_at {w:World} {b ty:Nat} {row:List Value} (h:w.heap[b]? = some (.cells row.toArray ty (0,0))) {k:Nat} {v:Value} (hv:row[k]? = some v):w.cell? ⟨b,k,none⟩=some v∧w.frozen? ⟨b,k,none⟩=false:=by
 refine ⟨?_,by simp [World.frozen?,h]⟩
 simp only [World.cell?,h]
 simpa using hv
set_option maxHeartbeats 8000000 in
theorem dwide_group0 {L:List UInt8} {b:Nat} {c:Cur} {w:World} (r:Nat) (hL:L.length≤1000000000) (h:CurAt 104 false L b w c) (hn:codeC (byteC c).1 = -1) (h8:(byteC c).1 / 8≠23) (h15:(byteC c).1≠15) (h0:(groupC (byteC c).1 ((byteC (byteC c).2).1 / 8 % 8)).2=0) (he:wideC r c=(insR (groupC (byteC c).1 ((byteC (byteC c).2).1 / 8 % 8)).1 (lastC r (byteC (byteC c).2).1) 0 0 0,(byteC (byteC c).2).2)):Calls Tryz.prog 74 #[.pointer (some ⟨b,0,none⟩),.int .i64 r] w (CurSay 104 false L b w (wideC r c).2 (.agg (insRow (wideC r c).1).toArray)):=by
 have HLT:=Lh h.lt
 have hb256:(byteC c).1 < 256:=(bok h.ok).2
 have HB:=Lh (fun (w_:World) (h_:CurAt 104 false L b w_ c)=>byte_any hL h_)
 have HC:=Lh (show CurAt 104 false L b (w.alloc (.cells #[.int .i64 0,.int .i64 0,.int .i64 0,.int .i64 0,.int .i64 0,.int .i64 0,.int .i64 0,.int .i64 0,.int .i64 0] 40)) c from h.alloc _)
 have HR:=Lh (show (w.alloc (.cells #[.int .i64 0,.int .i64 0,.int .i64 0,.int .i64 0,.int .i64 0,.int .i64 0,.int .i64 0,.int .i64 0,.int .i64 0] 40)).heap[w.heap.size]? = some (.cells #[.int .i64 0,.int .i64 0,.int .i64 0,.int .i64 0,.int .i64 0,.int .i64 0,.int .i64 0,.int .i64 0,.int .i64 0] 40 (0,0)) from heap_alloc_new w _)
 have HG:=Lh ((Chg.refl (fun j=>j=b) w).alloc (.cells #[.int .i64 0,.int .i64 0,.int .i64 0,.int .i64 0,.int .i64 0,.int .i64 0,.int .i64 0,.int .i64 0,.int .i64 0] 40))
 have HCODE:=Lh (show tkV (codeC (byteC c).1)=.nilIface from by rw [hn];rfl)
 have HCODE2:=Lh (show (codeC (byteC c).1 != -1)=false from by rw [hn];rfl)
 clear hn
 have hk1:=groupC_bytes (byteC c).1 ((byteC (byteC c).2).1 / 8 % 8)
 have hkok:CurOk (byteC c).2:=(bok h.ok).1
 have hm8:(byteC (byteC c).2).1 / 8 % 8 < 8:=by omega
 have HGL:=Lh (fun (w_:World) (g_:Nat) (h_:GrpMap w_ g_)=>grp_look h_ hb256 hm8)
 have HLA:=Lh (fun w_=>dlast_any r (byteC (byteC c).2).1 w_)
 have HBX:=Lh (fun (w_:World) (h_:CurAt 104 false L b w_ (byteC c).2)=>byte_any hL h_)
 have f1:Go.bits .and .i64 ((byteC c).1:Int) 248=(((byteC c).1 / 8*8:Nat):Int):=and248 hb256
 have d1:((((byteC c).1 / 8*8:Nat):Int) == 184)=false:=beq_eq_false_iff_ne.2 (by omega)
 have d2:(((byteC c).1:Int) == 15)=false:=beq_eq_false_iff_ne.2 (by omega)
 have f2:Go.bits .and .i64 (((byteC (byteC c).2).1:Int) / 8) 7=(((byteC (byteC c).2).1 / 8 % 8:Nat):Int):=by rw [i64_and7];omega
 have d3:decide (0 < (groupC (byteC c).1 ((byteC (byteC c).2).1 / 8 % 8)).2)=false:=decide_eq_false (by omega)
 rw [he]
 dsimp only
 clear he h hL h8 h15 hkok hk1 h0
 generalize (groupC (byteC c).1 ((byteC (byteC c).2).1 / 8 % 8)).1=o at *
 generalize (groupC (byteC c).1 ((byteC (byteC c).2).1 / 8 % 8)).2=k at *
 generalize lastC r (byteC (byteC c).2).1=y at *
 generalize (byteC (byteC c).2).1 / 8 % 8=m at *
 generalize (byteC (byteC c).2).1=s at *
 generalize (byteC (byteC c).2).2=c2 at *
 generalize (byteC c).1 / 8*8=q at *
 generalize (byteC c).2=c1 at *
 generalize (byteC c).1=bb at *
 go_enter Tryz.func74,Tryz.ntmps74
 go_wp2_with (first | ((with_reducible refine (HB.out _ HC.out).mono ?_);rintro e_ w1 ⟨rfl,hc1,hg1⟩;have HR:=Lh (keepS hg1 (by have:=HLT.out;omega) HR.out);have HG:=Lh (HG.out.trans hg1);have HC:=Lh hc1;clear hc1 hg1) | ((with_reducible refine (takers_any _).mono ?_);rintro e_ w2 ⟨rfl,ho2,hb2⟩;have hlk:=tk_look ho2 hb256;rw [HCODE.out] at hlk;have HR:=Lh ((hb2.block _ (lt_of_block HR.out)).trans HR.out);have HC:=Lh (HC.out.chg (Chg.of_below (F:=fun _=>False) hb2) (fun h=>h));have HG:=Lh (HG.out.trans (Chg.of_below hb2));clear hb2 ho2;rw [HCODE2.out] at hlk) | ((with_reducible refine (HBX.out _ HC.out).mono ?_);rintro e_ w4 ⟨rfl,hc4,hg4⟩;have HR:=Lh (keepS hg4 (by have:=HLT.out;omega) HR.out);have HG:=Lh (HG.out.trans hg4);have HC:=Lh hc4;clear hc4 hg4) | ((with_reducible refine (groups_any _).mono ?_);rintro e_ w5 ⟨g5,rfl,_,hmap,hb5⟩;have hlk3:=HGL.out _ _ hmap;have HR:=Lh ((hb5.block _ (lt_of_block HR.out)).trans HR.out);have HC:=Lh (HC.out.chg (Chg.of_below (F:=fun _=>False) hb5) (fun h=>h));have HG:=Lh (HG.out.trans (Chg.of_below hb5));clear hb5 hmap))
 have hlt5:b < w5.heap.size∧w.heap.size < w5.heap.size:=⟨HC.out.lt,lt_of_block HR.out⟩
 have HLX:=Lh hlt5
 have HRx:=Lh (show (w5.alloc (.cells [.int .i64 o,.int .i64 (k:Nat)].toArray 169)).drew.heap[w.heap.size]? = _ from (heap_alloc_old w5 _ hlt5.2).trans HR.out)
 have HGx:=Lh (show (w5.alloc (.cells [.int .i64 o,.int .i64 (k:Nat)].toArray 169)).drew.heap[w5.heap.size]? = _ from heap_alloc_new w5 _)
 have HS1:=Lh (show (w5.alloc (.cells [.int .i64 o,.int .i64 (k:Nat)].toArray 169)).drew.cell? ⟨w5.heap.size,0,none⟩=some (.int .i64 o) from (row2 HGx.out).1)
 obtain ⟨Y,hY⟩:∃ Y,Y=(w5.alloc (.cells [.int .i64 o,.int .i64 (k:Nat)].toArray 169)).drew.setRow w.heap.size [.int .i64 o,.int .i64 y,.int .i64 0,.int .i64 0,.int .i64 0,.int .i64 0,.int .i64 0,.int .i64 0,.int .i64 0].toArray:=⟨_,rfl⟩
 have HRY:=Lh (show Y.heap[w.heap.size]? = some (.cells [.int .i64 o,.int .i64 y,.int .i64 0,.int .i64 0,.int .i64 0,.int .i64 0,.int .i64 0,.int .i64 0,.int .i64 0].toArray 40 (0,0)) from by rw [hY];exact setRow_heap _ _ _ _ _ _ HRx.out)
 have hGY:Y.heap[w5.heap.size]? = some (.cells [.int .i64 o,.int .i64 (k:Nat)].toArray 169 (0,0)):=by rw [hY];exact (setRow_other _ _ _ _ (fun e=>by have:=HLX.out;omega)).trans HGx.out
 have hky:=(row2 hGY).2
 clear hGY
 have HC:=Lh (show CurAt 104 false L b Y _ from by rw [hY];exact (HC.out.alloc _).drew.setRow (by have:=HLT.out;omega) _)
 have HG:=Lh (show Chg (fun j=>j=b) w Y from by rw [hY];exact ((HG.out.alloc _).drew.setRow (.inr (Nat.le_refl _)) _))
 have HY:=Lh hY
 clear hY hlt5
 (refine wp_region_lines (fun w_=>w_.cell? ⟨w5.heap.size,0,none⟩=some (.int .i64 o)) (by kernel_rfl) (by kernel_rfl) HS1.out ?_)
 (try simp only [])
 repeat (first | (refine runL_no (by rfl) ?_;(try simp only [Act.put,List.setIfInBounds_toArray,List.set_cons_zero,List.set_cons_succ])) | (refine runL_val (v:=?_) (by rfl) ?_ ?_;rotate_left;(focus (intro w_ hw_;have f9_:=hw_;go_simp;(try with_reducible rfl);done));(try simp only [Act.put,List.setIfInBounds_toArray,List.set_cons_zero,List.set_cons_succ])) | (refine runL_call (f:=?_) (args:=?_) (w1:=?_) (by rfl) (by rfl) ?_ ?_;rotate_left 3;(focus (go_simp;refine ⟨⟨?_,?_⟩,?_⟩ <;> with_reducible rfl));(with_reducible refine (HLA.out _).mono ?_);rintro e_ wp_ ⟨rfl,hw1⟩;subst wp_;refine ⟨_,rfl,.inr HS1.out,?_⟩;(try simp only [Act.put,List.setIfInBounds_toArray,List.set_cons_zero,List.set_cons_succ])) | (refine runL_skip (w1:=Y) (by rfl) (by rfl) (by rw [HY.out];exact exec_store_row 40 _ _ rfl w.heap.size _ rfl rfl 40 _ HRx.out (by kernel_rfl) rfl (by kernel_rfl)) (.inl ⟨rfl,by kernel_rfl⟩) ?_;(try simp only [Act.put])))
 (refine runL_nil ?_)
 go_wp2_with (first | (refine wpList_load_row rfl 40 _ rfl w.heap.size rfl 40 _ (0,0) _ (HRY.out) Tryz.underlying40 rfl (by kernel_rfl) ?_) | (refine wpList_store_row rfl 40 _ _ rfl w.heap.size _ rfl rfl 40 _ (HRY.out) (by kernel_rfl) (by rfl) (by kernel_rfl) ?_))
 refine bodyPost_ret (results_cell_row (ty:=40) rfl _ _ w.heap.size 40 _ (0,0) _ rfl (setRow_heap _ _ _ _ _ _ (HRY.out)) Tryz.underlying40 rfl (by kernel_rfl)) rfl ⟨rfl,?_⟩
 exact ⟨HC.out.setRow (by have:=HLT.out;omega) _,HG.out.setRow (.inr (Nat.le_refl _)) _⟩
set_option maxHeartbeats 8000000 in
theorem dwide_group1 {L:List UInt8} {b:Nat} {c:Cur} {w:World} (r:Nat) (hL:L.length≤1000000000) (h:CurAt 104 false L b w c) (hn:codeC (byteC c).1 = -1) (h8:(byteC c).1 / 8≠23) (h15:(byteC c).1≠15) (h0:0 < (groupC (byteC c).1 ((byteC (byteC c).2).1 / 8 % 8)).2) (he:wideC r c=(insR (groupC (byteC c).1 ((byteC (byteC c).2).1 / 8 % 8)).1 (lastC r (byteC (byteC c).2).1) 0 0 (numC (groupC (byteC c).1 ((byteC (byteC c).2).1 / 8 % 8)).2 (byteC (byteC c).2).2).1,(numC (groupC (byteC c).1 ((byteC (byteC c).2).1 / 8 % 8)).2 (byteC (byteC c).2).2).2)):Calls Tryz.prog 74 #[.pointer (some ⟨b,0,none⟩),.int .i64 r] w (CurSay 104 false L b w (wideC r c).2 (.agg (insRow (wideC r c).1).toArray)):=by
 have HLT:=Lh h.lt
 have hb256:(byteC c).1 < 256:=(bok h.ok).2
 have HB:=Lh (fun (w_:World) (h_:CurAt 104 false L b w_ c)=>byte_any hL h_)
 have HC:=Lh (show CurAt 104 false L b (w.alloc (.cells #[.int .i64 0,.int .i64 0,.int .i64 0,.int .i64 0,.int .i64 0,.int .i64 0,.int .i64 0,.int .i64 0,.int .i64 0] 40)) c from h.alloc _)
 have HR:=Lh (show (w.alloc (.cells #[.int .i64 0,.int .i64 0,.int .i64 0,.int .i64 0,.int .i64 0,.int .i64 0,.int .i64 0,.int .i64 0,.int .i64 0] 40)).heap[w.heap.size]? = some (.cells #[.int .i64 0,.int .i64 0,.int .i64 0,.int .i64 0,.int .i64 0,.int .i64 0,.int .i64 0,.int .i64 0,.int .i64 0] 40 (0,0)) from heap_alloc_new w _)
 have HG:=Lh ((Chg.refl (fun j=>j=b) w).alloc (.cells #[.int .i64 0,.int .i64 0,.int .i64 0,.int .i64 0,.int .i64 0,.int .i64 0,.int .i64 0,.int .i64 0,.int .i64 0] 40))
 have HCODE:=Lh (show tkV (codeC (byteC c).1)=.nilIface from by rw [hn];rfl)
 have HCODE2:=Lh (show (codeC (byteC c).1 != -1)=false from by rw [hn];rfl)
 clear hn
 have hk1:=groupC_bytes (byteC c).1 ((byteC (byteC c).2).1 / 8 % 8)
 have hkok:CurOk (byteC c).2:=(bok h.ok).1
 have hm8:(byteC (byteC c).2).1 / 8 % 8 < 8:=by omega
 have HGL:=Lh (fun (w_:World) (g_:Nat) (h_:GrpMap w_ g_)=>grp_look h_ hb256 hm8)
 have HLA:=Lh (fun w_=>dlast_any r (byteC (byteC c).2).1 w_)
 have HBX:=Lh (fun (w_:World) (h_:CurAt 104 false L b w_ (byteC c).2)=>byte_any hL h_)
 have f1:Go.bits .and .i64 ((byteC c).1:Int) 248=(((byteC c).1 / 8*8:Nat):Int):=and248 hb256
 have d1:((((byteC c).1 / 8*8:Nat):Int) == 184)=false:=beq_eq_false_iff_ne.2 (by omega)
 have d2:(((byteC c).1:Int) == 15)=false:=beq_eq_false_iff_ne.2 (by omega)
 have f2:Go.bits .and .i64 (((byteC (byteC c).2).1:Int) / 8) 7=(((byteC (byteC c).2).1 / 8 % 8:Nat):Int):=by rw [i64_and7];omega
 have d3:decide (0 < (groupC (byteC c).1 ((byteC (byteC c).2).1 / 8 % 8)).2)=true:=decide_eq_true h0
 have HN:=Lh (fun (w_:World) (h_:CurAt 104 false L b w_ (byteC (byteC c).2).2)=>dnumber_any (groupC (byteC c).1 ((byteC (byteC c).2).1 / 8 % 8)).2 (by omega) h0 hL h_)
 rw [he]
 dsimp only
 clear he h hL h8 h15 hkok hk1
 generalize (numC (groupC (byteC c).1 ((byteC (byteC c).2).1 / 8 % 8)).2 (byteC (byteC c).2).2).1=v at *
 generalize (numC (groupC (byteC c).1 ((byteC (byteC c).2).1 / 8 % 8)).2 (byteC (byteC c).2).2).2=c3 at *
 generalize (groupC (byteC c).1 ((byteC (byteC c).2).1 / 8 % 8)).1=o at *
 generalize (groupC (byteC c).1 ((byteC (byteC c).2).1 / 8 % 8)).2=k at *
 generalize lastC r (byteC (byteC c).2).1=y at *
 generalize (byteC (byteC c).2).1 / 8 % 8=m at *
 generalize (byteC (byteC c).2).1=s at *
 generalize (byteC (byteC c).2).2=c2 at *
 generalize (byteC c).1 / 8*8=q at *
 generalize (byteC c).2=c1 at *
 generalize (byteC c).1=bb at *
 go_enter Tryz.func74,Tryz.ntmps74
 go_wp2_with (first | ((with_reducible refine (HB.out _ HC.out).mono ?_);rintro e_ w1 ⟨rfl,hc1,hg1⟩;have HR:=Lh (keepS hg1 (by have:=HLT.out;omega) HR.out);have HG:=Lh (HG.out.trans hg1);have HC:=Lh hc1;clear hc1 hg1) | ((with_reducible refine (takers_any _).mono ?_);rintro e_ w2 ⟨rfl,ho2,hb2⟩;have hlk:=tk_look ho2 hb256;rw [HCODE.out] at hlk;have HR:=Lh ((hb2.block _ (lt_of_block HR.out)).trans HR.out);have HC:=Lh (HC.out.chg (Chg.of_below (F:=fun _=>False) hb2) (fun h=>h));have HG:=Lh (HG.out.trans (Chg.of_below hb2));clear hb2 ho2;rw [HCODE2.out] at hlk) | ((with_reducible refine (HBX.out _ HC.out).mono ?_);rintro e_ w4 ⟨rfl,hc4,hg4⟩;have HR:=Lh (keepS hg4 (by have:=HLT.out;omega) HR.out);have HG:=Lh (HG.out.trans hg4);have HC:=Lh hc4;clear hc4 hg4) | ((with_reducible refine (groups_any _).mono ?_);rintro e_ w5 ⟨g5,rfl,_,hmap,hb5⟩;have hlk3:=HGL.out _ _ hmap;have HR:=Lh ((hb5.block _ (lt_of_block HR.out)).trans HR.out);have HC:=Lh (HC.out.chg (Chg.of_below (F:=fun _=>False) hb5) (fun h=>h));have HG:=Lh (HG.out.trans (Chg.of_below hb5));clear hb5 hmap))
 have hlt5:b < w5.heap.size∧w.heap.size < w5.heap.size:=⟨HC.out.lt,lt_of_block HR.out⟩
 have HLX:=Lh hlt5
 have HRx:=Lh (show (w5.alloc (.cells [.int .i64 o,.int .i64 (k:Nat)].toArray 169)).drew.heap[w.heap.size]? = _ from (heap_alloc_old w5 _ hlt5.2).trans HR.out)
 have HGx:=Lh (show (w5.alloc (.cells [.int .i64 o,.int .i64 (k:Nat)].toArray 169)).drew.heap[w5.heap.size]? = _ from heap_alloc_new w5 _)
 have HS1:=Lh (show (w5.alloc (.cells [.int .i64 o,.int .i64 (k:Nat)].toArray 169)).drew.cell? ⟨w5.heap.size,0,none⟩=some (.int .i64 o) from (row2 HGx.out).1)
 obtain ⟨Y,hY⟩:∃ Y,Y=(w5.alloc (.cells [.int .i64 o,.int .i64 (k:Nat)].toArray 169)).drew.setRow w.heap.size [.int .i64 o,.int .i64 y,.int .i64 0,.int .i64 0,.int .i64 0,.int .i64 0,.int .i64 0,.int .i64 0,.int .i64 0].toArray:=⟨_,rfl⟩
 have HRY:=Lh (show Y.heap[w.heap.size]? = some (.cells [.int .i64 o,.int .i64 y,.int .i64 0,.int .i64 0,.int .i64 0,.int .i64 0,.int .i64 0,.int .i64 0,.int .i64 0].toArray 40 (0,0)) from by rw [hY];exact setRow_heap _ _ _ _ _ _ HRx.out)
 have hGY:Y.heap[w5.heap.size]? = some (.cells [.int .i64 o,.int .i64 (k:Nat)].toArray 169 (0,0)):=by rw [hY];exact (setRow_other _ _ _ _ (fun e=>by have:=HLX.out;omega)).trans HGx.out
 have hky:=(row2 hGY).2
 clear hGY
 have HC:=Lh (show CurAt 104 false L b Y _ from by rw [hY];exact (HC.out.alloc _).drew.setRow (by have:=HLT.out;omega) _)
 have HG:=Lh (show Chg (fun j=>j=b) w Y from by rw [hY];exact ((HG.out.alloc _).drew.setRow (.inr (Nat.le_refl _)) _))
 have HY:=Lh hY
 clear hY hlt5
 (refine wp_region_lines (fun w_=>w_.cell? ⟨w5.heap.size,0,none⟩=some (.int .i64 o)) (by kernel_rfl) (by kernel_rfl) HS1.out ?_)
 (try simp only [])
 repeat (first | (refine runL_no (by rfl) ?_;(try simp only [Act.put,List.setIfInBounds_toArray,List.set_cons_zero,List.set_cons_succ])) | (refine runL_val (v:=?_) (by rfl) ?_ ?_;rotate_left;(focus (intro w_ hw_;have f9_:=hw_;go_simp;(try with_reducible rfl);done));(try simp only [Act.put,List.setIfInBounds_toArray,List.set_cons_zero,List.set_cons_succ])) | (refine runL_call (f:=?_) (args:=?_) (w1:=?_) (by rfl) (by rfl) ?_ ?_;rotate_left 3;(focus (go_simp;refine ⟨⟨?_,?_⟩,?_⟩ <;> with_reducible rfl));(with_reducible refine (HLA.out _).mono ?_);rintro e_ wp_ ⟨rfl,hw1⟩;subst wp_;refine ⟨_,rfl,.inr HS1.out,?_⟩;(try simp only [Act.put,List.setIfInBounds_toArray,List.set_cons_zero,List.set_cons_succ])) | (refine runL_skip (w1:=Y) (by rfl) (by rfl) (by rw [HY.out];exact exec_store_row 40 _ _ rfl w.heap.size _ rfl rfl 40 _ HRx.out (by kernel_rfl) rfl (by kernel_rfl)) (.inl ⟨rfl,by kernel_rfl⟩) ?_;(try simp only [Act.put])))
 (refine runL_nil ?_)
 have HR:=HRY
 go_wp2_with (first | (refine wpList_load_row rfl 40 _ rfl w.heap.size rfl 40 _ (0,0) _ (HL.out) Tryz.underlying40 rfl (by kernel_rfl) ?_) | (refine wpList_store_row rfl 40 _ _ rfl w.heap.size _ rfl rfl 40 _ (HL.out) (by kernel_rfl) (by rfl) (by kernel_rfl) ?_) | ((with_reducible refine (HN.out _ HC.out).mono ?_);rintro e_ w3 ⟨rfl,hc3,hg3⟩;have HR:=Lh (keepS hg3 (by have:=HLT.out;omega) HR.out);have HG:=Lh (HG.out.trans hg3);have HC:=Lh hc3;clear hc3 hg3;obtain ⟨c8_,z8_⟩:=cell_at (k:=8) HR.out rfl;have HL:=Lh (show (w3.setCell ⟨w.heap.size,8,none⟩ (.int .i64 v)).heap[w.heap.size]? = some (.cells [.int .i64 o,.int .i64 y,.int .i64 0,.int .i64 0,.int .i64 0,.int .i64 0,.int .i64 0,.int .i64 0,.int .i64 v].toArray 40 (0,0)) from heap_setCell_row HR.out 8 (.int .i64 v))))
 refine bodyPost_ret (results_cell_row (ty:=40) rfl _ _ w.heap.size 40 _ (0,0) _ rfl (setRow_heap _ _ _ _ _ _ (HL.out)) Tryz.underlying40 rfl (by kernel_rfl)) rfl ⟨rfl,?_⟩
 exact ⟨(HC.out.set (by have:=HLT.out;omega) _ _).setRow (by have:=HLT.out;omega) _,(HG.out.setCell (p:=⟨w.heap.size,8,none⟩) (.inr (Nat.le_refl _)) _).setRow (.inr (Nat.le_refl _)) _⟩
theorem code_cases (b:Nat):(pairC b≠0)∨(pairC b=0∧((b=139∧codeC b=1006)∨(b=137∧codeC b=1009)∨(b=141∧codeC b=1010)∨(b≠139∧b≠137∧b≠141∧codeC b = -1))):=by
 unfold codeC
 by_cases h:pairC b=0
 · refine .inr ⟨h,?_⟩
   rw [if_neg (fun e=>e h)]
   by_cases h1:b=139
   · exact .inl ⟨h1,if_pos h1⟩
   · by_cases h2:b=137
     · exact .inr (.inl ⟨h2,by rw [if_neg h1,if_pos h2]⟩)
     · by_cases h3:b=141
       · exact .inr (.inr (.inl ⟨h3,by rw [if_neg h1,if_neg h2,if_pos h3]⟩))
       · exact .inr (.inr (.inr ⟨h1,h2,h3,by rw [if_neg h1,if_neg h2,if_neg h3]⟩))
 · exact .inl h
theorem dwide_any {L:List UInt8} {b:Nat} {c:Cur} {w:World} (r:Nat) (hL:L.length≤1000000000) (h:CurAt 104 false L b w c):Calls Tryz.prog 74 #[.pointer (some ⟨b,0,none⟩),.int .i64 r] w (CurSay 104 false L b w (wideC r c).2 (.agg (insRow (wideC r c).1).toArray)):=by
 rcases code_cases (byteC c).1 with hp | ⟨hp,h1 | h1 | h1 | h1⟩
 · exact dwide_pair r hL h hp
 · refine dwide_moves r hL h 3 false (by rw [h1.2];rfl) (by rw [h1.2];rfl) ?_
   unfold wideC
   rw [if_neg (fun e=>e hp),if_pos (.inl h1.1),h1.1]
   rfl
 · refine dwide_moves r hL h 4 true (by rw [h1.2];rfl) (by rw [h1.2];rfl) ?_
   unfold wideC
   rw [if_neg (fun e=>e hp),if_neg (by omega),if_pos h1.1]
   unfold mtakeC
   by_cases h3:(byteC (byteC c).2).1 / 64=3
   · rw [if_pos h3,if_pos ⟨rfl,h3⟩]
   · rw [if_neg h3,if_neg (fun e=>h3 e.2)]
     rfl
 · refine dwide_moves r hL h 5 false (by rw [h1.2];rfl) (by rw [h1.2];rfl) ?_
   unfold wideC
   rw [if_neg (fun e=>e hp),if_pos (.inr h1.1),h1.1]
   rfl
 · obtain ⟨n1,n2,n3,hn⟩:=h1
   by_cases h8:(byteC c).1 / 8=23
   · refine dwide_imm r hL h hn h8 ?_
     unfold wideC
     rw [if_neg (fun e=>e hp),if_neg (by omega),if_neg n2,if_pos h8]
   · by_cases h15:(byteC c).1=15
     · refine dwide_cmov r hL h hn h15 ?_
       unfold wideC
       rw [if_neg (fun e=>e hp),if_neg (by omega),if_neg n2,if_neg h8,if_pos h15]
     · by_cases h0:0 < (groupC (byteC c).1 ((byteC (byteC c).2).1 / 8 % 8)).2
       · refine dwide_group1 r hL h hn h8 h15 h0 ?_
         unfold wideC
         rw [if_neg (fun e=>e hp),if_neg (by omega),if_neg n2,if_neg h8,if_neg h15]
         exact if_pos h0
       · refine dwide_group0 r hL h hn h8 h15 (by omega) ?_
         unfold wideC
         rw [if_neg (fun e=>e hp),if_neg (by omega),if_neg n2,if_neg h8,if_neg h15]
         exact if_neg h0
end Go.Proofs.YtocndimihokcmaaGreat
namespace Go.Proofs.YtocndimihokcmaaGreat
open Go.RowKit
set_option maxRecDepth 100000
open Go.Maps (Keyed)
open Go.Maps
theorem or8:∀ n:Fin 16,Go.bits .or .i64 ((n:Nat):Int) 8=(((n:Nat) ||| 8:Nat):Int):=by decide +kernel
theorem xor1 {x:Nat} (h:x < 256):Go.bits .xor .i64 ((x:Int) / 128) 1=((1 - x / 128:Nat):Int):=by
 have e:((x:Int) / 128)=((x / 128:Nat):Int):=by omega
 rw [e]
 exact i64_xor1 ⟨x / 128,by omega⟩
theorem or_q:∀ A B:Fin 2,Go.bits .or .i64 (((A:Nat):Int)*4) ((B:Nat):Int)=(((A:Nat)*4+(B:Nat):Nat):Int)∧Go.bits .xor .i64 (((A:Nat)*4+(B:Nat):Nat):Int) 1=(((A:Nat)*4+(1 - (B:Nat)):Nat):Int):=by decide +kernel
def jmpD:DataW Unit:=((DataW.map []).put (.int .i64 133) (tkL 31)).put (.int .i64 130) (tkL 32)
theorem jmp_at:∀ k:Fin 256,(match jmpD.atKey (.int .i64 (k:Nat)) (tkL 0) with | .lit (.int .i64 n)=>n ==(if (k:Nat)=133 then 31 else if (k:Nat)=130 then 32 else 0) | _=>false)=true:=by decide +kernel
def adxD:DataW Unit:=((DataW.map []).put (.int .i64 102) (tkL 20)).put (.int .i64 243) (tkL 21)
theorem adx_at {k:Nat} (h:k=102∨k=243):adxD.atKey (.int .i64 (k:Nat)) (tkL 0)=tkL (if k=102 then 20 else 21):=by
 rcases h with rfl | rfl <;> kernel_rfl
def InsSm (i:Ins):Prop:=(0≤i.s∧i.s < 16)∧0≤i.d∧i.d < 16
theorem midC_lt (r rm:Nat):midC r rm < 16:=by unfold midC;omega
theorem lastC_lt (r rm:Nat):lastC r rm < 16:=by unfold lastC;omega
theorem sm_R {op d s t imm:Int} (hd:0≤d∧d < 16) (hs:0≤s∧s < 16):InsSm (insR op d s t imm):=⟨hs,hd⟩
theorem sm_P {op d s:Int} {p:Plc} (hd:0≤d∧d < 16) (hs:0≤s∧s < 16):InsSm (insP op d s p):=⟨hs,hd⟩
theorem sm_m (r rm:Nat):0≤((midC r rm:Nat):Int)∧((midC r rm:Nat):Int) < 16:=by have:=midC_lt r rm;omega
theorem sm_l (r rm:Nat):0≤((lastC r rm:Nat):Int)∧((lastC r rm:Nat):Int) < 16:=by have:=lastC_lt r rm;omega
theorem sm_0:0≤(0:Int)∧(0:Int) < 16:=by decide
theorem sm_8 (x:Nat):0≤((x % 8:Nat):Int)∧((x % 8:Nat):Int) < 16:=by omega
theorem sm_15 (x:Nat):0≤(15:Int) - (x % 16:Nat)∧(15:Int) - (x % 16:Nat) < 16:=by omega
theorem sm_ite {q:Prop} [Decidable q] {a b:Ins×Cur} (ha:InsSm a.1) (hb:InsSm b.1):InsSm (if q then a else b).1:=by
 split
 · exact ha
 · exact hb
theorem wide_sm (r:Nat) (c:Cur):InsSm (wideC r c).1:=by
 unfold wideC
 refine sm_ite (sm_R (sm_l _ _) (sm_m _ _)) (sm_ite (sm_P (sm_m _ _) sm_0) (sm_ite (sm_ite (sm_R (sm_l _ _) (sm_m _ _)) (sm_P sm_0 (sm_m _ _))) (sm_ite (sm_R (sm_l _ _) sm_0) (sm_ite (sm_R (sm_m _ _) (sm_l _ _)) (sm_ite (sm_R (sm_l _ _) sm_0) (sm_R (sm_l _ _) sm_0))))))
theorem or8_lt {n:Int} (h:0≤n∧n < 16):0≤((n.toNat ||| 8:Nat):Int)∧((n.toNat ||| 8:Nat):Int) < 16:=by
 have h1:n.toNat < 2 ^ 4:=by omega
 have h2:=Nat.or_lt_two_pow h1 (show 8 < 2 ^ 4 by decide)
 omega
theorem any_sm (f:Nat):∀ c:Cur,InsSm (anyC f c).1:=by
 induction f with
 | zero=>intro c;exact sm_R sm_0 sm_0
 | succ f ih =>
   intro c
   unfold anyC
   refine sm_ite (sm_R sm_0 sm_0) (sm_ite (sm_R sm_0 (sm_8 _)) (sm_ite (sm_R (sm_8 _) sm_0) (sm_ite (sm_ite ?_ ?_) (sm_ite (sm_R sm_0 sm_0) (sm_ite (sm_R sm_0 sm_0) (sm_ite (sm_R (sm_m _ _) (sm_15 _)) (sm_ite (sm_R (sm_m _ _) (sm_l _ _)) (wide_sm _ _))))))))
   · exact ⟨or8_lt (ih _).1,(ih _).2⟩
   · exact ⟨(ih _).1,or8_lt (ih _).2⟩
theorem or8_int {n:Int} (h:0≤n∧n < 16):Go.bits .or .i64 n 8=((n.toNat ||| 8:Nat):Int):=by
 have e:n=((n.toNat:Nat):Int):=by omega
 have:=or8 ⟨n.toNat,by omega⟩
 rw [e]
 exact this
set_option maxHeartbeats 8000000 in
theorem dany_ret {L:List UInt8} {b:Nat} {c:Cur} {w:World} (f:Nat) (hL:L.length≤1000000000) (h:CurAt 104 false L b w c)  (n0:(byteC c).1=195) (he:anyC (f+1) c=(insR 33 0 0 0 0,(byteC c).2)):Calls Tryz.prog 43 #[.pointer (some ⟨b,0,none⟩)] w (CurSay 104 false L b w (anyC (f+1) c).2 (.agg (insRow (anyC (f+1) c).1).toArray)):=by
 have HLT:=Lh h.lt
 have hb256:(byteC c).1 < 256:=(bok h.ok).2
 have HB:=Lh (fun (w_:World) (h_:CurAt 104 false L b w_ c)=>byte_any hL h_)
 have HC:=Lh (show CurAt 104 false L b (w.alloc (.cells #[.int .i64 0,.int .i64 0,.int .i64 0,.int .i64 0,.int .i64 0,.int .i64 0,.int .i64 0,.int .i64 0,.int .i64 0] 40)) c from h.alloc _)
 have HR:=Lh (show (w.alloc (.cells #[.int .i64 0,.int .i64 0,.int .i64 0,.int .i64 0,.int .i64 0,.int .i64 0,.int .i64 0,.int .i64 0,.int .i64 0] 40)).heap[w.heap.size]? = some (.cells #[.int .i64 0,.int .i64 0,.int .i64 0,.int .i64 0,.int .i64 0,.int .i64 0,.int .i64 0,.int .i64 0,.int .i64 0] 40 (0,0)) from heap_alloc_new w _)
 have HG:=Lh ((Chg.refl (fun j=>j=b) w).alloc (.cells #[.int .i64 0,.int .i64 0,.int .i64 0,.int .i64 0,.int .i64 0,.int .i64 0,.int .i64 0,.int .i64 0,.int .i64 0] 40))
 have f1:Go.bits .and .i64 ((byteC c).1:Int) 248=(((byteC c).1 / 8*8:Nat):Int):=and248 hb256
 have d0_:(((byteC c).1:Int) == 195)=true:=beq_iff_eq.2 (by omega)
 rw [he]
 dsimp only
 clear he h hL hb256 n0
 generalize (byteC c).1 / 8*8=q at *
 generalize (byteC c).2=c1 at *
 generalize (byteC c).1=bb at *
 go_enter Tryz.func43,Tryz.ntmps43
 go_wp2_with (first | (refine wpList_store_row rfl 40 _ _ rfl w.heap.size _ rfl rfl 40 _ (HR.out) (by kernel_rfl) (by rfl) (by kernel_rfl) ?_) | ((with_reducible refine (HB.out _ HC.out).mono ?_);rintro e_ w1 ⟨rfl,hc1,hg1⟩;have HR:=Lh (keepS hg1 (by have:=HLT.out;omega) HR.out);have HG:=Lh (HG.out.trans hg1);have HC:=Lh hc1;clear hc1 hg1))
 refine bodyPost_ret (results_cell_row (ty:=40) rfl _ _ w.heap.size 40 _ (0,0) _ rfl (setRow_heap _ _ _ _ _ _ (HR.out)) Tryz.underlying40 rfl (by kernel_rfl)) rfl ⟨rfl,?_⟩
 exact ⟨HC.out.setRow (by have:=HLT.out;omega) _,HG.out.setRow (.inr (Nat.le_refl _)) _⟩
set_option maxHeartbeats 8000000 in
theorem dany_push {L:List UInt8} {b:Nat} {c:Cur} {w:World} (f:Nat) (hL:L.length≤1000000000) (h:CurAt 104 false L b w c)  (n1:(byteC c).1 / 8=10) (he:anyC (f+1) c=(insR 28 0 ((byteC c).1 % 8:Nat) 0 0,(byteC c).2)):Calls Tryz.prog 43 #[.pointer (some ⟨b,0,none⟩)] w (CurSay 104 false L b w (anyC (f+1) c).2 (.agg (insRow (anyC (f+1) c).1).toArray)):=by
 have HLT:=Lh h.lt
 have hb256:(byteC c).1 < 256:=(bok h.ok).2
 have HB:=Lh (fun (w_:World) (h_:CurAt 104 false L b w_ c)=>byte_any hL h_)
 have HC:=Lh (show CurAt 104 false L b (w.alloc (.cells #[.int .i64 0,.int .i64 0,.int .i64 0,.int .i64 0,.int .i64 0,.int .i64 0,.int .i64 0,.int .i64 0,.int .i64 0] 40)) c from h.alloc _)
 have HR:=Lh (show (w.alloc (.cells #[.int .i64 0,.int .i64 0,.int .i64 0,.int .i64 0,.int .i64 0,.int .i64 0,.int .i64 0,.int .i64 0,.int .i64 0] 40)).heap[w.heap.size]? = some (.cells #[.int .i64 0,.int .i64 0,.int .i64 0,.int .i64 0,.int .i64 0,.int .i64 0,.int .i64 0,.int .i64 0,.int .i64 0] 40 (0,0)) from heap_alloc_new w _)
 have HG:=Lh ((Chg.refl (fun j=>j=b) w).alloc (.cells #[.int .i64 0,.int .i64 0,.int .i64 0,.int .i64 0,.int .i64 0,.int .i64 0,.int .i64 0,.int .i64 0,.int .i64 0] 40))
 have f1:Go.bits .and .i64 ((byteC c).1:Int) 248=(((byteC c).1 / 8*8:Nat):Int):=and248 hb256
 have d0_:(((byteC c).1:Int) == 195)=false:=beq_eq_false_iff_ne.2 (by omega)
 have d1_:((((byteC c).1 / 8*8:Nat):Int) == 80)=true:=beq_iff_eq.2 (by omega)
 have f7:Go.bits .and .i64 ((byteC c).1:Int) 7=(((byteC c).1 % 8:Nat):Int):=by rw [i64_and7];omega
 rw [he]
 dsimp only
 clear he h hL hb256 n1
 generalize (byteC c).1 % 8=m at *
 generalize (byteC c).1 / 8*8=q at *
 generalize (byteC c).2=c1 at *
 generalize (byteC c).1=bb at *
 go_enter Tryz.func43,Tryz.ntmps43
 go_wp2_with (first | (refine wpList_store_row rfl 40 _ _ rfl w.heap.size _ rfl rfl 40 _ (HR.out) (by kernel_rfl) (by rfl) (by kernel_rfl) ?_) | ((with_reducible refine (HB.out _ HC.out).mono ?_);rintro e_ w1 ⟨rfl,hc1,hg1⟩;have HR:=Lh (keepS hg1 (by have:=HLT.out;omega) HR.out);have HG:=Lh (HG.out.trans hg1);have HC:=Lh hc1;clear hc1 hg1))
 refine bodyPost_ret (results_cell_row (ty:=40) rfl _ _ w.heap.size 40 _ (0,0) _ rfl (setRow_heap _ _ _ _ _ _ (HR.out)) Tryz.underlying40 rfl (by kernel_rfl)) rfl ⟨rfl,?_⟩
 exact ⟨HC.out.setRow (by have:=HLT.out;omega) _,HG.out.setRow (.inr (Nat.le_refl _)) _⟩
set_option maxHeartbeats 8000000 in
theorem dany_pop {L:List UInt8} {b:Nat} {c:Cur} {w:World} (f:Nat) (hL:L.length≤1000000000) (h:CurAt 104 false L b w c)  (n2:(byteC c).1 / 8=11) (he:anyC (f+1) c=(insR 29 ((byteC c).1 % 8:Nat) 0 0 0,(byteC c).2)):Calls Tryz.prog 43 #[.pointer (some ⟨b,0,none⟩)] w (CurSay 104 false L b w (anyC (f+1) c).2 (.agg (insRow (anyC (f+1) c).1).toArray)):=by
 have HLT:=Lh h.lt
 have hb256:(byteC c).1 < 256:=(bok h.ok).2
 have HB:=Lh (fun (w_:World) (h_:CurAt 104 false L b w_ c)=>byte_any hL h_)
 have HC:=Lh (show CurAt 104 false L b (w.alloc (.cells #[.int .i64 0,.int .i64 0,.int .i64 0,.int .i64 0,.int .i64 0,.int .i64 0,.int .i64 0,.int .i64 0,.int .i64 0] 40)) c from h.alloc _)
 have HR:=Lh (show (w.alloc (.cells #[.int .i64 0,.int .i64 0,.int .i64 0,.int .i64 0,.int .i64 0,.int .i64 0,.int .i64 0,.int .i64 0,.int .i64 0] 40)).heap[w.heap.size]? = some (.cells #[.int .i64 0,.int .i64 0,.int .i64 0,.int .i64 0,.int .i64 0,.int .i64 0,.int .i64 0,.int .i64 0,.int .i64 0] 40 (0,0)) from heap_alloc_new w _)
 have HG:=Lh ((Chg.refl (fun j=>j=b) w).alloc (.cells #[.int .i64 0,.int .i64 0,.int .i64 0,.int .i64 0,.int .i64 0,.int .i64 0,.int .i64 0,.int .i64 0,.int .i64 0] 40))
 have f1:Go.bits .and .i64 ((byteC c).1:Int) 248=(((byteC c).1 / 8*8:Nat):Int):=and248 hb256
 have d0_:(((byteC c).1:Int) == 195)=false:=beq_eq_false_iff_ne.2 (by omega)
 have d1_:((((byteC c).1 / 8*8:Nat):Int) == 80)=false:=beq_eq_false_iff_ne.2 (by omega)
 have d2_:((((byteC c).1 / 8*8:Nat):Int) == 88)=true:=beq_iff_eq.2 (by omega)
 have f7:Go.bits .and .i64 ((byteC c).1:Int) 7=(((byteC c).1 % 8:Nat):Int):=by rw [i64_and7];omega
 rw [he]
 dsimp only
 clear he h hL hb256 n2
 generalize (byteC c).1 % 8=m at *
 generalize (byteC c).1 / 8*8=q at *
 generalize (byteC c).2=c1 at *
 generalize (byteC c).1=bb at *
 go_enter Tryz.func43,Tryz.ntmps43
 go_wp2_with (first | (refine wpList_store_row rfl 40 _ _ rfl w.heap.size _ rfl rfl 40 _ (HR.out) (by kernel_rfl) (by rfl) (by kernel_rfl) ?_) | ((with_reducible refine (HB.out _ HC.out).mono ?_);rintro e_ w1 ⟨rfl,hc1,hg1⟩;have HR:=Lh (keepS hg1 (by have:=HLT.out;omega) HR.out);have HG:=Lh (HG.out.trans hg1);have HC:=Lh hc1;clear hc1 hg1))
 refine bodyPost_ret (results_cell_row (ty:=40) rfl _ _ w.heap.size 40 _ (0,0) _ rfl (setRow_heap _ _ _ _ _ _ (HR.out)) Tryz.underlying40 rfl (by kernel_rfl)) rfl ⟨rfl,?_⟩
 exact ⟨HC.out.setRow (by have:=HLT.out;omega) _,HG.out.setRow (.inr (Nat.le_refl _)) _⟩
set_option maxHeartbeats 8000000 in
theorem dany_jmp {L:List UInt8} {b:Nat} {c:Cur} {w:World} (f:Nat) (hL:L.length≤1000000000) (h:CurAt 104 false L b w c)  (n4:(byteC c).1=233) (he:anyC (f+1) c=(insR 30 0 0 0 (numC 4 (byteC c).2).1,(numC 4 (byteC c).2).2)):Calls Tryz.prog 43 #[.pointer (some ⟨b,0,none⟩)] w (CurSay 104 false L b w (anyC (f+1) c).2 (.agg (insRow (anyC (f+1) c).1).toArray)):=by
 have HLT:=Lh h.lt
 have hb256:(byteC c).1 < 256:=(bok h.ok).2
 have HB:=Lh (fun (w_:World) (h_:CurAt 104 false L b w_ c)=>byte_any hL h_)
 have HC:=Lh (show CurAt 104 false L b (w.alloc (.cells #[.int .i64 0,.int .i64 0,.int .i64 0,.int .i64 0,.int .i64 0,.int .i64 0,.int .i64 0,.int .i64 0,.int .i64 0] 40)) c from h.alloc _)
 have HR:=Lh (show (w.alloc (.cells #[.int .i64 0,.int .i64 0,.int .i64 0,.int .i64 0,.int .i64 0,.int .i64 0,.int .i64 0,.int .i64 0,.int .i64 0] 40)).heap[w.heap.size]? = some (.cells #[.int .i64 0,.int .i64 0,.int .i64 0,.int .i64 0,.int .i64 0,.int .i64 0,.int .i64 0,.int .i64 0,.int .i64 0] 40 (0,0)) from heap_alloc_new w _)
 have HG:=Lh ((Chg.refl (fun j=>j=b) w).alloc (.cells #[.int .i64 0,.int .i64 0,.int .i64 0,.int .i64 0,.int .i64 0,.int .i64 0,.int .i64 0,.int .i64 0,.int .i64 0] 40))
 have f1:Go.bits .and .i64 ((byteC c).1:Int) 248=(((byteC c).1 / 8*8:Nat):Int):=and248 hb256
 have d0_:(((byteC c).1:Int) == 195)=false:=beq_eq_false_iff_ne.2 (by omega)
 have d1_:((((byteC c).1 / 8*8:Nat):Int) == 80)=false:=beq_eq_false_iff_ne.2 (by omega)
 have d2_:((((byteC c).1 / 8*8:Nat):Int) == 88)=false:=beq_eq_false_iff_ne.2 (by omega)
 have d3_:(((byteC c).1:Int) == 65)=false:=beq_eq_false_iff_ne.2 (by omega)
 have d4_:(((byteC c).1:Int) == 233)=true:=beq_iff_eq.2 (by omega)
 have HN:=Lh (fun (w_:World) (h_:CurAt 104 false L b w_ (byteC c).2)=>dnum4_any hL h_)
 rw [he]
 dsimp only
 clear he h hL hb256 n4
 generalize (numC 4 (byteC c).2).1=v at *
 generalize (numC 4 (byteC c).2).2=c2 at *
 generalize (byteC c).1 / 8*8=q at *
 generalize (byteC c).2=c1 at *
 generalize (byteC c).1=bb at *
 go_enter Tryz.func43,Tryz.ntmps43
 go_wp2_with (first | (refine wpList_store_row rfl 40 _ _ rfl w.heap.size _ rfl rfl 40 _ (HR.out) (by kernel_rfl) (by rfl) (by kernel_rfl) ?_) | ((with_reducible refine (HB.out _ HC.out).mono ?_);rintro e_ w1 ⟨rfl,hc1,hg1⟩;have HR:=Lh (keepS hg1 (by have:=HLT.out;omega) HR.out);have HG:=Lh (HG.out.trans hg1);have HC:=Lh hc1;clear hc1 hg1) | ((with_reducible refine (HN.out _ HC.out).mono ?_);rintro e_ w3 ⟨rfl,hc3,hg3⟩;have HR:=Lh (keepS hg3 (by have:=HLT.out;omega) HR.out);have HG:=Lh (HG.out.trans hg3);have HC:=Lh hc3;clear hc3 hg3))
 refine bodyPost_ret (results_cell_row (ty:=40) rfl _ _ w.heap.size 40 _ (0,0) _ rfl (setRow_heap _ _ _ _ _ _ (HR.out)) Tryz.underlying40 rfl (by kernel_rfl)) rfl ⟨rfl,?_⟩
 exact ⟨HC.out.setRow (by have:=HLT.out;omega) _,HG.out.setRow (.inr (Nat.le_refl _)) _⟩
set_option maxHeartbeats 8000000 in
theorem dany_wide {L:List UInt8} {b:Nat} {c:Cur} {w:World} (f:Nat) (hL:L.length≤1000000000) (h:CurAt 104 false L b w c) (n0:(byteC c).1≠195) (n1:(byteC c).1 / 8≠10) (n2:(byteC c).1 / 8≠11) (n3:(byteC c).1≠65) (n4:(byteC c).1≠233) (n5:(byteC c).1≠15) (n6:(byteC c).1≠196) (n7:(byteC c).1≠102) (n8:(byteC c).1≠243) (he:anyC (f+1) c=wideC (byteC c).1 (byteC c).2):Calls Tryz.prog 43 #[.pointer (some ⟨b,0,none⟩)] w (CurSay 104 false L b w (anyC (f+1) c).2 (.agg (insRow (anyC (f+1) c).1).toArray)):=by
 have HLT:=Lh h.lt
 have hb256:(byteC c).1 < 256:=(bok h.ok).2
 have HB:=Lh (fun (w_:World) (h_:CurAt 104 false L b w_ c)=>byte_any hL h_)
 have HC:=Lh (show CurAt 104 false L b (w.alloc (.cells #[.int .i64 0,.int .i64 0,.int .i64 0,.int .i64 0,.int .i64 0,.int .i64 0,.int .i64 0,.int .i64 0,.int .i64 0] 40)) c from h.alloc _)
 have HR:=Lh (show (w.alloc (.cells #[.int .i64 0,.int .i64 0,.int .i64 0,.int .i64 0,.int .i64 0,.int .i64 0,.int .i64 0,.int .i64 0,.int .i64 0] 40)).heap[w.heap.size]? = some (.cells #[.int .i64 0,.int .i64 0,.int .i64 0,.int .i64 0,.int .i64 0,.int .i64 0,.int .i64 0,.int .i64 0,.int .i64 0] 40 (0,0)) from heap_alloc_new w _)
 have HG:=Lh ((Chg.refl (fun j=>j=b) w).alloc (.cells #[.int .i64 0,.int .i64 0,.int .i64 0,.int .i64 0,.int .i64 0,.int .i64 0,.int .i64 0,.int .i64 0,.int .i64 0] 40))
 have f1:Go.bits .and .i64 ((byteC c).1:Int) 248=(((byteC c).1 / 8*8:Nat):Int):=and248 hb256
 have d0_:(((byteC c).1:Int) == 195)=false:=beq_eq_false_iff_ne.2 (by omega)
 have d1_:((((byteC c).1 / 8*8:Nat):Int) == 80)=false:=beq_eq_false_iff_ne.2 (by omega)
 have d2_:((((byteC c).1 / 8*8:Nat):Int) == 88)=false:=beq_eq_false_iff_ne.2 (by omega)
 have d3_:(((byteC c).1:Int) == 65)=false:=beq_eq_false_iff_ne.2 (by omega)
 have d4_:(((byteC c).1:Int) == 233)=false:=beq_eq_false_iff_ne.2 (by omega)
 have d5_:(((byteC c).1:Int) == 15)=false:=beq_eq_false_iff_ne.2 (by omega)
 have d6_:(((byteC c).1:Int) == 196)=false:=beq_eq_false_iff_ne.2 (by omega)
 have d7_:(((byteC c).1:Int) == 102)=false:=beq_eq_false_iff_ne.2 (by omega)
 have d8_:(((byteC c).1:Int) == 243)=false:=beq_eq_false_iff_ne.2 (by omega)
 have HN:=Lh (fun (w_:World) (h_:CurAt 104 false L b w_ (byteC c).2)=>dwide_any (byteC c).1 hL h_)
 rw [he]
 clear he h hL hb256 n0 n1 n2 n3 n4 n5 n6 n7 n8
 generalize (wideC (byteC c).1 (byteC c).2).1=I at *
 generalize (wideC (byteC c).1 (byteC c).2).2=c2 at *
 generalize (byteC c).1 / 8*8=q at *
 generalize (byteC c).2=c1 at *
 generalize (byteC c).1=bb at *
 go_enter Tryz.func43,Tryz.ntmps43
 go_wp2_with (first | (refine wpList_store_row rfl 40 _ _ rfl w.heap.size _ rfl rfl 40 _ (HR.out) (by kernel_rfl) (by rfl) (by kernel_rfl) ?_) | ((with_reducible refine (HB.out _ HC.out).mono ?_);rintro e_ w1 ⟨rfl,hc1,hg1⟩;have HR:=Lh (keepS hg1 (by have:=HLT.out;omega) HR.out);have HG:=Lh (HG.out.trans hg1);have HC:=Lh hc1;clear hc1 hg1) | ((with_reducible refine (HN.out _ HC.out).mono ?_);rintro e_ w3 ⟨rfl,hc3,hg3⟩;have HR:=Lh (keepS hg3 (by have:=HLT.out;omega) HR.out);have HG:=Lh (HG.out.trans hg3);have HC:=Lh hc3;clear hc3 hg3))
 refine bodyPost_ret (results_cell_row (ty:=40) rfl _ _ w.heap.size 40 _ (0,0) _ rfl (setRow_heap _ _ _ _ _ _ (HR.out)) Tryz.underlying40 rfl (by kernel_rfl)) rfl ⟨rfl,?_⟩
 exact ⟨HC.out.setRow (by have:=HLT.out;omega) _,HG.out.setRow (.inr (Nat.le_refl _)) _⟩
end Go.Proofs.YtocndimihokcmaaGreat
namespace Go.Proofs.YtocndimihokcmaaGreat
open Go.RowKit
set_option maxRecDepth 100000
open Go.Maps (Keyed)
open Go.Maps
set_option maxHeartbeats 8000000 in
theorem dany_jcc {L:List UInt8} {b:Nat} {c:Cur} {w:World} (f:Nat) (hL:L.length≤1000000000) (h:CurAt 104 false L b w c)  (n5:(byteC c).1=15) (he:anyC (f+1) c=(insR (if (byteC (byteC c).2).1=133 then 31 else if (byteC (byteC c).2).1=130 then 32 else 0) 0 0 0 (numC 4 (byteC (byteC c).2).2).1,(numC 4 (byteC (byteC c).2).2).2)):Calls Tryz.prog 43 #[.pointer (some ⟨b,0,none⟩)] w (CurSay 104 false L b w (anyC (f+1) c).2 (.agg (insRow (anyC (f+1) c).1).toArray)):=by
 have HLT:=Lh h.lt
 have hb256:(byteC c).1 < 256:=(bok h.ok).2
 have HB:=Lh (fun (w_:World) (h_:CurAt 104 false L b w_ c)=>byte_any hL h_)
 have HC:=Lh (show CurAt 104 false L b (w.alloc (.cells #[.int .i64 0,.int .i64 0,.int .i64 0,.int .i64 0,.int .i64 0,.int .i64 0,.int .i64 0,.int .i64 0,.int .i64 0] 40)) c from h.alloc _)
 have HR:=Lh (show (w.alloc (.cells #[.int .i64 0,.int .i64 0,.int .i64 0,.int .i64 0,.int .i64 0,.int .i64 0,.int .i64 0,.int .i64 0,.int .i64 0] 40)).heap[w.heap.size]? = some (.cells #[.int .i64 0,.int .i64 0,.int .i64 0,.int .i64 0,.int .i64 0,.int .i64 0,.int .i64 0,.int .i64 0,.int .i64 0] 40 (0,0)) from heap_alloc_new w _)
 have HG:=Lh ((Chg.refl (fun j=>j=b) w).alloc (.cells #[.int .i64 0,.int .i64 0,.int .i64 0,.int .i64 0,.int .i64 0,.int .i64 0,.int .i64 0,.int .i64 0,.int .i64 0] 40))
 have f1:Go.bits .and .i64 ((byteC c).1:Int) 248=(((byteC c).1 / 8*8:Nat):Int):=and248 hb256
 have d0_:(((byteC c).1:Int) == 195)=false:=beq_eq_false_iff_ne.2 (by omega)
 have d1_:((((byteC c).1 / 8*8:Nat):Int) == 80)=false:=beq_eq_false_iff_ne.2 (by omega)
 have d2_:((((byteC c).1 / 8*8:Nat):Int) == 88)=false:=beq_eq_false_iff_ne.2 (by omega)
 have d3_:(((byteC c).1:Int) == 65)=false:=beq_eq_false_iff_ne.2 (by omega)
 have d4_:(((byteC c).1:Int) == 233)=false:=beq_eq_false_iff_ne.2 (by omega)
 have d5_:(((byteC c).1:Int) == 15)=true:=beq_iff_eq.2 (by omega)
 have hk256:(byteC (byteC c).2).1 < 256:=(bok (bok h.ok).1).2
 have HBK:=Lh (fun (w_:World) (h_:CurAt 104 false L b w_ (byteC c).2)=>byte_any hL h_)
 have HN:=Lh (fun (w_:World) (h_:CurAt 104 false L b w_ (byteC (byteC c).2).2)=>dnum4_any hL h_)
 have HAT:=Lh (show jmpD.atKey (.int .i64 ((byteC (byteC c).2).1:Nat)) (tkL 0)=tkL (if (byteC (byteC c).2).1=133 then 31 else if (byteC (byteC c).2).1=130 then 32 else 0) from lit_is (jmp_at ⟨(byteC (byteC c).2).1,hk256⟩))
 rw [he]
 dsimp only
 clear he h hL hb256 n5
 generalize (numC 4 (byteC (byteC c).2).2).1=v at *
 generalize (numC 4 (byteC (byteC c).2).2).2=c3 at *
 generalize (byteC (byteC c).2).1=k at *
 generalize (byteC (byteC c).2).2=c2 at *
 generalize (byteC c).1 / 8*8=q at *
 generalize (byteC c).2=c1 at *
 generalize (byteC c).1=bb at *
 have hmm:=@run_makeMap Tryz.prog
 go_enter Tryz.func43,Tryz.ntmps43
 go_wp2_with (first | (refine wpList_store_row rfl 40 _ _ rfl w.heap.size _ rfl rfl 40 _ (HR.out) (by kernel_rfl) (by rfl) (by kernel_rfl) ?_) | (refine wpList_insert_in _ rfl _ _ _ 133 rfl 3 3 keyedI Tryz.underlying133 intE w1.heap.size _ _ rfl HMP.out (by unfold maxLen;decide) _ _ _ rfl rfl (Go.Maps.keyOf_int_mk Tryz.underlying3 (by decide)) _ _ (show intE (.int .i64 _)=some (tkL _,[]) from rfl) ?_;intro w4 hm4 ht4;have HMP:=Lh hm4;have hcg:=chg_grown (F:=fun j=>j=w1.heap.size) ht4.grown (fun j e=>by cases e;rfl);have HCm:=Lh (HCm.out.chg hcg (by have:=HML.out;omega));have HRm:=Lh ((hcg.block _ (lt_of_block HRm.out) (by have:=HML.out;omega)).trans HRm.out);have HGm:=Lh (HGm.out.trans' hcg (fun q hq1 hq2=>by have:=HML.out;omega));clear hm4 ht4 hcg) | ((with_reducible refine (HB.out _ HC.out).mono ?_);rintro e_ w1 ⟨rfl,hc1,hg1⟩;have HR:=Lh (keepS hg1 (by have:=HLT.out;omega) HR.out);have HG:=Lh (HG.out.trans hg1);have HC:=Lh hc1;clear hc1 hg1;have HMP:=Lh (World.ownsMap_made w1 Tryz.prog 3 intE);have HML:=Lh (show b < w1.heap.size∧w.heap.size < w1.heap.size from ⟨HC.out.lt,lt_of_block HR.out⟩);have HCm:=Lh (HC.out.alloc (.map #[] 0));have HRm:=Lh (show (w1.alloc (.map #[] 0)).heap[w.heap.size]? = _ from (heap_alloc_old w1 _ (lt_of_block HR.out)).trans HR.out);have HGm:=Lh (HG.out.alloc (.map #[] 0))) | ((with_reducible refine (HBK.out _ HCm.out).mono ?_);rintro e_ w5 ⟨rfl,hc5,hg5⟩;have hlk2:=int_look (own_chg HMP.out hg5 (by have:=HML.out;omega)) hk256 HAT.out;have HR:=Lh (keepS hg5 (by have:=HLT.out;omega) HRm.out);have HG:=Lh (HGm.out.trans hg5);have HC:=Lh hc5;clear hc5 hg5) | ((with_reducible refine (HN.out _ HC.out).mono ?_);rintro e_ w3 ⟨rfl,hc3,hg3⟩;have HR:=Lh (keepS hg3 (by have:=HLT.out;omega) HR.out);have HG:=Lh (HG.out.trans hg3);have HC:=Lh hc3;clear hc3 hg3))
 all_goals (refine bodyPost_ret (results_cell_row (ty:=40) rfl _ _ w.heap.size 40 _ (0,0) _ rfl (setRow_heap _ _ _ _ _ _ (HR.out)) Tryz.underlying40 rfl (by kernel_rfl)) rfl ⟨rfl,?_⟩)
 all_goals (exact ⟨HC.out.setRow (by have:=HLT.out;omega) _,HG.out.setRow (.inr (Nat.le_refl _)) _⟩)
set_option maxHeartbeats 8000000 in
theorem dany_mulx {L:List UInt8} {b:Nat} {c:Cur} {w:World} (f:Nat) (hL:L.length≤1000000000) (h:CurAt 104 false L b w c)  (n6:(byteC c).1=196) (he:anyC (f+1) c=(insR 19 (midC ((1 - (byteC (byteC c).2).1 / 128)*4+(1 - (byteC (byteC c).2).1 / 32 % 2)) (byteC (byteC (byteC (byteC (byteC c).2).2).2).2).1) ((15:Int) - ((byteC (byteC (byteC c).2).2).1 / 8 % 16:Nat)) (lastC ((1 - (byteC (byteC c).2).1 / 128)*4+(1 - (byteC (byteC c).2).1 / 32 % 2)) (byteC (byteC (byteC (byteC (byteC c).2).2).2).2).1) 0,(byteC (byteC (byteC (byteC (byteC c).2).2).2).2).2)):Calls Tryz.prog 43 #[.pointer (some ⟨b,0,none⟩)] w (CurSay 104 false L b w (anyC (f+1) c).2 (.agg (insRow (anyC (f+1) c).1).toArray)):=by
 have HLT:=Lh h.lt
 have hb256:(byteC c).1 < 256:=(bok h.ok).2
 have HB:=Lh (fun (w_:World) (h_:CurAt 104 false L b w_ c)=>byte_any hL h_)
 have HC:=Lh (show CurAt 104 false L b (w.alloc (.cells #[.int .i64 0,.int .i64 0,.int .i64 0,.int .i64 0,.int .i64 0,.int .i64 0,.int .i64 0,.int .i64 0,.int .i64 0] 40)) c from h.alloc _)
 have HR:=Lh (show (w.alloc (.cells #[.int .i64 0,.int .i64 0,.int .i64 0,.int .i64 0,.int .i64 0,.int .i64 0,.int .i64 0,.int .i64 0,.int .i64 0] 40)).heap[w.heap.size]? = some (.cells #[.int .i64 0,.int .i64 0,.int .i64 0,.int .i64 0,.int .i64 0,.int .i64 0,.int .i64 0,.int .i64 0,.int .i64 0] 40 (0,0)) from heap_alloc_new w _)
 have HG:=Lh ((Chg.refl (fun j=>j=b) w).alloc (.cells #[.int .i64 0,.int .i64 0,.int .i64 0,.int .i64 0,.int .i64 0,.int .i64 0,.int .i64 0,.int .i64 0,.int .i64 0] 40))
 have f1:Go.bits .and .i64 ((byteC c).1:Int) 248=(((byteC c).1 / 8*8:Nat):Int):=and248 hb256
 have d0_:(((byteC c).1:Int) == 195)=false:=beq_eq_false_iff_ne.2 (by omega)
 have d1_:((((byteC c).1 / 8*8:Nat):Int) == 80)=false:=beq_eq_false_iff_ne.2 (by omega)
 have d2_:((((byteC c).1 / 8*8:Nat):Int) == 88)=false:=beq_eq_false_iff_ne.2 (by omega)
 have d3_:(((byteC c).1:Int) == 65)=false:=beq_eq_false_iff_ne.2 (by omega)
 have d4_:(((byteC c).1:Int) == 233)=false:=beq_eq_false_iff_ne.2 (by omega)
 have d5_:(((byteC c).1:Int) == 15)=false:=beq_eq_false_iff_ne.2 (by omega)
 have d6_:(((byteC c).1:Int) == 196)=true:=beq_iff_eq.2 (by omega)
 have hx256:(byteC (byteC c).2).1 < 256:=(bok (bok h.ok).1).2
 have fx:=xor1 hx256
 have fa:Go.bits .and .i64 (((byteC (byteC c).2).1:Int) / 32) 1=(((byteC (byteC c).2).1 / 32 % 2:Nat):Int):=by rw [i64_and1];omega
 obtain ⟨fo,fr⟩:=or_q ⟨1 - (byteC (byteC c).2).1 / 128,by omega⟩ ⟨(byteC (byteC c).2).1 / 32 % 2,by omega⟩
 dsimp only at fo fr
 have hA2:1 - (byteC (byteC c).2).1 / 128 < 2:=by omega
 have fy:Go.bits .and .i64 (((byteC (byteC (byteC c).2).2).1:Int) / 8) 15=(((byteC (byteC (byteC c).2).2).1 / 8 % 16:Nat):Int):=by rw [i64_and15];omega
 have hy16:(byteC (byteC (byteC c).2).2).1 / 8 % 16 < 16:=by omega
 have HBX:=Lh (fun (w_:World) (h_:CurAt 104 false L b w_ (byteC c).2)=>byte_any hL h_)
 have HBY:=Lh (fun (w_:World) (h_:CurAt 104 false L b w_ (byteC (byteC c).2).2)=>byte_any hL h_)
 have HSK:=Lh (show ∀ (w_:World),CurAt 104 false L b w_ (byteC (byteC (byteC c).2).2).2→Calls Tryz.prog 71 #[.pointer (some ⟨b,0,none⟩),.int .i64 1] w_ (CurSay 104 false L b w_ (byteC (byteC (byteC (byteC c).2).2).2).2 (.pointer (some ⟨b,0,none⟩))) from fun w_ h_=>skip_any 1 (by decide) hL h_)
 have HBR:=Lh (fun (w_:World) (h_:CurAt 104 false L b w_ (byteC (byteC (byteC (byteC c).2).2).2).2)=>byte_any hL h_)
 have HM_:=Lh (fun w_=>dmid_any ((1 - (byteC (byteC c).2).1 / 128)*4+(1 - (byteC (byteC c).2).1 / 32 % 2)) (byteC (byteC (byteC (byteC (byteC c).2).2).2).2).1 w_)
 have HLA:=Lh (fun w_=>dlast_any ((1 - (byteC (byteC c).2).1 / 128)*4+(1 - (byteC (byteC c).2).1 / 32 % 2)) (byteC (byteC (byteC (byteC (byteC c).2).2).2).2).1 w_)
 rw [he]
 dsimp only
 clear he h hL hb256 hx256 n6
 generalize lastC ((1 - (byteC (byteC c).2).1 / 128)*4+(1 - (byteC (byteC c).2).1 / 32 % 2)) (byteC (byteC (byteC (byteC (byteC c).2).2).2).2).1=y at *
 generalize midC ((1 - (byteC (byteC c).2).1 / 128)*4+(1 - (byteC (byteC c).2).1 / 32 % 2)) (byteC (byteC (byteC (byteC (byteC c).2).2).2).2).1=x at *
 generalize ((1 - (byteC (byteC c).2).1 / 128)*4+(1 - (byteC (byteC c).2).1 / 32 % 2))=rr at *
 generalize (1 - (byteC (byteC c).2).1 / 128)*4+(byteC (byteC c).2).1 / 32 % 2=Q at *
 generalize 1 - (byteC (byteC c).2).1 / 128=A at *
 generalize (byteC (byteC c).2).1 / 32 % 2=Bb at *
 generalize (byteC (byteC (byteC c).2).2).1 / 8 % 16=my at *
 generalize (byteC (byteC (byteC (byteC (byteC c).2).2).2).2).1=rm at *
 generalize (byteC (byteC (byteC (byteC (byteC c).2).2).2).2).2=c5 at *
 generalize (byteC (byteC (byteC (byteC c).2).2).2).2=c4 at *
 generalize (byteC (byteC (byteC c).2).2).1=sy at *
 generalize (byteC (byteC (byteC c).2).2).2=c3 at *
 generalize (byteC (byteC c).2).1=sx at *
 generalize (byteC (byteC c).2).2=c2 at *
 generalize (byteC c).1 / 8*8=q at *
 generalize (byteC c).2=c1 at *
 generalize (byteC c).1=bb at *
 go_enter Tryz.func43,Tryz.ntmps43
 go_wp2_with (first | (refine wpList_store_row rfl 40 _ _ rfl w.heap.size _ rfl rfl 40 _ (HR.out) (by kernel_rfl) (by rfl) (by kernel_rfl) ?_) | ((with_reducible refine (HB.out _ HC.out).mono ?_);rintro e_ w1 ⟨rfl,hc1,hg1⟩;have HR:=Lh (keepS hg1 (by have:=HLT.out;omega) HR.out);have HG:=Lh (HG.out.trans hg1);have HC:=Lh hc1;clear hc1 hg1) | ((with_reducible refine (HBX.out _ HC.out).mono ?_);rintro e_ w3 ⟨rfl,hc3,hg3⟩;have HR:=Lh (keepS hg3 (by have:=HLT.out;omega) HR.out);have HG:=Lh (HG.out.trans hg3);have HC:=Lh hc3;clear hc3 hg3) | ((with_reducible refine (HBY.out _ HC.out).mono ?_);rintro e_ w3 ⟨rfl,hc3,hg3⟩;have HR:=Lh (keepS hg3 (by have:=HLT.out;omega) HR.out);have HG:=Lh (HG.out.trans hg3);have HC:=Lh hc3;clear hc3 hg3) | ((with_reducible refine (HSK.out _ HC.out).mono ?_);rintro e_ w3 ⟨rfl,hc3,hg3⟩;have HR:=Lh (keepS hg3 (by have:=HLT.out;omega) HR.out);have HG:=Lh (HG.out.trans hg3);have HC:=Lh hc3;clear hc3 hg3) | ((with_reducible refine (HBR.out _ HC.out).mono ?_);rintro e_ w3 ⟨rfl,hc3,hg3⟩;have HR:=Lh (keepS hg3 (by have:=HLT.out;omega) HR.out);have HG:=Lh (HG.out.trans hg3);have HC:=Lh hc3;clear hc3 hg3) | ((with_reducible refine (HM_.out _).mono ?_);rintro e wp_ ⟨rfl,hw1⟩;subst wp_) | ((with_reducible refine (HLA.out _).mono ?_);rintro e wp_ ⟨rfl,hw1⟩;subst wp_))
 refine bodyPost_ret (results_cell_row (ty:=40) rfl _ _ w.heap.size 40 _ (0,0) _ rfl (setRow_heap _ _ _ _ _ _ (HR.out)) Tryz.underlying40 rfl (by kernel_rfl)) rfl ⟨rfl,?_⟩
 exact ⟨HC.out.setRow (by have:=HLT.out;omega) _,HG.out.setRow (.inr (Nat.le_refl _)) _⟩
set_option maxHeartbeats 8000000 in
theorem dany_adcx {L:List UInt8} {b:Nat} {c:Cur} {w:World} (f:Nat) (hL:L.length≤1000000000) (h:CurAt 104 false L b w c)  (n7:(byteC c).1=102) (he:anyC (f+1) c=(insR 20 (midC (byteC (byteC c).2).1 (byteC (byteC (byteC (byteC (byteC (byteC c).2).2).2).2).2).1) (lastC (byteC (byteC c).2).1 (byteC (byteC (byteC (byteC (byteC (byteC c).2).2).2).2).2).1) 0 0,(byteC (byteC (byteC (byteC (byteC (byteC c).2).2).2).2).2).2)):Calls Tryz.prog 43 #[.pointer (some ⟨b,0,none⟩)] w (CurSay 104 false L b w (anyC (f+1) c).2 (.agg (insRow (anyC (f+1) c).1).toArray)):=by
 have HLT:=Lh h.lt
 have hb256:(byteC c).1 < 256:=(bok h.ok).2
 have HB:=Lh (fun (w_:World) (h_:CurAt 104 false L b w_ c)=>byte_any hL h_)
 have HC:=Lh (show CurAt 104 false L b (w.alloc (.cells #[.int .i64 0,.int .i64 0,.int .i64 0,.int .i64 0,.int .i64 0,.int .i64 0,.int .i64 0,.int .i64 0,.int .i64 0] 40)) c from h.alloc _)
 have HR:=Lh (show (w.alloc (.cells #[.int .i64 0,.int .i64 0,.int .i64 0,.int .i64 0,.int .i64 0,.int .i64 0,.int .i64 0,.int .i64 0,.int .i64 0] 40)).heap[w.heap.size]? = some (.cells #[.int .i64 0,.int .i64 0,.int .i64 0,.int .i64 0,.int .i64 0,.int .i64 0,.int .i64 0,.int .i64 0,.int .i64 0] 40 (0,0)) from heap_alloc_new w _)
 have HG:=Lh ((Chg.refl (fun j=>j=b) w).alloc (.cells #[.int .i64 0,.int .i64 0,.int .i64 0,.int .i64 0,.int .i64 0,.int .i64 0,.int .i64 0,.int .i64 0,.int .i64 0] 40))
 have f1:Go.bits .and .i64 ((byteC c).1:Int) 248=(((byteC c).1 / 8*8:Nat):Int):=and248 hb256
 have d0_:(((byteC c).1:Int) == 195)=false:=beq_eq_false_iff_ne.2 (by omega)
 have d1_:((((byteC c).1 / 8*8:Nat):Int) == 80)=false:=beq_eq_false_iff_ne.2 (by omega)
 have d2_:((((byteC c).1 / 8*8:Nat):Int) == 88)=false:=beq_eq_false_iff_ne.2 (by omega)
 have d3_:(((byteC c).1:Int) == 65)=false:=beq_eq_false_iff_ne.2 (by omega)
 have d4_:(((byteC c).1:Int) == 233)=false:=beq_eq_false_iff_ne.2 (by omega)
 have d5_:(((byteC c).1:Int) == 15)=false:=beq_eq_false_iff_ne.2 (by omega)
 have d6_:(((byteC c).1:Int) == 196)=false:=beq_eq_false_iff_ne.2 (by omega)
 have d7_:(((byteC c).1:Int) == 102)=true:=beq_iff_eq.2 (by omega)
 have HAT:=Lh (show adxD.atKey (.int .i64 ((byteC c).1:Nat)) (tkL 0)=tkL 20 from by rw [adx_at (by omega),if_pos n7])
 have HBX:=Lh (fun (w_:World) (h_:CurAt 104 false L b w_ (byteC c).2)=>byte_any hL h_)
 have HSK:=Lh (show ∀ (w_:World),CurAt 104 false L b w_ (byteC (byteC c).2).2→Calls Tryz.prog 71 #[.pointer (some ⟨b,0,none⟩),.int .i64 3] w_ (CurSay 104 false L b w_ (byteC (byteC (byteC (byteC (byteC c).2).2).2).2).2 (.pointer (some ⟨b,0,none⟩))) from fun w_ h_=>skip_any 3 (by decide) hL h_)
 have HBR:=Lh (fun (w_:World) (h_:CurAt 104 false L b w_ (byteC (byteC (byteC (byteC (byteC c).2).2).2).2).2)=>byte_any hL h_)
 have HM_:=Lh (fun w_=>dmid_any (byteC (byteC c).2).1 (byteC (byteC (byteC (byteC (byteC (byteC c).2).2).2).2).2).1 w_)
 have HLA:=Lh (fun w_=>dlast_any (byteC (byteC c).2).1 (byteC (byteC (byteC (byteC (byteC (byteC c).2).2).2).2).2).1 w_)
 rw [he]
 dsimp only
 clear he h hL n7
 generalize lastC (byteC (byteC c).2).1 (byteC (byteC (byteC (byteC (byteC (byteC c).2).2).2).2).2).1=y at *
 generalize midC (byteC (byteC c).2).1 (byteC (byteC (byteC (byteC (byteC (byteC c).2).2).2).2).2).1=x at *
 generalize (byteC (byteC (byteC (byteC (byteC (byteC c).2).2).2).2).2).1=rm at *
 generalize (byteC (byteC (byteC (byteC (byteC (byteC c).2).2).2).2).2).2=c4 at *
 generalize (byteC (byteC (byteC (byteC (byteC c).2).2).2).2).2=c3 at *
 generalize (byteC (byteC c).2).1=sx at *
 generalize (byteC (byteC c).2).2=c2 at *
 generalize (byteC c).1 / 8*8=q at *
 generalize (byteC c).2=c1 at *
 generalize (byteC c).1=bb at *
 have hmm:=@run_makeMap Tryz.prog
 go_enter Tryz.func43,Tryz.ntmps43
 go_wp2_with (first | (refine wpList_store_row rfl 40 _ _ rfl w.heap.size _ rfl rfl 40 _ (HRm.out) (by kernel_rfl) (by rfl) (by kernel_rfl) ?_) | (refine wpList_insert_in _ rfl _ _ _ 133 rfl 3 3 keyedI Tryz.underlying133 intE w6.heap.size _ _ rfl HMP.out (by unfold maxLen;decide) _ _ _ rfl rfl (Go.Maps.keyOf_int_mk Tryz.underlying3 (by decide)) _ _ (show intE (.int .i64 _)=some (tkL _,[]) from rfl) ?_;intro w4 hm4 ht4;have HMP:=Lh hm4;have hcg:=chg_grown (F:=fun j=>j=w6.heap.size) ht4.grown (fun j e=>by cases e;rfl);have HCm:=Lh (HCm.out.chg hcg (by have:=HML.out;omega));have HRm:=Lh ((hcg.block _ (lt_of_block HRm.out) (by have:=HML.out;omega)).trans HRm.out);have HGm:=Lh (HGm.out.trans' hcg (fun q hq1 hq2=>by have:=HML.out;omega));clear hm4 ht4 hcg;try (have hlk2:=int_look HMP.out hb256 HAT.out)) | ((with_reducible refine (HB.out _ HC.out).mono ?_);rintro e_ w1 ⟨rfl,hc1,hg1⟩;have HR:=Lh (keepS hg1 (by have:=HLT.out;omega) HR.out);have HG:=Lh (HG.out.trans hg1);have HC:=Lh hc1;clear hc1 hg1) | ((with_reducible refine (HBX.out _ HC.out).mono ?_);rintro e_ w3 ⟨rfl,hc3,hg3⟩;have HR:=Lh (keepS hg3 (by have:=HLT.out;omega) HR.out);have HG:=Lh (HG.out.trans hg3);have HC:=Lh hc3;clear hc3 hg3) | ((with_reducible refine (HSK.out _ HC.out).mono ?_);rintro e_ w3 ⟨rfl,hc3,hg3⟩;have HR:=Lh (keepS hg3 (by have:=HLT.out;omega) HR.out);have HG:=Lh (HG.out.trans hg3);have HC:=Lh hc3;clear hc3 hg3) | ((with_reducible refine (HBR.out _ HC.out).mono ?_);rintro e_ w6 ⟨rfl,hc3,hg3⟩;have HR:=Lh (keepS hg3 (by have:=HLT.out;omega) HR.out);have HG:=Lh (HG.out.trans hg3);have HC:=Lh hc3;clear hc3 hg3;have HMP:=Lh (World.ownsMap_made w6 Tryz.prog 3 intE);have HML:=Lh (show b < w6.heap.size∧w.heap.size < w6.heap.size from ⟨HC.out.lt,lt_of_block HR.out⟩);have HCm:=Lh (HC.out.alloc (.map #[] 0));have HRm:=Lh (show (w6.alloc (.map #[] 0)).heap[w.heap.size]? = _ from (heap_alloc_old w6 _ (lt_of_block HR.out)).trans HR.out);have HGm:=Lh (HG.out.alloc (.map #[] 0))) | ((with_reducible refine (HM_.out _).mono ?_);rintro e wp_ ⟨rfl,hw1⟩;subst wp_) | ((with_reducible refine (HLA.out _).mono ?_);rintro e wp_ ⟨rfl,hw1⟩;subst wp_))
 all_goals (refine bodyPost_ret (results_cell_row (ty:=40) rfl _ _ w.heap.size 40 _ (0,0) _ rfl (setRow_heap _ _ _ _ _ _ (HRm.out)) Tryz.underlying40 rfl (by kernel_rfl)) rfl ⟨rfl,?_⟩)
 all_goals (exact ⟨HCm.out.setRow (by have:=HLT.out;omega) _,HGm.out.setRow (.inr (Nat.le_refl _)) _⟩)
set_option maxHeartbeats 8000000 in
theorem dany_adox {L:List UInt8} {b:Nat} {c:Cur} {w:World} (f:Nat) (hL:L.length≤1000000000) (h:CurAt 104 false L b w c)  (n8:(byteC c).1=243) (he:anyC (f+1) c=(insR 21 (midC (byteC (byteC c).2).1 (byteC (byteC (byteC (byteC (byteC (byteC c).2).2).2).2).2).1) (lastC (byteC (byteC c).2).1 (byteC (byteC (byteC (byteC (byteC (byteC c).2).2).2).2).2).1) 0 0,(byteC (byteC (byteC (byteC (byteC (byteC c).2).2).2).2).2).2)):Calls Tryz.prog 43 #[.pointer (some ⟨b,0,none⟩)] w (CurSay 104 false L b w (anyC (f+1) c).2 (.agg (insRow (anyC (f+1) c).1).toArray)):=by
 have HLT:=Lh h.lt
 have hb256:(byteC c).1 < 256:=(bok h.ok).2
 have HB:=Lh (fun (w_:World) (h_:CurAt 104 false L b w_ c)=>byte_any hL h_)
 have HC:=Lh (show CurAt 104 false L b (w.alloc (.cells #[.int .i64 0,.int .i64 0,.int .i64 0,.int .i64 0,.int .i64 0,.int .i64 0,.int .i64 0,.int .i64 0,.int .i64 0] 40)) c from h.alloc _)
 have HR:=Lh (show (w.alloc (.cells #[.int .i64 0,.int .i64 0,.int .i64 0,.int .i64 0,.int .i64 0,.int .i64 0,.int .i64 0,.int .i64 0,.int .i64 0] 40)).heap[w.heap.size]? = some (.cells #[.int .i64 0,.int .i64 0,.int .i64 0,.int .i64 0,.int .i64 0,.int .i64 0,.int .i64 0,.int .i64 0,.int .i64 0] 40 (0,0)) from heap_alloc_new w _)
 have HG:=Lh ((Chg.refl (fun j=>j=b) w).alloc (.cells #[.int .i64 0,.int .i64 0,.int .i64 0,.int .i64 0,.int .i64 0,.int .i64 0,.int .i64 0,.int .i64 0,.int .i64 0] 40))
 have f1:Go.bits .and .i64 ((byteC c).1:Int) 248=(((byteC c).1 / 8*8:Nat):Int):=and248 hb256
 have d0_:(((byteC c).1:Int) == 195)=false:=beq_eq_false_iff_ne.2 (by omega)
 have d1_:((((byteC c).1 / 8*8:Nat):Int) == 80)=false:=beq_eq_false_iff_ne.2 (by omega)
 have d2_:((((byteC c).1 / 8*8:Nat):Int) == 88)=false:=beq_eq_false_iff_ne.2 (by omega)
 have d3_:(((byteC c).1:Int) == 65)=false:=beq_eq_false_iff_ne.2 (by omega)
 have d4_:(((byteC c).1:Int) == 233)=false:=beq_eq_false_iff_ne.2 (by omega)
 have d5_:(((byteC c).1:Int) == 15)=false:=beq_eq_false_iff_ne.2 (by omega)
 have d6_:(((byteC c).1:Int) == 196)=false:=beq_eq_false_iff_ne.2 (by omega)
 have d7_:(((byteC c).1:Int) == 102)=false:=beq_eq_false_iff_ne.2 (by omega)
 have d8_:(((byteC c).1:Int) == 243)=true:=beq_iff_eq.2 (by omega)
 have HAT:=Lh (show adxD.atKey (.int .i64 ((byteC c).1:Nat)) (tkL 0)=tkL 21 from by rw [adx_at (by omega),if_neg (by omega)])
 have HBX:=Lh (fun (w_:World) (h_:CurAt 104 false L b w_ (byteC c).2)=>byte_any hL h_)
 have HSK:=Lh (show ∀ (w_:World),CurAt 104 false L b w_ (byteC (byteC c).2).2→Calls Tryz.prog 71 #[.pointer (some ⟨b,0,none⟩),.int .i64 3] w_ (CurSay 104 false L b w_ (byteC (byteC (byteC (byteC (byteC c).2).2).2).2).2 (.pointer (some ⟨b,0,none⟩))) from fun w_ h_=>skip_any 3 (by decide) hL h_)
 have HBR:=Lh (fun (w_:World) (h_:CurAt 104 false L b w_ (byteC (byteC (byteC (byteC (byteC c).2).2).2).2).2)=>byte_any hL h_)
 have HM_:=Lh (fun w_=>dmid_any (byteC (byteC c).2).1 (byteC (byteC (byteC (byteC (byteC (byteC c).2).2).2).2).2).1 w_)
 have HLA:=Lh (fun w_=>dlast_any (byteC (byteC c).2).1 (byteC (byteC (byteC (byteC (byteC (byteC c).2).2).2).2).2).1 w_)
 rw [he]
 dsimp only
 clear he h hL n8
 generalize lastC (byteC (byteC c).2).1 (byteC (byteC (byteC (byteC (byteC (byteC c).2).2).2).2).2).1=y at *
 generalize midC (byteC (byteC c).2).1 (byteC (byteC (byteC (byteC (byteC (byteC c).2).2).2).2).2).1=x at *
 generalize (byteC (byteC (byteC (byteC (byteC (byteC c).2).2).2).2).2).1=rm at *
 generalize (byteC (byteC (byteC (byteC (byteC (byteC c).2).2).2).2).2).2=c4 at *
 generalize (byteC (byteC (byteC (byteC (byteC c).2).2).2).2).2=c3 at *
 generalize (byteC (byteC c).2).1=sx at *
 generalize (byteC (byteC c).2).2=c2 at *
 generalize (byteC c).1 / 8*8=q at *
 generalize (byteC c).2=c1 at *
 generalize (byteC c).1=bb at *
 have hmm:=@run_makeMap Tryz.prog
 go_enter Tryz.func43,Tryz.ntmps43
 go_wp2_with (first | (refine wpList_store_row rfl 40 _ _ rfl w.heap.size _ rfl rfl 40 _ (HRm.out) (by kernel_rfl) (by rfl) (by kernel_rfl) ?_) | (refine wpList_insert_in _ rfl _ _ _ 133 rfl 3 3 keyedI Tryz.underlying133 intE w6.heap.size _ _ rfl HMP.out (by unfold maxLen;decide) _ _ _ rfl rfl (Go.Maps.keyOf_int_mk Tryz.underlying3 (by decide)) _ _ (show intE (.int .i64 _)=some (tkL _,[]) from rfl) ?_;intro w4 hm4 ht4;have HMP:=Lh hm4;have hcg:=chg_grown (F:=fun j=>j=w6.heap.size) ht4.grown (fun j e=>by cases e;rfl);have HCm:=Lh (HCm.out.chg hcg (by have:=HML.out;omega));have HRm:=Lh ((hcg.block _ (lt_of_block HRm.out) (by have:=HML.out;omega)).trans HRm.out);have HGm:=Lh (HGm.out.trans' hcg (fun q hq1 hq2=>by have:=HML.out;omega));clear hm4 ht4 hcg;try (have hlk2:=int_look HMP.out hb256 HAT.out)) | ((with_reducible refine (HB.out _ HC.out).mono ?_);rintro e_ w1 ⟨rfl,hc1,hg1⟩;have HR:=Lh (keepS hg1 (by have:=HLT.out;omega) HR.out);have HG:=Lh (HG.out.trans hg1);have HC:=Lh hc1;clear hc1 hg1) | ((with_reducible refine (HBX.out _ HC.out).mono ?_);rintro e_ w3 ⟨rfl,hc3,hg3⟩;have HR:=Lh (keepS hg3 (by have:=HLT.out;omega) HR.out);have HG:=Lh (HG.out.trans hg3);have HC:=Lh hc3;clear hc3 hg3) | ((with_reducible refine (HSK.out _ HC.out).mono ?_);rintro e_ w3 ⟨rfl,hc3,hg3⟩;have HR:=Lh (keepS hg3 (by have:=HLT.out;omega) HR.out);have HG:=Lh (HG.out.trans hg3);have HC:=Lh hc3;clear hc3 hg3) | ((with_reducible refine (HBR.out _ HC.out).mono ?_);rintro e_ w6 ⟨rfl,hc3,hg3⟩;have HR:=Lh (keepS hg3 (by have:=HLT.out;omega) HR.out);have HG:=Lh (HG.out.trans hg3);have HC:=Lh hc3;clear hc3 hg3;have HMP:=Lh (World.ownsMap_made w6 Tryz.prog 3 intE);have HML:=Lh (show b < w6.heap.size∧w.heap.size < w6.heap.size from ⟨HC.out.lt,lt_of_block HR.out⟩);have HCm:=Lh (HC.out.alloc (.map #[] 0));have HRm:=Lh (show (w6.alloc (.map #[] 0)).heap[w.heap.size]? = _ from (heap_alloc_old w6 _ (lt_of_block HR.out)).trans HR.out);have HGm:=Lh (HG.out.alloc (.map #[] 0))) | ((with_reducible refine (HM_.out _).mono ?_);rintro e wp_ ⟨rfl,hw1⟩;subst wp_) | ((with_reducible refine (HLA.out _).mono ?_);rintro e wp_ ⟨rfl,hw1⟩;subst wp_))
 all_goals (refine bodyPost_ret (results_cell_row (ty:=40) rfl _ _ w.heap.size 40 _ (0,0) _ rfl (setRow_heap _ _ _ _ _ _ (HRm.out)) Tryz.underlying40 rfl (by kernel_rfl)) rfl ⟨rfl,?_⟩)
 all_goals (exact ⟨HCm.out.setRow (by have:=HLT.out;omega) _,HGm.out.setRow (.inr (Nat.le_refl _)) _⟩)
end Go.Proofs.YtocndimihokcmaaGreat
