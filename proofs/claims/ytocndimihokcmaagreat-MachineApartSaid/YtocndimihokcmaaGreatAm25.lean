/- Part 25 of a claim; what it proves stands in its last text. -/
import Derived.Test.YtocndimihokcmaaGreatAm24
import Derived.RangeFuncBox
import Derived.Test.YtocndimihokcmaaGreatAm2
import Derived.DeepKeys
import Derived.Test.YtocndimihokcmaaGreatAm4
import Derived.Lib.BufferRead
namespace Go.Proofs.YtocndimihokcmaaGreat
open Go.RowKit
set_option maxRecDepth 100000
attribute [local go_sem] Oper.semAt_some
theorem RAt.same {w0:World} {F I:Nat→Prop} {fn:FuncId} {tm:Array Value} {B0 Bs l D:Nat} {pre:List Ev} {W W':World} (h:RAt w0 F fn tm B0 Bs l D pre W) (hc:Chg I W W') (hw:∀ j,I j→j < B0∧j≠Bs∧j≠l∧j≠D) (ho:∀ j,I j→Over F w0.heap.size j):RAt w0 F fn tm B0 Bs l D pre W':=by
 obtain ⟨v,hv,hr⟩:=h.box
 exact ⟨⟨v,(hc.block _ (lt_of_block hv) (fun e=>(hw _ e).2.1 rfl)).trans hv,own_same hr (fun q hq=>hc.block q (own_ltB hr q hq).1 (fun e=>by have h1:=(hw q e).1;have h2:=(own_ltB hr q hq).2;omega))⟩,(hc.block _ (lt_of_block h.L) (fun e=>(hw _ e).2.2.1 rfl)).trans h.L,(hc.block _ (lt_of_block h.K) (fun e=>(hw _ e).2.2.2 rfl)).trans h.K,h.chg.trans' hc (fun j _ hj=>ho j hj),Nat.le_trans h.le hc.size⟩
theorem KxOf.lt {w0:World} {F:Nat→Prop} {fn:FuncId} {tm:Array Value} {B0 Bs l D:Nat} {pre:List Ev} {W:World} (h:RAt w0 F fn tm B0 Bs l D pre W) {j:Nat} (hj:KxOf Bs l W j):j < W.heap.size∧(j=Bs∨j=l∨B0≤j):=by
 obtain ⟨v,hv,hr⟩:=h.box
 rcases hj with rfl | rfl | ⟨aC,h1,h2⟩
 · exact ⟨lt_of_block hv,.inl rfl⟩
 · exact ⟨lt_of_block h.L,.inr (.inl rfl)⟩
 · rw [hv] at h1
   obtain rfl:v=aC:=by simpa using h1
   exact ⟨(own_ltB hr j h2).1,.inr (.inr (own_ltB hr j h2).2)⟩
def ranRow (s:St) (n err:Int):List Value:=stRow s++[.int .i64 n,.int .i64 err]
theorem ran_at {s:St} {n err:Int} {code m:Value} {g:Nat} {j:Nat} {v:Value} (h:(ranRow s n err)[j]? = some v):(runRow s n err code m g)[j]? = some v:=by
 have e:runRow s n err code m g=ranRow s n err++[code,m,.map (some g)]:=by unfold runRow ranRow;rw [List.append_assoc];rfl
 rw [e,List.getElem?_append_left (List.getElem?_eq_some_iff.1 h).1]
 exact h
theorem infoRan:(Tryz.prog.info? 32).map (·.size)=some 22:=by kernel_rfl
theorem ran_size {s:St} (hs:StOk s) {n err:Int}:(ranRow s n err).toArray.size=22:=by simp [ranRow,stRow_len hs]
theorem own_low {w:World} {b b' e sz n:Nat} {v:Value} {xs:List Value} (h:w.ownsRow b e sz v n xs) (hb:b'≤b):w.ownsRow b' e sz v n xs:=by
 refine ⟨h.1,?_⟩
 rcases h.2 with hn | ⟨g,cap,cur,hv,hbg,rest⟩
 · exact .inl hn
 · exact .inr ⟨g,cap,cur,hv,Nat.le_trans hb hbg,rest⟩
theorem ran_ones (s:St) (n err:Int):(ranRow s n err).toArray.all (·.oneCell')=true:=by
 rw [List.all_toArray,List.all_eq_true]
 intro v hv
 unfold ranRow at hv
 rcases List.mem_append.1 hv with h | h
 · exact st_ones s v (by simpa using h)
 · simp at h
   rcases h with rfl | rfl <;> rfl
set_option maxHeartbeats 4000000 in
theorem Run_good {code:List UInt8} {s:St} {pm:Addr} {fuel:Nat} {w:World} {F:Nat→Prop} {rs:List Reg} (hs:StOk s) (hl:code.length≤1048576) (h1:fuel≤1073741824) (hm:MemAt w F (.pointer (some pm)) rs) (hF:∀ q,F q→q < w.heap.size) (tot:RunR) (htot:tot=runF (natsB code) fuel s rs 0) (hN:tot.evs.length≤1000000000000) :
   CallsIn Fence.wide 2 Tryz.prog 8 #[strB code,.agg (stRow s).toArray,.pointer (some pm),.int .i64 fuel] w fun e w'=>∃ v,e=.returned (.tuple #[.agg (ranRow tot.st tot.steps tot.err).toArray,v])∧w'.ownsRow w.heap.size 56 2 v tot.evs.length (tot.evs.map evRow).flatten∧MemAt w' F (.pointer (some pm)) tot.rs∧Chg (Over F w.heap.size) w w'∧StOk tot.st:=by
 refine callsIn_of_wp_marks Tryz.func8 rfl trivial ?_ rfl
 simp only [Tryz.ntmps8,List.size_toArray,List.length_cons,List.length_nil,Nat.reduceAdd,Nat.reduceSub,Array.replicate_succ,Array.replicate_zero,List.push_toArray,List.append_toArray,List.nil_append,List.cons_append]
 have HSG:=Lh (fun w_=>start_good (fuel:=fuel) (pm:=pm) (w:=w_) hs hl (by omega) (by omega))
 have HEV:=Lh (fun (b:Nat) (w_:World)=>events_any (b:=b) (fuel:=fuel) (w:=w_))
 have HSO:=Lh hs
 have hz:∀ o:Obj,((w.alloc (.cells (stRow s).toArray 26)).alloc o).heap[w.heap.size]? = some (.cells (stRow s).toArray 26 (0,0)):=fun o=>(heap_alloc_old _ _ (by simp)).trans (heap_alloc_new w _)
 have HZ:=Lh hz
 have HL:=Lh hl
 have HTOT:=Lh htot
 have HM:=Lh hm
 have HF:=Lh hF
 have HF1:=Lh h1
 have HNN:=Lh hN
 clear hs hl hz htot hm hF h1 hN
 gi_wp2_with (first | (refine wpListIn_loadRow rfl 26 _ rfl w.heap.size rfl 26 (stRow s).toArray (0,0) _ (HZ.out _) Tryz.underlying26 rfl (by rw [stRow_size HSO.out];exact infoSt) ?_) | (refine ⟨trivial,(callsIn_wide.2 (HSG.out _)).mono ?_⟩;rintro e_ w1 ⟨b,g,rfl,hra,hb1,hbb,hgg⟩) | (refine ⟨trivial,(callsIn_wide.2 (HEV.out _ _)).mono ?_⟩;rintro e_ w2 ⟨rfl,hw2⟩))
 refine wpIn_rangeFunc ?_
 intro fn hfn
 rw [show Fence.wide.round=none from rfl]
 rw [←hw2]
 have hws:w.heap.size+2≤w1.heap.size:=by have:=hb1.size;simp only [World.size_alloc] at this;omega
 have hs2:w2.heap.size=w1.heap.size+3:=by rw [hw2];simp
 have hbw:w.heap.size+2≤b:=by have:=hbb;simp only [World.size_alloc] at this;omega
 have hgw:w.heap.size+2≤g:=by have:=hgg;simp only [World.size_alloc] at this;omega
 have hbl:b < w1.heap.size:=lt_of_block hra.blk
 have hgl:g < w1.heap.size:=by obtain ⟨c_,D_,_,ho_,_⟩:=hra.known;exact ho_.lt
 have hc2:Chg (fun _=>False) w1 w2:=by rw [hw2];exact (((Chg.refl _ w1).alloc _).alloc _).alloc _
 have hbox:w2.heap[w1.heap.size]? = some (.cells #[.slice none 0 0] 33 (0,0))∧w2.heap[w1.heap.size+1]? = some (.cells #[.pointer (some ⟨b,0,none⟩)] 61 (0,0))∧w2.heap[w1.heap.size+2]? = some (.cells #[.int .i64 fuel] 3 (0,0)):=by
   rw [hw2]
   refine ⟨?_,?_,?_⟩
   · rw [heap_alloc_old _ _ (by simp;omega),heap_alloc_old _ _ (by simp)];exact heap_alloc_new w1 _
   · rw [heap_alloc_old _ _ (by simp)];have:=heap_alloc_new (w1.alloc (.cells #[.slice none 0 0] 33)) (.cells #[.pointer (some ⟨b,0,none⟩)] 61);rwa [World.size_alloc] at this
   · have:=heap_alloc_new ((w1.alloc (.cells #[.slice none 0 0] 33)).alloc (.cells #[.pointer (some ⟨b,0,none⟩)] 61)) (.cells #[.int .i64 fuel] 3);rwa [World.size_alloc,World.size_alloc] at this
 have hcw1:Chg (fun _=>False) w w1:=(((Chg.refl _ w).alloc _).alloc _).trans' (Chg.of_below hb1) (fun _ _ h=>h)
 have hcw2:Chg (fun _=>False) w w2:=hcw1.trans hc2
 obtain ⟨W1,hW1⟩:∃ W1,(w2.alloc (.deferred (some []))).alloc (.loop (runRec fn (runTm (strB code) (.agg (stRow s).toArray) (.pointer (some pm)) fuel w.heap.size b w1.heap.size) w2.heap.size .ready none))=W1:=⟨_,rfl⟩
 have hold:∀ k,k < w2.heap.size→W1.heap[k]? = w2.heap[k]?:=fun k hk=>by
   rw [←hW1];exact (heap_alloc_old _ _ (by simp;omega)).trans (heap_alloc_old _ _ hk)
 have hs1:W1.heap.size=w1.heap.size+5:=by rw [←hW1];simp;omega
 have hcW1:Chg (fun _=>False) w2 W1:=by rw [←hW1];exact ((Chg.refl _ w2).alloc _).alloc _
 have hM:RAt w1 (IterB b g F) fn (runTm (strB code) (.agg (stRow s).toArray) (.pointer (some pm)) fuel w.heap.size b w1.heap.size) (w1.heap.size+5) w1.heap.size (w2.heap.size+1) w2.heap.size [] W1 :=
   ⟨⟨_,(hold _ (by omega)).trans hbox.1,⟨rfl,.inl ⟨rfl,rfl⟩⟩⟩,
    by rw [←hW1];have:=World.alloc_heap_new (w2.alloc (.deferred (some []))) (.loop (runRec fn (runTm (strB code) (.agg (stRow s).toArray) (.pointer (some pm)) fuel w.heap.size b w1.heap.size) w2.heap.size .ready none));rwa [World.size_alloc] at this,
    by rw [←hW1];exact (heap_alloc_old _ _ (by simp)).trans (heap_alloc_new w2 _),(hc2.trans hcW1).mono (fun _ _ h=>h.elim),by omega⟩
 have hIB:∀ j,IterB b g F j→j < w1.heap.size:=by
   rintro j (rfl | rfl | h)
   · exact hbl
   · exact hgl
   · have:=HF.out j h;omega
 refine ⟨w2.heap.size+1,[{ target:=.collected w2.heap.size,args:=#[] }],W1,{ target:=.fn (.func 40) #[.pointer (some ⟨w1.heap.size+1,0,none⟩),.pointer (some ⟨w1.heap.size+1+1,0,none⟩)],args:=#[.func (.yield (w2.heap.size+1)) #[] #[]] },W1,40,
   #[.func (.yield (w2.heap.size+1)) #[] #[]] ++ #[.pointer (some ⟨w1.heap.size+1,0,none⟩),.pointer (some ⟨w1.heap.size+1+1,0,none⟩)],W1,?_,?_,?_,?_,fun _=>by decide,?_⟩
 · rw [←hW1];exact run_enterLoop_outer _ _ _ _ _
 · simp [resolve,go_sem]
 · intro f' hf';trivial
 · simp [invoke,go_sem]
 · refine (iter_in (l:=w2.heap.size+1) (b:=b) (g:=g) (bp:=w1.heap.size+1) (bf:=w1.heap.size+1+1) (F:=F) (W0:=W1) (RAt w1 (IterB b g F) fn (runTm (strB code) (.agg (stRow s).toArray) (.pointer (some pm)) fuel w.heap.size b w1.heap.size) (w1.heap.size+5) w1.heap.size (w2.heap.size+1) w2.heap.size) (KxOf w1.heap.size (w2.heap.size+1)) tot HTOT.out (by have:=HL.out;omega) HF1.out HNN.out
     (fun pre W W' hJ hc=>hJ.same hc (fun j hj=>by have:=hIB j hj;omega) (fun j hj=>.inl hj))
     (fun pre x W hJ hl=>run_yieldAt (by omega) (by omega) (by omega) (by omega) (by omega) (by omega) HNN.out hJ hl)
     (fun pre W W' j hJ hc hj=>?_)
     (fun pre W j hJ hj=>?_)
     (fun q hq=>by have:=HF.out q hq;omega) (fun e=>by have:=HF.out b e;omega) (fun e=>by have:=HF.out g e;omega) ⟨fun e=>by have:=hIB _ e;omega,fun e=>by have:=hIB _ e;omega⟩
     ((hra.chg hc2 (fun e=>e) (fun e=>e)).chg hcW1 (fun e=>e) (fun e=>e)) (HM.out.keep ((hcw2.trans hcW1).same (fun z hz=>⟨HF.out z hz,fun e=>e⟩)))
     ?_ ?_ hM).mono ?_
   · rcases hj with rfl | rfl | ⟨v,hv1,hv2⟩
     · exact .inl rfl
     · exact .inr (.inl rfl)
     · refine .inr (.inr ⟨v,?_,hv2⟩)
       obtain ⟨eE,hv0,_⟩:=hJ.box
       rw [←hv1]
       exact (hc.block _ (lt_of_block hv0) (fun e=>by have:=hIB _ e;omega)).symm
   · obtain ⟨k1,k2⟩:=KxOf.lt hJ hj
     exact ⟨fun e=>by have:=hIB _ e;omega,by omega,by omega,k1⟩
   · have h9:=(hold (w1.heap.size+1) (by omega)).trans hbox.2.1
     simp [World.cell?,h9]
   · have h9:=(hold (w1.heap.size+1+1) (by omega)).trans hbox.2.2
     simp [World.cell?,h9]
   · rintro e W2 ⟨⟨eE,rfl⟩,h2,⟨k2,hra2⟩,hma2⟩
     obtain ⟨v,hv,hrow⟩:=h2.box
     have hend:=run_endLoop (P:=Tryz.prog) h2.L (by simp [runRec])
     obtain ⟨W3,hW3⟩:∃ W3,W2.putObj (w2.heap.size+1) (.loop { runRec fn (runTm (strB code) (.agg (stRow s).toArray) (.pointer (some pm)) fuel w.heap.size b w1.heap.size) w2.heap.size .ready none with state:=.exhausted })=W3:=⟨_,rfl⟩
     rw [hW3] at hend
     refine ⟨none,W3,hend,?_⟩
     have hl2:w2.heap.size+1 < W2.heap.size:=lt_of_block h2.L
     have hc3:Chg (fun j=>j=w2.heap.size+1) W2 W3:=by rw [←hW3];exact chg_putObj (F:=fun j=>j=w2.heap.size+1) (Chg.refl _ W2) rfl _
     have hv3:W3.heap[w1.heap.size]? = some (.cells #[v] 33 (0,0)):=(hc3.block _ (lt_of_block hv) (by omega)).trans hv
     have hK3:W3.heap[w2.heap.size]? = some (.deferred (some [])):=(hc3.block _ (lt_of_block h2.K) (by omega)).trans h2.K
     have hra3:=hra2.chg hc3 (by omega) (by omega)
     have hma3:=hma2.keep (hc3.same (fun z hz=>⟨by have h7:=HF.out z hz;have h8:=h2.chg.size;omega,by have:=HF.out z hz;omega⟩))
     have hrow3:W3.ownsRow (w1.heap.size+5) 56 2 v tot.evs.length (tot.evs.map evRow).flatten:=own_same hrow (fun q hq=>hc3.block q (own_ltB hrow q hq).1 (by have:=(own_ltB hrow q hq).2;omega))
     have hchg3:Chg (Over (IterB b g F) w1.heap.size) w1 W3:=h2.chg.trans' hc3 (fun j _ hj=>.inr (by omega))
     have hz1:w1.heap[w.heap.size+1]? = some (.cells (ranRow ⟨[0,0,0,0,0,0,0,0,0,0,0,0,0,0,0,0],0,false,false,false⟩ 0 0).toArray 32 (0,0)):=by
       refine (hb1.block _ (by simp)).trans ?_
       have:=heap_alloc_new (w.alloc (.cells (stRow s).toArray 26)) (.cells (ranRow ⟨[0,0,0,0,0,0,0,0,0,0,0,0,0,0,0,0],0,false,false,false⟩ 0 0).toArray 32)
       rwa [World.size_alloc] at this
     have hnI:¬ Over (IterB b g F) w1.heap.size (w.heap.size+1):=by
       rintro ((e | e | e) | e)
       · omega
       · omega
       · have:=HF.out _ e;omega
       · omega
     have hz3:W3.heap[w.heap.size+1]? = some (.cells (ranRow ⟨[0,0,0,0,0,0,0,0,0,0,0,0,0,0,0,0],0,false,false,false⟩ 0 0).toArray 32 (0,0)):=(hchg3.block _ (by omega) hnI).trans hz1
     have HV3:=Lh hv3
     have HK3:=Lh hK3
     have HR3:=Lh hra3
     have HM3:=Lh hma3
     have HROW3:=Lh hrow3
     have HCH3:=Lh hchg3
     have HZ3:=Lh hz3
     have HWS:=Lh (show w.heap.size+2≤w1.heap.size∧w2.heap.size=w1.heap.size+3∧b≠w.heap.size+1∧g≠w.heap.size+1 from ⟨hws,hs2,by omega,by omega⟩)
     have HCW1:=Lh hcw1
     obtain ⟨A,c,rfl,hno_⟩:=own_formB hrow
     clear hno_
     clear hc3 hv3 hK3 hra3 hma3 hrow3 hchg3 hz1 hz3 hnI hend hW3 hrow hv hma2 hra2 h2 hl2
     rename_i K_ hK_
     refine hK_ _ _ ?_
     clear hK_
     refine wpIn_seq ?_
     refine wpIn_wide.2 ?_
     (refine wp_region_lines (fun w_=>Chg (fun j=>j=w.heap.size+1) W3 w_) (by kernel_rfl) (by kernel_rfl) (Chg.refl _ _).drew ?_)
     (try simp only [])
     repeat (first | (refine runL_no (by rfl) ?_;(try simp only [Act.put,List.setIfInBounds_toArray,List.set_cons_zero,List.set_cons_succ])) | (refine runL_val (v:=?_) (by rfl) ?_ ?_;rotate_left;(focus (intro w_ hw_;have fB_:w_.cell? ⟨w1.heap.size,0,none⟩=some (.slice A tot.evs.length c):=(by have h9:=(hw_.block _ (lt_of_block HV3.out) (by have:=HWS.out;omega)).trans HV3.out;simp [World.cell?,h9]);go_simp;(try with_reducible rfl);done));(try simp only [Act.put,List.setIfInBounds_toArray,List.set_cons_zero,List.set_cons_succ])) | (refine runL_val (v:=.agg (ranRow tot.st tot.steps tot.err).toArray) (by rfl) (fun w_ hw_=>exec_load 32 _ rfl ⟨b,0,none⟩ rfl _ _ Tryz.underlying32 rfl (by rw [ran_size HR3.out.st];exact infoRan) (fun j v hv=>by rw [add_plain,Nat.zero_add];exact (cell_at ((hw_.block _ (lt_of_block HR3.out.blk) (by have:=HWS.out;omega)).trans HR3.out.blk) (ran_at (by simpa using hv))).1)) ?_;(try simp only [Act.put,List.setIfInBounds_toArray,List.set_cons_zero,List.set_cons_succ])) | (refine runL_skip (w1:=W3.drew.setRow (w.heap.size+1) (ranRow tot.st tot.steps tot.err).toArray) (by rfl) (by rfl) (exec_store_row 32 _ _ rfl (w.heap.size+1) (ranRow tot.st tot.steps tot.err).toArray rfl rfl 32 _ HZ3.out (by rw [ran_size HR3.out.st];exact infoRan) (by rw [ran_size HR3.out.st];rfl) (ran_ones _ _ _)) (.inr (((Chg.refl (fun j=>j=w.heap.size+1) W3).drew).setRow (.inl rfl) _)) ?_;(try simp only [Act.put])))
     (refine runL_nil ?_)
     have hw4:Chg (fun j=>j=w.heap.size+1) W3 (W3.drew.setRow (w.heap.size+1) (ranRow tot.st tot.steps tot.err).toArray):=((Chg.refl (fun j=>j=w.heap.size+1) W3).drew).setRow (.inl rfl) _
     have hz4:(W3.drew.setRow (w.heap.size+1) (ranRow tot.st tot.steps tot.err).toArray).heap[w.heap.size+1]? = some (.cells (ranRow tot.st tot.steps tot.err).toArray 32 (0,0)):=setRow_heap _ _ _ _ _ _ HZ3.out
     obtain ⟨W4,hW4⟩:∃ W4,W3.drew.setRow (w.heap.size+1) (ranRow tot.st tot.steps tot.err).toArray=W4:=⟨_,rfl⟩
     rw [hW4] at hw4 hz4 ⊢
     have HC4:=Lh hw4
     have HZ4:=Lh hz4
     clear hW4 hw4 hz4
     have hK4:W4.heap[w2.heap.size]? = some (.deferred (some [])):=(HC4.out.block _ (lt_of_block HK3.out) (by have:=HWS.out;omega)).trans HK3.out
     gi_wp2
     refine ⟨by simp,.inl ⟨_,_,rfl,run_takeDeferred hK4,?_⟩⟩
     have hw5:Chg (fun j=>j=w2.heap.size) W4 (W4.putObj w2.heap.size (.deferred none)):=chg_putObj (F:=fun j=>j=w2.heap.size) (Chg.refl _ W4) rfl _
     have hz5:(W4.putObj w2.heap.size (.deferred none)).heap[w.heap.size+1]? = some (.cells (ranRow tot.st tot.steps tot.err).toArray 32 (0,0)):=(hw5.block _ (lt_of_block HZ4.out) (by have:=HWS.out;omega)).trans HZ4.out
     refine ⟨_,results2 (ty:=32) rfl _ _ (w.heap.size+1) 32 _ (0,0) _ rfl hz5 Tryz.underlying32 rfl (by rw [ran_size HR3.out.st];exact infoRan),_,rfl,?_,?_,?_,HR3.out.st⟩
     · refine own_low (b':=w.heap.size) (own_same HROW3.out (fun q hq=>?_)) (by have:=HWS.out;omega)
       have h1:=own_ltB HROW3.out q hq
       exact (hw5.block q (by have:=HC4.out.size;omega) (by have:=HWS.out;omega)).trans (HC4.out.block q h1.1 (by have:=HWS.out;omega))
     · refine HM3.out.keep (fun z hz=>?_)
       have h1:=HF.out z hz
       have h3:=HCH3.out.size
       have h4:=HC4.out.size
       exact (hw5.block z (by have:=HWS.out;omega) (by have:=HWS.out;omega)).trans (HC4.out.block z (by have:=HWS.out;omega) (by omega))
     · refine (((HCW1.out.mono (fun _ _ h=>h.elim)).trans' HCH3.out (fun j hj hx=>?_)).trans' HC4.out (fun j hj hx=>.inr (by omega))).trans' hw5 (fun j hj hx=>.inr (by have:=HWS.out;omega))
       rcases hx with (e | e | e) | e
       · exact .inr (by omega)
       · exact .inr (by omega)
       · exact .inl e
       · exact .inr (by have:=HWS.out;omega)
end Go.Proofs.YtocndimihokcmaaGreat
namespace Go.Proofs.YtocndimihokcmaaGreat
open Go.RowKit
def regLits (l:List Nat):List Lit:=l.map fun r=>Lit.int .u64 (r:Nat)
def stLits (s:St):List Lit:=regLits s.regs++[.int .u64 s.pc,.bool s.cf,.bool s.of_,.bool s.zf]
theorem regLits_inj {a b:List Nat} (h:regLits a=regLits b):a=b:=by
 unfold regLits at h
 exact (List.map_inj_right (fun x y h=>by injection h with _ h;omega)).1 h
theorem stLits_inj {s t:St} (hl:s.regs.length=t.regs.length) (h:stLits s=stLits t):s=t:=by
 unfold stLits at h
 obtain ⟨h1,h2⟩:=List.append_inj h (by simpa [regLits] using hl)
 have h1:=regLits_inj h1
 rcases s with ⟨_,_,_,_,_⟩
 rcases t with ⟨_,_,_,_,_⟩
 simp at h1 h2
 simp only [St.mk.injEq]
 exact ⟨h1,by omega,h2.2.1,h2.2.2.1,h2.2.2.2⟩
theorem bool_of_iff {r q:Bool} {p:Prop} (h1:r=true↔p) (h2:q=true↔p):r=q:=by
 cases r <;> cases q <;> simp_all
theorem key_u64 (d r:Nat) (h:r < 18446744073709551616):Tryz.prog.keyLits (d+1) 23 [Value.int .u64 (r:Nat)]=some [Lit.int .u64 (r:Nat)]:=by
 unfold Program.keyLits
 rw [Tryz.underlying23]
 have hw:(Lit.int IntKind.u64 (r:Nat)).wf=true:=by simp [Lit.wf,IntKind.min,IntKind.max,IntKind.bits,IntKind.signed];omega
 simp [hw]
theorem key_bool (d:Nat) (b:Bool):Tryz.prog.keyLits (d+1) 4 [Value.bool b]=some [Lit.bool b]:=by
 unfold Program.keyLits
 rw [Tryz.underlying4]
theorem cells_u64:Tryz.prog.cellsOf 23=1:=by kernel_rfl
theorem cells_bool:Tryz.prog.cellsOf 4=1:=by kernel_rfl
theorem cells_16:Tryz.prog.cellsOf 24=16:=by kernel_rfl
theorem key_regs (d:Nat) (l:List Nat) (hl:l.length=16) (hb:∀ r∈l,r < 18446744073709551616):Tryz.prog.keyLits (d+2) 24 (l.map fun r=>Value.int .u64 (r:Nat))=some (regLits l):=by
 obtain ⟨a0,a1,a2,a3,a4,a5,a6,a7,a8,a9,a10,a11,a12,a13,a14,a15,rfl⟩:=sixteen l hl
 simp only [List.forall_mem_cons] at hb
 obtain ⟨b0,b1,b2,b3,b4,b5,b6,b7,b8,b9,b10,b11,b12,b13,b14,b15,_⟩:=hb
 unfold Program.keyLits
 rw [Tryz.underlying24]
 simp only [cells_16,cells_u64]
 rw [if_pos (by simp)]
 rw [show List.range 16=[0,1,2,3,4,5,6,7,8,9,10,11,12,13,14,15] from rfl]
 simp [key_u64 d,b0,b1,b2,b3,b4,b5,b6,b7,b8,b9,b10,b11,b12,b13,b14,b15,regLits]
def eqSt (s t:St):Bool:=s.regs == t.regs && (s.pc == t.pc && (s.cf == t.cf && (s.of_ == t.of_ && s.zf == t.zf)))
theorem eqSt_iff (s t:St):eqSt s t=true↔s=t:=by
 rcases s with ⟨_,_,_,_,_⟩
 rcases t with ⟨_,_,_,_,_⟩
 simp [eqSt]
theorem key_st (d:Nat) (s:St) (h:StOk s):Tryz.prog.keyLits (d+3) 26 (stRow s)=some (stLits s):=by
 have hr:=key_regs d s.regs h.len h.regs
 have hl:(stRow s).length=20:=by simp [stRow,h.len]
 have hd:∀ k,(stRow s).drop (16+k)=[Value.int .u64 s.pc,.bool s.cf,.bool s.of_,.bool s.zf].drop k:=fun k=>by
   rw [stRow,List.drop_append,List.drop_eq_nil_of_le (by simp [h.len]),List.nil_append]
   simp [h.len]
 have ht:(stRow s).take 16=s.regs.map fun r=>Value.int .u64 (r:Nat):=by rw [stRow,List.take_append_of_le_length (by simp [h.len]),List.take_of_length_le (by simp [h.len])]
 have e16:=hd 0
 have e17:=hd 1
 have e18:=hd 2
 have e19:=hd 3
 simp only [Nat.add_zero,Nat.reduceAdd,List.drop_zero,List.drop_succ_cons] at e16 e17 e18 e19
 unfold Program.keyLits
 rw [Tryz.underlying26]
 simp only [show Tryz.prog.cellsOf 26=20 by kernel_rfl]
 rw [if_pos ⟨hl,by kernel_rfl⟩]
 simp [cells_16,cells_u64,cells_bool,ht,e16,e17,e18,e19,hr,key_u64 (d+1) s.pc h.pc,key_bool (d+1),stLits]
end Go.Proofs.YtocndimihokcmaaGreat
namespace Go.Proofs.YtocndimihokcmaaGreat
open Go.RowKit
theorem step_evs9 (s:St) (i:Ins) (size:Int) (rs:List Reg):(stepF s i size rs).evs.length≤100:=by
 have h:∀ (s:St) (rs:List Reg) (e:Int),(doF s i rs e).2.1.length≤90:=fun s rs e=>by
   unfold doF
   repeat' split
   all_goals simp
 unfold stepF
 split
 · split
   · simp
   · simp only []
     split
     · have:=h { s with pc:=(s.pc+u64 size) % 18446744073709551616 } rs 0
       simp only [List.length_cons]
       omega
     · simp
 · simp
theorem runF_evs (code:List Nat):∀ (f:Nat) (s:St) (rs:List Reg) (n:Nat),(runF code f s rs n).evs.length≤100*f:=by
 intro f
 induction f with
 | zero=>intro s rs n;unfold runF;split <;> simp
 | succ f ih =>
   intro s rs n
   unfold runF
   split
   · simp
   · split
     · simp
     · rename_i x hx
       split
       · simp
       · have h1:=step_evs9 s x.1 x.2 rs
         have h2:=ih (stepF s x.1 x.2 rs).st (stepF s x.1 x.2 rs).rs (n+1)
         simp only [List.length_append]
         omega
theorem runF_steps (code:List Nat):∀ (f:Nat) (s:St) (rs:List Reg) (n:Nat),n≤(runF code f s rs n).steps∧(runF code f s rs n).steps≤n+f∧0≤(runF code f s rs n).err∧(runF code f s rs n).err≤11:=by
 intro f
 induction f with
 | zero=>intro s rs n;unfold runF;split <;> simp
 | succ f ih =>
   intro s rs n
   unfold runF
   split
   · simp
   · split
     · simp
     · rename_i x hx
       split
       · simp
       · have h2:=ih (stepF s x.1 x.2 rs).st (stepF s x.1 x.2 rs).rs (n+1)
         simp only
         omega
theorem Run_any9 {code:List UInt8} {s:St} {pm:Addr} (fuel:Nat) {w:World} {F:Nat→Prop} {rs:List Reg} (hs:StOk s) (hl:code.length≤1048576) (h1:fuel≤100000) (hm:MemAt w F (.pointer (some pm)) rs) (hF:∀ q,F q→q < w.heap.size) (tot:RunR) (htot:tot=runF (natsB code) fuel s rs 0) :
   Calls Tryz.prog 8 #[strB code,.agg (stRow s).toArray,.pointer (some pm),.int .i64 fuel] w fun e w'=>∃ A c,e=.returned (.tuple #[.agg (ranRow tot.st tot.steps tot.err).toArray,.slice A tot.evs.length c])∧w'.ownsRow w.heap.size 56 2 (.slice A tot.evs.length c) tot.evs.length (tot.evs.map evRow).flatten∧MemAt w' F (.pointer (some pm)) tot.rs∧Chg (Over F w.heap.size) w w'∧StOk tot.st:=by
 refine (callsIn_wide.1 (Run_good hs hl (by omega) hm hF tot htot (by rw [htot];have:=runF_evs (natsB code) fuel s rs 0;omega))).mono ?_
 rintro e w' ⟨v,rfl,h2,h3⟩
 obtain ⟨A,c,rfl,_⟩:=own_formB h2
 exact ⟨A,c,rfl,h2,h3⟩
def ranLits (s:St) (n err:Int):List Lit:=stLits s++[.int .i64 n,.int .i64 err]
theorem cells_int9:Tryz.prog.cellsOf 3=1:=by kernel_rfl
theorem cells_err9:Tryz.prog.cellsOf 30=1:=by kernel_rfl
theorem cells_st9:Tryz.prog.cellsOf 26=20:=by kernel_rfl
theorem key_i9 (d:Nat) (n:Int) (h:-9223372036854775808≤n∧n≤9223372036854775807):Tryz.prog.keyLits (d+1) 3 [Value.int .i64 n]=some [Lit.int .i64 n]:=by
 have h1:(Lit.int .i64 n).wf=true:=by simpa [Lit.wf,IntKind.min,IntKind.max,IntKind.bits,IntKind.signed] using h
 unfold Program.keyLits
 rw [Tryz.underlying3]
 simp [h1]
theorem key_e9 (d:Nat) (n:Int) (h:-9223372036854775808≤n∧n≤9223372036854775807):Tryz.prog.keyLits (d+1) 30 [Value.int .i64 n]=some [Lit.int .i64 n]:=by
 have h1:(Lit.int .i64 n).wf=true:=by simpa [Lit.wf,IntKind.min,IntKind.max,IntKind.bits,IntKind.signed] using h
 unfold Program.keyLits
 rw [Tryz.underlying30]
 simp [h1]
theorem ran_len {s:St} (h:StOk s) {n err:Int}:(ranRow s n err).length=22:=by simp [ranRow,stRow_len h]
theorem key_ran (d:Nat) (s:St) (n err:Int) (h:StOk s) (hn:-9223372036854775808≤n∧n≤9223372036854775807) (he:-9223372036854775808≤err∧err≤9223372036854775807):Tryz.prog.keyLits (d+4) 32 (ranRow s n err)=some (ranLits s n err):=by
 have hr:=key_st d s h
 have hl:=ran_len h (n:=n) (err:=err)
 have ht:(ranRow s n err).take 20=stRow s:=by rw [ranRow,List.take_append_of_le_length (by rw [stRow_len h];decide),List.take_of_length_le (by rw [stRow_len h];decide)]
 have e20:(ranRow s n err).drop 20=[.int .i64 n,.int .i64 err]:=by rw [ranRow,List.drop_append,List.drop_eq_nil_of_le (by rw [stRow_len h];decide),List.nil_append,stRow_len h];rfl
 have e21:(ranRow s n err).drop 21=[.int .i64 err]:=by rw [show 21=20+1 from rfl,←List.drop_drop,e20];rfl
 unfold Program.keyLits
 rw [Tryz.underlying32]
 simp only [show Tryz.prog.cellsOf 32=22 by kernel_rfl]
 rw [if_pos ⟨hl,by kernel_rfl⟩]
 simp [cells_int9,cells_err9,cells_st9,ht,e20,e21,hr,key_i9 (d+2) n hn,key_e9 (d+2) err he,ranLits]
def eqRan (a b:RunR):Bool:=eqSt a.st b.st && ((a.steps == b.steps) && (a.err == b.err))
theorem eq_ran (a b:RunR) (ha:StOk a.st) (hb:StOk b.st) (ha2:a.steps≤1000000) (hb2:b.steps≤1000000) (ha3:0≤a.err∧a.err≤11) (hb3:0≤b.err∧b.err≤11) (w:World):(Op.equalIn 10000 32 (.agg (ranRow a.st a.steps a.err).toArray) (.agg (ranRow b.st b.steps b.err).toArray)).run Tryz.prog w=.ok (eqRan a b) w:=by
 have hf:∀ r:RunR,StOk r.st→r.steps≤1000000→0≤r.err∧r.err≤11→(Value.agg (ranRow r.st r.steps r.err).toArray).formed Tryz.prog 32=true∧Tryz.prog.keyLits 20 32 (Value.agg (ranRow r.st r.steps r.err).toArray).cells.toList=some (ranLits r.st r.steps r.err):=fun r h1 h2 h3=>by
   refine ⟨?_,key_ran 16 r.st r.steps r.err h1 (by omega) (by omega)⟩
   rcases r with ⟨⟨regs,pc,cf,of_,zf⟩,st,er,_,_⟩
   obtain ⟨a0,a1,a2,a3,a4,a5,a6,a7,a8,a9,a10,a11,a12,a13,a14,a15,rfl⟩:=sixteen regs h1.len
   kernel_rfl
 obtain ⟨r,hr,hi⟩:=run_equalIn_deep (P:=Tryz.prog) 9994 6 32 (by kernel_rfl) w 20 20 _ _ _ _ (hf a ha ha2 ha3).1 (hf b hb hb2 hb3).1 (hf a ha ha2 ha3).2 (hf b hb hb2 hb3).2
 have:r=eqRan a b:=bool_of_iff hi (by
   unfold eqRan
   rw [Bool.and_eq_true,Bool.and_eq_true,eqSt_iff,beq_iff_eq,beq_iff_eq]
   constructor
   · rintro ⟨h1,h2,h3⟩;rw [h1,h2,h3]
   · intro h
     have hl:(stLits a.st).length=(stLits b.st).length:=by simp [stLits,regLits,ha.len,hb.len]
     obtain ⟨h1,h2⟩:=List.append_inj h hl
     refine ⟨stLits_inj (by rw [ha.len,hb.len]) h1,?_⟩
     simp at h2
     omega)
 rw [←this]
 exact hr
def regZ:Reg:=⟨2147483584,List.replicate 56 0++[1]++List.replicate 7 0,true⟩
def stZ:St:=⟨[0,0,0,0,2147483640,0,0,0,0,0,0,0,0,0,0,0],4194304,false,false,false⟩
theorem stZ_ok:StOk stZ:=⟨rfl,by decide,by decide⟩
def regsZ:List Reg:=sortBy Reg.base [regZ]
theorem retZ_evs:(runF [195] 5 stZ regsZ 0).evs=[⟨1,4194304⟩,⟨2,2147483640⟩,⟨4,1⟩]:=by kernel_rfl
theorem retZ_err:(runF [195] 5 stZ regsZ 0).err=0:=by decide +kernel
theorem retZ_steps:(runF [195] 5 stZ regsZ 0).steps=1:=by decide +kernel
theorem retZ_pc:(runF [195] 5 stZ regsZ 0).st.pc=1:=by decide +kernel
theorem checkZ:checkF [regZ]=0:=by decide
theorem lbytes_at {w:World} {F:Nat→Prop} {b:Nat} (l:List UInt8) (h:w.heap[b]? = some (.cells (l.map byteV).toArray 5 (0,0))) (hF:F b):BytesAt w F (.slice (some ⟨b,0,none⟩) l.length l.length) l:=by
 refine ⟨some ⟨b,0,none⟩,l.length,by simp,by simp,fun r hr=>by obtain ⟨x,_,rfl⟩:=List.mem_map.1 hr;rfl,fun _=>⟨b,0,rfl,hF,fun i j r u hr hu=>?_⟩⟩
 rw [List.getElem?_map] at hr
 obtain ⟨x,hx,rfl⟩:=Option.map_eq_some_iff.1 hr
 have hj:j=0:=by have:=(List.getElem?_eq_some_iff.1 hu).1;simp at this;exact this
 subst hj
 have hu':byteV x=u:=by simpa using hu
 have e0:0+i*1+0=i:=by omega
 rw [e0,←hu']
 simp [World.cell?,h,hx]
def zerosZ:Array Value:=((List.replicate 64 (0:UInt8)).map byteV).toArray
theorem makeZ (w:World):(Instr.makeSlice 70 (.int .i64 64) (.int .i64 64)).run Tryz.prog w=.ok (.slice (some ⟨w.heap.size,0,none⟩) 64 64) (w.alloc (.cells zerosZ 5)):=by kernel_rfl
end Go.Proofs.YtocndimihokcmaaGreat
namespace Go.Proofs.YtocndimihokcmaaGreat
open Go.RowKit
set_option maxRecDepth 100000
theorem flat_row9 {α:Type} (rows:List (List α)) (h:∀ r∈rows,r.length=3) {i j:Nat} {r:List α} {u:α} (hr:rows[i]? = some r) (hu:r[j]? = some u):rows.flatten[i*3+j]? = some u:=by
 induction rows generalizing i with
 | nil=>simp at hr
 | cons q qs ih =>
   have hql:=h q (List.mem_cons_self ..)
   cases i with
   | zero =>
     simp at hr
     subst hr
     have hj:j < q.length:=(List.getElem?_eq_some_iff.1 hu).1
     rw [List.flatten_cons,List.getElem?_append_left (by omega)]
     simpa using hu
   | succ i =>
     rw [List.flatten_cons,List.getElem?_append_right (by omega),hql,show (i+1)*3+j - 3=i*3+j from by omega]
     exact ih (fun r hr=>h r (List.mem_cons_of_mem _ hr)) (by simpa using hr)
theorem lit_at9 {w:World} {b:Nat} {cs:Array Value} {P:List (Reg×Ent)} (h:w.heap[b]? = some (.cells cs 72 (0,0))) (hcs:cs.toList=(P.map fun x=>entRow x.2).flatten)
   (hs:∀ x∈P,EntSrc w (fun k=>k < w.heap.size) x.1 x.2):RegsAt w (fun k=>k < w.heap.size) (.slice (some ⟨b,0,none⟩) P.length P.length) (P.map (·.1)):=by
 refine ⟨P,rfl,⟨_,P.length,by simp,by simp,entRows_len P,fun _=>⟨b,0,rfl,lt_of_block h,fun i j r u hr hu=>?_⟩⟩,hs⟩
 simp only [World.cell?,h]
 have:=flat_row9 _ (entRows_len P) hr hu
 rw [←hcs] at this
 simpa using this
theorem bytesZ:(((List.replicate 64 (0:UInt8)).map byteV).set 56 (.int .u8 1))=regZ.bytes.map byteV:=by rfl
set_option maxHeartbeats 2000000 in
theorem stack9_any (w:World):Calls Tryz.prog 20 #[] w fun e w'=>∃ v,e=.returned v∧Below w.heap.size w w'∧RegsAt w' (fun k=>k < w'.heap.size) v [regZ]:=by
 have hmz:=makeZ
 obtain ⟨W,hW⟩:∃ W,W=w.alloc (.cells zerosZ 5):=⟨_,rfl⟩
 have hb:W.heap[w.heap.size]? = some (.cells zerosZ 5 (0,0)):=by rw [hW];exact heap_alloc_new w _
 have hc:W.cell? ⟨w.heap.size,56,none⟩=some (.int .u8 0):=by rw [World.cell?,hb];rfl
 have hf:W.frozen? ⟨w.heap.size,56,none⟩=false:=by simp [World.frozen?,hb]
 have hg:Chg (fun _=>False) w W:=by rw [hW];exact (Chg.refl _ w).alloc _
 have hs:W.heap.size=w.heap.size+1:=by rw [hW];simp
 have HW:=Lh hW
 have HB:=Lh hb
 have HG:=Lh hg
 have HS:=Lh hs
 clear hW hb hg hs
 go_enter Tryz.func20,Tryz.ntmps20
 go_upto_region 2 with go_in
 rw [←HW.out]
 go_wp2
 go_ret
 have h1:(W.setCell ⟨w.heap.size,56,none⟩ (.int .u8 1)).heap[w.heap.size]? = some (.cells (regZ.bytes.map byteV).toArray 5 (0,0)):=by rw [←bytesZ];exact heap_setCell_row HB.out 56 _
 have h2:(W.setCell ⟨w.heap.size,56,none⟩ (.int .u8 1)).heap.size=w.heap.size+1:=by rw [←HS.out];simp
 refine ⟨_,rfl,?_,?_⟩
 · exact ((HG.out.setCell (p:=⟨w.heap.size,56,none⟩) (.inr (Nat.le_refl _)) _).alloc _).below (fun _ _ h=>h) (Nat.le_refl _)
 · refine lit_at9 (P:=[(regZ,⟨2147483584,some ⟨w.heap.size,0,none⟩,64,64,true⟩)]) (by have h5:=heap_alloc_new (W.setCell ⟨w.heap.size,56,none⟩ (.int .u8 1)) (.cells #[.int .u64 2147483584,.slice (some ⟨w.heap.size,0,none⟩) 64 64,.bool true] 72);rw [h2,←HS.out] at h5;exact h5) rfl ?_
   intro x hx
   simp only [List.mem_singleton] at hx
   subst hx
   refine ⟨rfl,rfl,rfl,?_,(by decide:regZ.base < 18446744073709551616),(by decide:regZ.bytes.length≤9223372036854775807)⟩
   exact lbytes_at regZ.bytes ((heap_alloc_old _ _ (by omega)).trans h1) (by have:=HS.out;simp;omega)
theorem memP {w:World} {F:Nat→Prop} {p:Value} {rs:List Reg} (h:MemAt w F p rs):∃ pm,p=.pointer (some ⟨pm,0,none⟩):=by
 obtain ⟨bm,v,rfl,_⟩:=h
 exact ⟨bm,rfl⟩
def stY:St:=⟨[0,0,0,0,0,0,0,0,0,0,0,0,0,0,0,0],4194304,false,false,false⟩
theorem buildY {o:Oper} (a:Act) (w:World) (ho:o.op=Op.build 26 #[(1,Operand.const (Value.int IntKind.u64 4194304))]):(execOp a.eval o).run Tryz.prog w=.ok (.value (.agg (stRow stY).toArray)) w:=by
 unfold execOp
 rw [ho]
 kernel_rfl
set_option maxHeartbeats 4000000 in
theorem start9_any (w:World):Calls Tryz.prog 7 #[] w fun e w'=>∃ pm,e=.returned (.tuple #[.agg (stRow stZ).toArray,.pointer (some ⟨pm,0,none⟩)])∧MemAt w' (seg w.heap.size w'.heap.size) (.pointer (some ⟨pm,0,none⟩)) regsZ∧Below w.heap.size w w':=by
 go_enter Tryz.func7,Tryz.ntmps7
 go_upto_region 2 with (first
   | ((with_reducible refine (stack9_any _).mono ?_);rintro e w1 ⟨v,rfl,hb1,hr1⟩;have HB1:=Lh hb1;have HR1:=Lh hr1;clear hb1 hr1)
   | ((with_reducible refine (New_any _ _ _ [regZ] (by decide) HR1.out (fun _ h=>h)).mono ?_);rintro e w2 ⟨hb2,⟨h0,_⟩ | ⟨_,p,rfl,hm2⟩⟩;(focus exact absurd checkZ h0);obtain ⟨pm,rfl⟩:=memP hm2;have HB2:=Lh hb2;have HM2:=Lh hm2;have HZ0:=Lh (fun o=>(heap_alloc_old w2 o (by have h1:=HB1.out.size;have h2:=hb2.size;simp at h1;omega)).trans ((hb2.block w.heap.size (by have h1:=HB1.out.size;simp at h1;omega)).trans ((HB1.out.block w.heap.size (by simp)).trans (heap_alloc_new w (.cells (stRow ⟨[0,0,0,0,0,0,0,0,0,0,0,0,0,0,0,0],0,false,false,false⟩).toArray 26)))));clear hb2 hm2) | go_in)
 obtain ⟨Y,hY⟩:∃ Y:Array Value,Y=(stRow stY).toArray:=⟨_,rfl⟩
 have HYS:=Lh (show Y.size=20 by rw [hY];rfl)
 have HYO:=Lh (show Y.all (·.oneCell')=true by rw [hY];kernel_rfl)
 have HY:=Lh hY
 have hby:=fun (o:Oper) (a:Act) (w:World) (ho:o.op=Op.build 26 #[(1,Operand.const (Value.int IntKind.u64 4194304))])=>buildY a w ho
 rw [←hY] at hby
 have HBY:=Lh hby
 clear hY hby
 go_upto_region 3 with (first | (refine wpList_valJ rfl (HBY.out _ _ _ rfl) ?_) | (refine wpList_store_row rfl 26 _ _ rfl w2.heap.size Y rfl rfl 26 _ (heap_alloc_new w2 _) (by rw [HYS.out];kernel_rfl) (by rw [HYS.out];kernel_rfl) HYO.out ?_) | go_in)
 dsimp only [Act.put]
 obtain ⟨W3,hW3⟩:∃ W3,(w2.alloc (.cells #[.int .u64 0,.int .u64 0,.int .u64 0,.int .u64 0,.int .u64 0,.int .u64 0,.int .u64 0,.int .u64 0,.int .u64 0,.int .u64 0,.int .u64 0,.int .u64 0,.int .u64 0,.int .u64 0,.int .u64 0,.int .u64 0,.int .u64 0,.bool false,.bool false,.bool false] 26)).setRow w2.heap.size Y=W3:=⟨_,rfl⟩
 rw [hW3]
 have hx3:W3.heap[w2.heap.size]? = some (.cells (stRow stY).toArray 26 (0,0)):=by rw [←hW3,←HY.out];exact setRow_heap _ _ _ _ _ _ (heap_alloc_new w2 _)
 have hz3:W3.heap[w.heap.size]? = some (.cells (stRow ⟨[0,0,0,0,0,0,0,0,0,0,0,0,0,0,0,0],0,false,false,false⟩).toArray 26 (0,0)):=by rw [←hW3];exact (setRow_other _ _ _ _ (by have h1:=HB1.out.size;have h2:=HB2.out.size;simp at h1;omega)).trans (HZ0.out _)
 have hg3:Chg (fun j=>j=w.heap.size) w2 W3:=by rw [←hW3];exact ((Chg.refl _ w2).alloc _).setRow (.inr (Nat.le_refl _)) _
 have hs3:w2.heap.size < W3.heap.size:=lt_of_block hx3
 have k4:W3.cell? ⟨w2.heap.size,4,none⟩=some (.int .u64 0):=by rw [World.cell?,hx3];rfl
 have f4:W3.frozen? ⟨w2.heap.size,4,none⟩=false:=by rw [World.frozen?,hx3];rfl
 have hx4:(W3.setCell ⟨w2.heap.size,4,none⟩ (.int .u64 2147483640)).heap[w2.heap.size]? = some (.cells (stRow stZ).toArray 26 (0,0)):=heap_setCell_row hx3 4 _
 have hnz:w.heap.size≠w2.heap.size:=by have h1:=HB1.out.size;have h2:=HB2.out.size;simp at h1;omega
 have hz4:(W3.setCell ⟨w2.heap.size,4,none⟩ (.int .u64 2147483640)).heap[w.heap.size]? = some (.cells (stRow ⟨[0,0,0,0,0,0,0,0,0,0,0,0,0,0,0,0],0,false,false,false⟩).toArray 26 (0,0)):=(Below.heap_setCell _ _ _ _ hnz).trans hz3
 have hg4:Chg (fun j=>j=w.heap.size) w2 (W3.setCell ⟨w2.heap.size,4,none⟩ (.int .u64 2147483640)):=hg3.setCell (p:=⟨w2.heap.size,4,none⟩) (.inr (Nat.le_refl _)) _
 have HX4:=Lh hx4
 have HZ4:=Lh hz4
 have HG4:=Lh hg4
 clear hW3 hx3 hz3 hg3 hx4 hz4 hg4 hs3 hnz
 go_upto_region 4 with go_in
 obtain ⟨W4,hW4⟩:∃ W4,W4=W3.setCell ⟨w2.heap.size,4,none⟩ (.int .u64 2147483640):=⟨_,rfl⟩
 rw [←hW4] at HX4 HZ4 HG4 ⊢
 clear hW4
 go_wp2_with (first | (refine wpList_load_row rfl 26 _ rfl w2.heap.size rfl 26 _ (0,0) _ HX4.out Tryz.underlying26 rfl (by kernel_rfl) ?_) | (refine wpList_store_row rfl 26 _ _ rfl w.heap.size _ rfl rfl 26 _ HZ4.out (by kernel_rfl) (by rfl) (by kernel_rfl) ?_))
 refine bodyPost_ret (results2 (ty:=26) rfl _ _ w.heap.size 26 (stRow stZ).toArray (0,0) _ rfl (setRow_heap _ _ _ _ _ _ HZ4.out) Tryz.underlying26 rfl (by kernel_rfl)) rfl ⟨pm,rfl,?_⟩
 have h1:=HB1.out.size
 have h2:=HB2.out.size
 simp only [World.size_alloc] at h1
 have hc:Chg (fun j=>j=w.heap.size) w2 (W4.setRow w.heap.size (stRow stZ).toArray):=HG4.out.setRow (.inl rfl) _
 have hcw:Chg (fun _=>False) w (W4.setRow w.heap.size (stRow stZ).toArray):=(((Chg.refl _ w).alloc _).trans' (Chg.of_below HB1.out) (fun _ _ h=>h) |>.trans' (Chg.of_below HB2.out) (fun _ _ h=>h)).trans' hc (fun k hk e=>by omega)
 refine ⟨?_,hcw.below (fun _ _ h=>h) (Nat.le_refl _)⟩
 have hsz:=hc.size
 have hm4:=HM2.out.keep (hc.same (fun k hk=>⟨hk.2,by have:=hk.1;omega⟩))
 obtain ⟨bm,eF,q1,q2,q3,q4,q5⟩:=hm4
 exact ⟨bm,eF,q1,⟨by have:=q2.1;omega,by have:=q2.2;omega⟩,q3,q4.mono (fun k hk=>⟨by have:=hk.1;omega,by have:=hk.2;omega⟩),q5⟩
end Go.Proofs.YtocndimihokcmaaGreat
namespace Go.Proofs.YtocndimihokcmaaGreat
open Go.RowKit
set_option maxRecDepth 100000
theorem wp_name9 {P:Program} {c:Code} {Q:Exit→Act→World→Prop} {a:Act} {w:World} (h:∀ W,W=w→c.wp P Q a W):c.wp P Q a w:=h w rfl
theorem ranR {r:RunR} (h:StOk r.st):(ranRow r.st r.steps r.err)[16]? = some (.int .u64 r.st.pc)∧(ranRow r.st r.steps r.err)[20]? = some (.int .i64 r.steps)∧(ranRow r.st r.steps r.err)[21]? = some (.int .i64 r.err):=by
 have hl:=stRow_len h
 unfold ranRow
 refine ⟨?_,?_,?_⟩
 · rw [List.getElem?_append_left (by omega)]
   unfold stRow
   rw [List.getElem?_append_right (by simp [h.len])]
   simp [h.len]
 all_goals
   rw [List.getElem?_append_right (by omega),hl]
   rfl
def evZ:List Ev:=[⟨1,4194304⟩,⟨2,2147483640⟩,⟨4,1⟩]
set_option maxHeartbeats 4000000 in
theorem lives9_any (w:World):Calls Tryz.prog 6 #[] w fun e w'=>e=.returned (.bool true)∧Below w.heap.size w w':=by
 obtain ⟨Z,hZ⟩:∃ Z:Array Value,Z=(stRow stZ).toArray:=⟨_,rfl⟩
 have hst:=fun w_=>start9_any w_
 rw [←hZ] at hst
 have HST:=Lh hst
 have HZS:=Lh (show Z.size=20 by rw [hZ];rfl)
 have HZO:=Lh (show Z.all (·.oneCell')=true by rw [hZ];kernel_rfl)
 have HZZ:=Lh hZ
 clear hst hZ
 go_enter Tryz.func6,Tryz.ntmps6
 go_upto_region 2 with (first
   | ((with_reducible refine (HST.out _).mono ?_);rintro e w1 ⟨pm,rfl,hm1,hb1⟩;have HM1:=Lh hm1;have HB1:=Lh hb1;clear hm1 hb1)
   | (refine wpList_store_row rfl 26 _ _ rfl w1.heap.size Z rfl rfl 26 _ (heap_alloc_new w1 _) (by rw [HZS.out];kernel_rfl) (by rw [HZS.out];kernel_rfl) HZO.out ?_) | go_in)
 obtain ⟨W2,hW2⟩:∃ W2,(w1.alloc (.cells #[.int .u64 0,.int .u64 0,.int .u64 0,.int .u64 0,.int .u64 0,.int .u64 0,.int .u64 0,.int .u64 0,.int .u64 0,.int .u64 0,.int .u64 0,.int .u64 0,.int .u64 0,.int .u64 0,.int .u64 0,.int .u64 0,.int .u64 0,.bool false,.bool false,.bool false] 26)).setRow w1.heap.size Z=W2:=⟨_,rfl⟩
 rw [hW2]
 have hg2:Chg (fun _=>False) w1 W2:=by rw [←hW2];exact ((Chg.refl _ w1).alloc _).setRow (.inr (Nat.le_refl _)) _
 have hx2:W2.heap[w1.heap.size]? = some (.cells Z 26 (0,0)):=by rw [←hW2];exact setRow_heap _ _ _ _ _ _ (heap_alloc_new w1 _)
 have HX2:=Lh hx2
 have HG2:=Lh hg2
 have HM2:=Lh (HM1.out.keep (hg2.same (fun k hk=>⟨hk.2,fun e=>e⟩)))
 obtain ⟨tot,htot⟩:∃ tot,tot=runF (natsB [195]) 5 stZ regsZ 0:=⟨_,rfl⟩
 have hev:tot.evs=evZ:=by rw [htot];exact retZ_evs
 have her:tot.err=0:=by rw [htot];exact retZ_err
 have hsp:tot.steps=1:=by rw [htot];exact retZ_steps
 have hpc:tot.st.pc=1:=by rw [htot];exact retZ_pc
 have hrun:=Run_any9 (code:=[195]) (s:=stZ) (pm:=⟨pm,0,none⟩) 5 (w:=W2) stZ_ok (by decide) (by decide) HM2.out (fun q hq=>Nat.lt_of_lt_of_le hq.2 hg2.size) tot htot
 rw [hev,her,hsp,←HZZ.out] at hrun
 obtain ⟨R,hR⟩:∃ R:Array Value,R=(ranRow tot.st (1:Nat) 0).toArray:=⟨_,rfl⟩
 rw [←hR] at hrun
 have HRUN:=Lh (show Calls Tryz.prog 8 #[.string ⟨#[195]⟩,.agg Z,.pointer (some ⟨pm,0,none⟩),.int .i64 5] W2 _ from hrun)
 have HRR:=Lh hR
 clear hR
 have HEV:=Lh (And.intro hev (And.intro her (And.intro hsp hpc)))
 clear hW2 hg2 hx2 htot hev her hsp hpc hrun
 go_upto_region 3 with (first
   | (refine wpList_load_row rfl 26 _ rfl w1.heap.size rfl 26 _ (0,0) _ HX2.out Tryz.underlying26 rfl (by rw [HZS.out];kernel_rfl) ?_)
   | ((with_reducible refine HRUN.out.mono ?_);rintro e w3 ⟨A,c,rfl,ho3,hm3,hc3,hs3⟩;have HO3:=Lh ho3;have HC3:=Lh hc3;have HS3:=Lh hs3;clear ho3 hm3 hc3 hs3)
   | (refine wpList_store_row rfl 32 _ _ rfl w3.heap.size R rfl rfl 32 _ (heap_alloc_new w3 _) (by rw [HRR.out,ran_size HS3.out];exact infoRan) (by rw [HRR.out,ran_size HS3.out];kernel_rfl) (by rw [HRR.out];exact ran_ones _ _ _) ?_) | go_in)
 refine wp_name9 ?_
 intro W4 hW4
 have hx4:W4.heap[w3.heap.size]? = some (.cells R 32 (0,0)):=by rw [hW4];exact setRow_heap _ _ _ _ _ _ (heap_alloc_new w3 _)
 have hg4:Chg (fun _=>False) w3 W4:=by rw [hW4];exact ((Chg.refl _ w3).alloc _).setRow (.inr (Nat.le_refl _)) _
 clear hW4
 obtain ⟨r16,r20,r21⟩:=ranR (r:=tot) HS3.out
 rw [HEV.out.2.1,HEV.out.2.2.1] at r16 r20 r21
 rw [HEV.out.2.2.2] at r16
 rw [HRR.out] at hx4
 have q16:W4.cell? ⟨w3.heap.size,16,none⟩=some (.int .u64 1):=(cell_at hx4 r16).1
 have q20:W4.cell? ⟨w3.heap.size,20,none⟩=some (.int .i64 1):=(cell_at hx4 r20).1
 have q21:W4.cell? ⟨w3.heap.size,21,none⟩=some (.int .i64 0):=(cell_at hx4 r21).1
 have HO4:=Lh (own_same HO3.out (fun q hq=>hg4.block q (own_ltB HO3.out q hq).1 (fun h=>h)))
 have HG4:=Lh hg4
 clear r16 r20 r21 hx4 hg4
 have HSE:=Lh (fun (W:World) (h1:EvsAt W (fun k=>k < W.heap.size) (.slice A 3 c) evZ) (h2:EvsAt W (fun k=>k < W.heap.size) (.slice (some ⟨W4.heap.size,0,none⟩) 3 3) evZ)=>SameEv_any _ _ W _ evZ evZ (by decide) h1 h2 (fun _ h=>h))
 have hsame:sameE evZ evZ=true:=by decide
 go_wp2_with ((refine (HSE.out _ ?_ ?_).mono ?_))
 · exact evs_own (HO4.out.alloc _)
 · exact evs_lit (l:=evZ) (heap_alloc_new W4 _)
 rintro e w6 ⟨rfl,hb6⟩
 rw [hsame]
 have HB6:=Lh hb6
 clear hb6 HSE
 go_wp2
 go_ret
 refine ⟨rfl,?_⟩
 have hc:Chg (fun _=>False) w w6:=((((Chg.of_below (F:=fun _=>False) HB1.out).trans HG2.out).trans' HC3.out (fun k hk h=>?_)).trans HG4.out).trans ((Chg.refl _ W4).alloc _ |>.trans (Chg.of_below HB6.out))
 · exact hc.below (fun _ _ h=>h) (Nat.le_refl _)
 · have h1:=HB1.out.size
   have h2:=HG2.out.size
   rcases h with h | h
   · have:=h.1;omega
   · omega
end Go.Proofs.YtocndimihokcmaaGreat
namespace Go.Proofs.YtocndimihokcmaaGreat
open Go.RowKit
set_option maxRecDepth 100000
def lightR (l:List Reg):Bool:=(l.take 11).all (fun r=>decide (r.bytes.length≤300)) && decide (l.length≤10)
theorem lightR_no {l:List Reg} {k:Nat} {r:Reg} (hk:l[k]? = some r) (h11:k < 11) (h:300 < r.bytes.length):lightR l=false:=by
 have:(l.take 11).all (fun r=>decide (r.bytes.length≤300))=false:=by
   rw [List.all_eq_false]
   exact ⟨r,List.mem_of_getElem? (by rw [List.getElem?_take,if_pos h11];exact hk),by simp;omega⟩
 simp [lightR,this]
theorem lightR_end {l:List Reg} {k:Nat} (hk:k=l.length∨k=11) (h:∀ (j:Nat) (r:Reg),j < k→l[j]? = some r→r.bytes.length≤300):lightR l=decide (l.length≤10):=by
 have:(l.take 11).all (fun r=>decide (r.bytes.length≤300))=true:=by
   rw [List.all_eq_true]
   intro r hr
   obtain ⟨j,hj⟩:=List.mem_iff_getElem?.1 hr
   rw [List.getElem?_take] at hj
   split at hj
   · rename_i hlt
     have hjl:=(List.getElem?_eq_some_iff.1 hj).1
     have:=h j r (by rcases hk with rfl | rfl <;> omega) hj
     simpa using this
   · cases hj
 simp [lightR,this]
set_option maxHeartbeats 800000 in
theorem Light_any (v:Value) (w:World) (F:Nat→Prop) (l:List Reg) (hn:l.length≤9223372036854775807) (hl:RegsAt w F v l) :
   Calls Tryz.prog 11 #[v] w fun e w'=>e=.returned (.bool (lightR l))∧Below w.heap.size w w':=by
 obtain ⟨A,c,rfl,hc⟩:=hl.form
 have HL:=Lh hl
 clear hl hc
 generalize hln:l.length=n at *
 have HN:=Lh hln
 clear hln
 go_enter Tryz.func11,Tryz.ntmps11
 go_wp2
 go_loop [3] (fun i=>∃ k:Nat,k≤n∧k≤11∧i=.int .i64 k∧∀ (j:Nat) (r:Reg),j < k→l[j]? = some r→r.bytes.length≤300) (fun i=>n - (intOf i).toNat)
 case atStart=>exact ⟨0,by omega,by omega,rfl,fun j r hj=>absurd hj (by omega)⟩
 case round =>
   obtain ⟨k,hk,hk11,rfl,hall⟩:=hrel
   have HALL:=Lh hall
   clear hall
   by_cases hlt:k < n
   · have d1:decide (k < n)=true:=by simpa using hlt
     by_cases h11:k < 11
     · have d2:decide ((k:Int) < 11)=true:=by simp;omega
       obtain ⟨r,hr⟩:∃ r,l[k]? = some r:=⟨_,List.getElem?_eq_getElem (by have:=HN.out;omega)⟩
       obtain ⟨b,off,A',c',rfl,hFb,h0,h1,h2,hby,hb64,hlen⟩:=HL.out.at_ hr
       have HR:=Lh hr
       have hb:=World.block_lt_of_cell? w _ h1
       have i0:(0:Int)≤(k:Int):=by omega
       have i1:(k:Int) < (n:Int):=by omega
       clear hby hr h0 h2 hb64
       by_cases h3:300 < r.bytes.length
       · have h3':(300:Int) < (r.bytes.length:Int):=by omega
         have HH:=Lh h3
         clear h3
         go_wp2
         go_ret
         exact ⟨ret_bool (lightR_no HR.out h11 HH.out).symm,Below.refl _ _⟩
       · have h3':(r.bytes.length:Int)≤(300:Int):=by omega
         have HH:=Lh h3
         clear h3
         go_wp2
         go_round
         case rel=>exact ⟨k+1,by omega,by omega,by go_num,fun j r' hj hr'=>by
           rcases Nat.lt_or_ge j k with h | h
           · exact HALL.out j r' h hr'
           · obtain rfl:j=k:=by omega
             have h1:=HR.out
             rw [h1] at hr'
             cases hr'
             have:=HH.out;omega⟩
         case measure=>simp [intOf];omega
     · have d2:decide ((k:Int) < 11)=false:=by simp;omega
       have hk':k=l.length∨k=11:=by omega
       have hle:=lightR_end hk' HALL.out
       rw [HN.out] at hle
       have HE:=Lh hle
       clear hle hk'
       go_wp2
       go_ret
       exact ⟨ret_bool (by rw [HE.out];simp;omega),Below.refl _ _⟩
   · have d1:decide (k < n)=false:=by simpa using hlt
     have hk':k=l.length∨k=11:=by have:=HN.out;omega
     have hle:=lightR_end hk' HALL.out
     rw [HN.out] at hle
     have HE:=Lh hle
     clear hle hk'
     go_wp2
     go_ret
     exact ⟨ret_bool (by rw [HE.out];simp;omega),Below.refl _ _⟩
def regEq (a b:Reg):Bool:=(a.base == b.base && a.write == b.write) && a.bytes == b.bytes
def sameR (a b:List Reg):Bool:=a.length == b.length && (a.zip b).all fun x=>regEq x.1 x.2
theorem regEq_iff (a b:Reg):regEq a b=true↔a=b:=by
 cases a;cases b
 simp only [regEq,Bool.and_eq_true,beq_iff_eq,Reg.mk.injEq]
 constructor
 · rintro ⟨⟨h1,h2⟩,h3⟩;exact ⟨h1,h3,h2⟩
 · rintro ⟨h1,h2,h3⟩;exact ⟨⟨h1,h3⟩,h2⟩
theorem sameR_iff (a b:List Reg):sameR a b=true↔a=b:=by
 induction a generalizing b with
 | nil=>cases b <;> simp [sameR]
 | cons x a ih =>
   cases b with
   | nil=>simp [sameR]
   | cons y b =>
     have h1:=ih b
     have h2:=regEq_iff x y
     simp only [sameR,List.length_cons,List.zip_cons_cons,List.all_cons,Bool.and_eq_true,beq_iff_eq,List.cons.injEq] at h1 ⊢
     rw [←h1,←h2]
     constructor
     · rintro ⟨h1,h2,h3⟩;exact ⟨h2,by omega,h3⟩
     · rintro ⟨h1,h2,h3⟩;exact ⟨by omega,h1,h3⟩
theorem sameR_len {a b:List Reg} (h:a.length≠b.length):sameR a b=false:=by
 cases hs:sameR a b
 · rfl
 · exact absurd (congrArg List.length ((sameR_iff a b).1 hs)) h
theorem sameR_no {a b:List Reg} {k:Nat} {x y:Reg} (h1:a[k]? = some x) (h2:b[k]? = some y) (h:x≠y):sameR a b=false:=by
 cases hs:sameR a b
 · rfl
 · have:=(sameR_iff a b).1 hs
   subst this
   rw [h1] at h2
   cases h2
   exact absurd rfl h
theorem sameR_yes {a b:List Reg} (hl:a.length=b.length) (h:∀ (j:Nat) (x y:Reg),j < a.length→a[j]? = some x→b[j]? = some y→x=y):sameR a b=true:=by
 rw [sameR_iff]
 refine List.ext_getElem hl fun j h1 h2=>?_
 exact h j _ _ h1 (List.getElem?_eq_getElem h1) (List.getElem?_eq_getElem h2)
theorem flat_bytes (l:List UInt8):(l.map fun x=>[byteV x]).flatten=l.map byteV:=by
 induction l with
 | nil=>rfl
 | cons x l ih=>rw [List.map_cons,List.flatten_cons,ih];rfl
theorem conv_bytes {w:World} {F:Nat→Prop} {A:Option Addr} {n c:Nat} {l:List UInt8} (h:BytesAt w F (.slice A n c) l):(convert 70 9 (.slice A n c)).run Tryz.prog w=.ok (.string ⟨l.toArray⟩) w:=by
 have h':=h
 obtain ⟨A',c',hv,hc,hl,hne⟩:=h
 cases hv
 simp only [List.length_map] at hc ⊢
 cases A with
 | none =>
   have h0:l=[]:=by
     cases l with
     | nil=>rfl
     | cons x l=>obtain ⟨b,off,hA,_⟩:=hne (by simp);cases hA
   subst h0
   exact Lib.run_convert_nil_bytes w 70 9 5 c Tryz.underlying70 Tryz.underlying5 Tryz.underlying9
 | some ad =>
   obtain ⟨_,hfc⟩:=Rows.flat h' (by decide)
   refine run_convert_bytes_back (P:=Tryz.prog) w 70 9 5 ad c l Tryz.underlying70 Tryz.underlying5 Tryz.underlying9 (fun j hj=>?_)
   refine hfc j _ ?_
   rw [flat_bytes,List.getElem?_map,List.getElem?_eq_getElem hj]
   rfl
set_option maxHeartbeats 1600000 in
theorem Same_any (v u:Value) (w:World) (F:Nat→Prop) (a b:List Reg) (hn:a.length≤9223372036854775807) (ha:RegsAt w F v a) (hb:RegsAt w F u b) (hF:∀ k,F k→k < w.heap.size) :
   Calls Tryz.prog 18 #[v,u] w fun e w'=>e=.returned (.bool (sameR a b))∧Below w.heap.size w w':=by
 obtain ⟨A,c,rfl,hc⟩:=ha.form
 obtain ⟨B,d,rfl,hd⟩:=hb.form
 have HA:=Lh ha
 have HB:=Lh hb
 have HF:=Lh hF
 clear ha hb hc hd hF
 by_cases hlen:a.length=b.length
 · rw [←hlen]
   generalize hln:a.length=n at *
   have HN:=Lh hln
   have HN2:=Lh hlen
   clear hln hlen
   have hnn:(n != n)=false:=by simp
   have hnn2:((n:Int) !=(n:Int))=false:=by simp
   go_enter Tryz.func18,Tryz.ntmps18
   go_wp2
   go_loopw [5] (fun i wr=>∃ k:Nat,k≤n∧i=.int .i64 k∧Below w.heap.size w wr∧∀ (j:Nat) (x y:Reg),j < k→a[j]? = some x→b[j]? = some y→x=y) (fun i _=>n - (intOf i).toNat)
   case atStart=>exact ⟨0,by omega,rfl,Below.refl _ _,fun j x y hj=>absurd hj (by omega)⟩
   case round =>
     obtain ⟨k,hk,rfl,hbl,hall⟩:=hrel
     have HALL:=Lh hall
     have HBL:=Lh hbl
     clear hall hbl
     by_cases hlt:k < n
     · obtain ⟨r,hr⟩:∃ r,a[k]? = some r:=⟨_,List.getElem?_eq_getElem (by have:=HN.out;omega)⟩
       obtain ⟨s,hs⟩:∃ s,b[k]? = some s:=⟨_,List.getElem?_eq_getElem (by have:=HN2.out;omega)⟩
       obtain ⟨b1,o1,A1,c1,rfl,hF1,p0,p1,p2,hby1,_,_⟩:=HA.out.at_ hr
       obtain ⟨b2,o2,A2,c2,rfl,hF2,q0,q1,q2,hby2,_,_⟩:=HB.out.at_ hs
       have l1:b1 < wr.heap.size:=Nat.lt_of_lt_of_le (HF.out b1 hF1) HBL.out.size
       have l2:b2 < wr.heap.size:=Nat.lt_of_lt_of_le (HF.out b2 hF2) HBL.out.size
       have g0:=(HBL.out.cell (p:=⟨b1,o1+k*3,none⟩) (HF.out b1 hF1)).trans p0
       have g1:=(HBL.out.cell (p:=⟨b1,o1+k*3+1,none⟩) (HF.out b1 hF1)).trans p1
       have g2:=(HBL.out.cell (p:=⟨b1,o1+k*3+2,none⟩) (HF.out b1 hF1)).trans p2
       have h0:=(HBL.out.cell (p:=⟨b2,o2+k*3,none⟩) (HF.out b2 hF2)).trans q0
       have h1:=(HBL.out.cell (p:=⟨b2,o2+k*3+1,none⟩) (HF.out b2 hF2)).trans q1
       have h2:=(HBL.out.cell (p:=⟨b2,o2+k*3+2,none⟩) (HF.out b2 hF2)).trans q2
       have m1:∀ w_,Below wr.heap.size wr w_→(convert 70 9 (.slice A1 r.bytes.length c1)).run Tryz.prog w_=.ok (.string ⟨r.bytes.toArray⟩) w_:=fun w_ hw_=>conv_bytes (hby1.keep (SameOn.of_below (HBL.out.trans (hw_.mono HBL.out.size)) HF.out))
       have m2:∀ w_,Below wr.heap.size wr w_→(convert 70 9 (.slice A2 s.bytes.length c2)).run Tryz.prog w_=.ok (.string ⟨s.bytes.toArray⟩) w_:=fun w_ hw_=>conv_bytes (hby2.keep (SameOn.of_below (HBL.out.trans (hw_.mono HBL.out.size)) HF.out))
       have i0:(0:Int)≤(k:Int):=by omega
       have i1:(k:Int) < (n:Int):=by omega
       have HR:=Lh hr
       have HS:=Lh hs
       clear p0 p1 p2 q0 q1 q2 hby1 hby2 hr hs
       by_cases e0:r.base=s.base
       · have e0':((r.base:Int) !=(s.base:Int))=false:=by simp [e0]
         have E0:=Lh e0
         clear e0
         by_cases e1:r.write=s.write
         · have e1':(r.write == s.write)=true:=by simpa using e1
           have E1:=Lh e1
           clear e1
           by_cases e2:r.bytes=s.bytes
           · have e2':(r.bytes == s.bytes)=true:=by simpa using e2
             have hrs:r=s:=by have h0:=E0.out;have h1:=E1.out;cases r;cases s;simp_all
             have HRS:=Lh hrs
             clear e2 hrs
             go_wp2
             (refine wp_region_lines (Below wr.heap.size wr) (by kernel_rfl) (by kernel_rfl) (Below.refl _ _).drew ?_)
             have hS:=(Below.refl wr.heap.size wr).drew
             (try simp only [])
             repeat (first | (refine runL_no (by rfl) ?_;(try simp only [Act.put,List.setIfInBounds_toArray,List.set_cons_zero,List.set_cons_succ])) | (refine runL_val (v:=?_) (by rfl) ?_ ?_;rotate_left;(focus (intro w_ hw_;have hc_:=bcell hw_;go_simp;(try with_reducible rfl);done));(try simp only [Act.put,List.setIfInBounds_toArray,List.set_cons_zero,List.set_cons_succ])))
             (refine runL_nil ?_)
             go_wp2
             go_roundw
             case rel=>exact ⟨k+1,by omega,by go_num,HBL.out.trans (hS.mono HBL.out.size),fun j x y hj hx hy=>by
               rcases Nat.lt_or_ge j k with h | h
               · exact HALL.out j x y h hx hy
               · obtain rfl:j=k:=by omega
                 have h1:=HR.out
                 have h2:=HS.out
                 rw [h1] at hx
                 rw [h2] at hy
                 cases hx
                 cases hy
                 exact HRS.out⟩
             case measure=>simp [intOf];omega
           · have e2':(r.bytes == s.bytes)=false:=by simpa using e2
             have hno:=sameR_no HR.out HS.out (fun e=>e2 (by rw [e]))
             have HNO:=Lh hno
             clear hno e2
             go_wp2
             (refine wp_region_lines (Below wr.heap.size wr) (by kernel_rfl) (by kernel_rfl) (Below.refl _ _).drew ?_)
             have hS:=(Below.refl wr.heap.size wr).drew
             (try simp only [])
             repeat (first | (refine runL_no (by rfl) ?_;(try simp only [Act.put,List.setIfInBounds_toArray,List.set_cons_zero,List.set_cons_succ])) | (refine runL_val (v:=?_) (by rfl) ?_ ?_;rotate_left;(focus (intro w_ hw_;have hc_:=bcell hw_;go_simp;(try with_reducible rfl);done));(try simp only [Act.put,List.setIfInBounds_toArray,List.set_cons_zero,List.set_cons_succ])))
             (refine runL_nil ?_)
             go_wp2
             go_ret
             exact ⟨ret_bool HNO.out.symm,HBL.out.trans (hS.mono HBL.out.size)⟩
         · have e1':(r.write == s.write)=false:=by simpa using e1
           have hno:=sameR_no HR.out HS.out (fun e=>e1 (by rw [e]))
           have HNO:=Lh hno
           clear hno e1
           go_wp2
           (refine wp_region_lines (Below wr.heap.size wr) (by kernel_rfl) (by kernel_rfl) (Below.refl _ _).drew ?_)
           have hS:=(Below.refl wr.heap.size wr).drew
           (try simp only [])
           repeat (first | (refine runL_no (by rfl) ?_;(try simp only [Act.put,List.setIfInBounds_toArray,List.set_cons_zero,List.set_cons_succ])) | (refine runL_val (v:=?_) (by rfl) ?_ ?_;rotate_left;(focus (intro w_ hw_;have hc_:=bcell hw_;go_simp;(try with_reducible rfl);done));(try simp only [Act.put,List.setIfInBounds_toArray,List.set_cons_zero,List.set_cons_succ])))
           (refine runL_nil ?_)
           go_wp2
           go_ret
           exact ⟨ret_bool HNO.out.symm,HBL.out.trans (hS.mono HBL.out.size)⟩
       · have e0':((r.base:Int) !=(s.base:Int))=true:=by simp;omega
         have hno:=sameR_no HR.out HS.out (fun e=>e0 (by rw [e]))
         have HNO:=Lh hno
         clear hno e0
         go_wp2
         (refine wp_region_lines (Below wr.heap.size wr) (by kernel_rfl) (by kernel_rfl) (Below.refl _ _).drew ?_)
         have hS:=(Below.refl wr.heap.size wr).drew
         (try simp only [])
         repeat (first | (refine runL_no (by rfl) ?_;(try simp only [Act.put,List.setIfInBounds_toArray,List.set_cons_zero,List.set_cons_succ])) | (refine runL_val (v:=?_) (by rfl) ?_ ?_;rotate_left;(focus (intro w_ hw_;have hc_:=bcell hw_;go_simp;(try with_reducible rfl);done));(try simp only [Act.put,List.setIfInBounds_toArray,List.set_cons_zero,List.set_cons_succ])))
         (refine runL_nil ?_)
         go_wp2
         go_ret
         exact ⟨ret_bool HNO.out.symm,HBL.out.trans (hS.mono HBL.out.size)⟩
     · have hyes:=sameR_yes (a:=a) (b:=b) (by have:=HN.out;have:=HN2.out;omega) (by have:=HN.out;have:=HALL.out;intro j x y hj;exact this j x y (by omega))
       have HY:=Lh hyes
       clear hyes
       go_wp2
       go_ret
       exact ⟨ret_bool HY.out.symm,HBL.out⟩
 · have hs:=sameR_len hlen
   have HS:=Lh hs
   have hne:((a.length:Int) !=(b.length:Int))=true:=by simp;omega
   have hne2:(a.length != b.length)=true:=by simp;omega
   clear hs hlen
   go_enter Tryz.func18,Tryz.ntmps18
   go_wp2
   go_ret
   exact ⟨ret_bool HS.out.symm,Below.refl _ _⟩
end Go.Proofs.YtocndimihokcmaaGreat
