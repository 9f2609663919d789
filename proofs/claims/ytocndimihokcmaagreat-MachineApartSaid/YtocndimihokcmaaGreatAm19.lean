/- Part 19 of a claim; what it proves stands in its last text. -/
import Derived.Test.YtocndimihokcmaaGreatAm18
import Derived.Test.YtocndimihokcmaaGreatAm14
namespace Go.Proofs.YtocndimihokcmaaGreat
open Go.RowKit
set_option maxRecDepth 100000
open Go.Maps (Keyed)
open Go.Maps
set_option maxHeartbeats 8000000 in
theorem dany_41s {L:List UInt8} {b:Nat} {c:Cur} {w:World} (f:Nat) (hL:L.length≤1000000000) (h:CurAt 104 false L b w c)  (n3:(byteC c).1=65) (IH:∀ w_:World,CurAt 104 false L b w_ (byteC c).2→Calls Tryz.prog 43 #[.pointer (some ⟨b,0,none⟩)] w_ (CurSay 104 false L b w_ (anyC f (byteC c).2).2 (.agg (insRow (anyC f (byteC c).2).1).toArray))) (ho:(anyC f (byteC c).2).1.op=28) (he:anyC (f+1) c=({ (anyC f (byteC c).2).1 with s:=((anyC f (byteC c).2).1.s.toNat ||| 8:Nat) },(anyC f (byteC c).2).2)):Calls Tryz.prog 43 #[.pointer (some ⟨b,0,none⟩)] w (CurSay 104 false L b w (anyC (f+1) c).2 (.agg (insRow (anyC (f+1) c).1).toArray)):=by
 have HLT:=Lh h.lt
 have hb256:(byteC c).1 < 256:=(bok h.ok).2
 have HB:=Lh (fun (w_:World) (h_:CurAt 104 false L b w_ c)=>byte_any hL h_)
 have HC:=Lh (show CurAt 104 false L b (w.alloc (.cells #[.int .i64 0,.int .i64 0,.int .i64 0,.int .i64 0,.int .i64 0,.int .i64 0,.int .i64 0,.int .i64 0,.int .i64 0] 40)) c from h.alloc _)
 have HR:=Lh (show (w.alloc (.cells #[.int .i64 0,.int .i64 0,.int .i64 0,.int .i64 0,.int .i64 0,.int .i64 0,.int .i64 0,.int .i64 0,.int .i64 0] 40)).heap[w.heap.size]? = some (.cells #[.int .i64 0,.int .i64 0,.int .i64 0,.int .i64 0,.int .i64 0,.int .i64 0,.int .i64 0,.int .i64 0,.int .i64 0] 40 (0,0)) from heap_alloc_new w _)
 have HG:=Lh ((Chg.refl (fun j=>j=b) w).alloc (.cells #[.int .i64 0,.int .i64 0,.int .i64 0,.int .i64 0,.int .i64 0,.int .i64 0,.int .i64 0,.int .i64 0,.int .i64 0] 40))
 have f1:Go.bits .and .i64 ((byteC c).1:Int) 248=(((byteC c).1 / 8*8:Nat):Int):=and248 hb256
 have d0_:(((byteC c).1:Int) == 195)=false:=beq_eq_false_iff_ne.2 (by omega)
 have d1_:((((byteC c).1 / 8*8:Nat):Int) == 80)=false:=beq_eq_false_iff_ne.2 (by omega)
 have d2_:((((byteC c).1 / 8*8:Nat):Int) == 88)=false:=beq_eq_false_iff_ne.2 (by omega)
 have d3_:(((byteC c).1:Int) == 65)=true:=beq_iff_eq.2 (by omega)
 have HN:=Lh IH
 have hsm:=any_sm f (byteC c).2
 rw [he]
 dsimp only
 clear he h hL hb256 IH n3
 generalize (anyC f (byteC c).2).1=I at *
 generalize (anyC f (byteC c).2).2=c2 at *
 generalize (byteC c).1 / 8*8=q at *
 generalize (byteC c).2=c1 at *
 generalize (byteC c).1=bb at *
 have fo:Go.bits .or .i64 I.s 8=((I.s.toNat ||| 8:Nat):Int):=or8_int hsm.1
 have d9:(I.op == 28)=true:=beq_iff_eq.2 ho
 have HI:=Lh (show insRow I=[.int .i64 I.op,.int .i64 I.d,.int .i64 I.s,.int .i64 I.t,.int .i64 I.base,.int .i64 I.index,.int .i64 I.scale,.int .i64 I.disp,.int .i64 I.imm] from rfl)
 clear hsm ho
 obtain ⟨vv,hvv⟩:∃ x,x=((I.s.toNat ||| 8:Nat):Int):=⟨_,rfl⟩
 rw [←hvv] at fo ⊢
 clear hvv
 go_enter Tryz.func43,Tryz.ntmps43
 go_wp2_with (first | (refine wpList_store_row rfl 40 _ _ rfl w.heap.size _ rfl rfl 40 _ (HR.out) (by kernel_rfl) (by rfl) (by kernel_rfl) ?_) | ((with_reducible refine (HB.out _ HC.out).mono ?_);rintro e_ w1 ⟨rfl,hc1,hg1⟩;have HR:=Lh (keepS hg1 (by have:=HLT.out;omega) HR.out);have HG:=Lh (HG.out.trans hg1);have HC:=Lh hc1;clear hc1 hg1) | ((with_reducible refine (HN.out _ HC.out).mono ?_);rintro e_ w3 ⟨rfl,hc3,hg3⟩;have HR:=Lh (keepS hg3 (by have:=HLT.out;omega) HR.out);have HG:=Lh (HG.out.trans hg3);have HC:=Lh hc3;clear hc3 hg3) | (refine wpList_store_row rfl 40 _ _ rfl w3.heap.size (insRow I).toArray rfl rfl 40 _ (heap_alloc_new w3 _) (by kernel_rfl) (by rfl) (by kernel_rfl) ?_;generalize hY:World.setRow (w3.alloc (.cells #[.int .i64 0,.int .i64 0,.int .i64 0,.int .i64 0,.int .i64 0,.int .i64 0,.int .i64 0,.int .i64 0,.int .i64 0] 40)) w3.heap.size (insRow I).toArray=Y;have HRY:=Lh (show Y.heap[w3.heap.size]? = some (.cells (insRow I).toArray 40 (0,0)) from by rw [←hY];exact setRow_heap _ _ _ _ _ _ (heap_alloc_new w3 _));have HL3:=Lh (show b < w3.heap.size∧w.heap.size < w3.heap.size from ⟨HC.out.lt,lt_of_block HR.out⟩);have HR:=Lh (show Y.heap[w.heap.size]? = some (.cells #[.int .i64 0,.int .i64 0,.int .i64 0,.int .i64 0,.int .i64 0,.int .i64 0,.int .i64 0,.int .i64 0,.int .i64 0] 40 (0,0)) from by rw [←hY];exact (setRow_other _ _ _ _ (fun e=>by have:=HL3.out;omega)).trans ((heap_alloc_old w3 _ HL3.out.2).trans HR.out));have HC:=Lh (show CurAt 104 false L b Y c2 from by rw [←hY];exact (HC.out.alloc _).setRow (fun e=>by have:=HL3.out;omega) _);have HG:=Lh (show Chg (fun j=>j=b) w Y from by rw [←hY];exact (HG.out.alloc _).setRow (.inr (by have:=HL3.out;omega)) _);clear hY;have h0_:=(cell_at (k:=0) HRY.out rfl).1;obtain ⟨hk_,zk_⟩:=cell_at (k:=2) HRY.out rfl;have HL:=Lh (show (Y.setCell ⟨w3.heap.size,2,none⟩ (.int .i64 vv)).heap[w3.heap.size]? = some (.cells [.int .i64 I.op,.int .i64 I.d,.int .i64 vv,.int .i64 I.t,.int .i64 I.base,.int .i64 I.index,.int .i64 I.scale,.int .i64 I.disp,.int .i64 I.imm].toArray 40 (0,0)) from heap_setCell_row HRY.out 2 (.int .i64 vv));have HRL:=Lh (show (Y.setCell ⟨w3.heap.size,2,none⟩ (.int .i64 vv)).heap[w.heap.size]? = some (.cells #[.int .i64 0,.int .i64 0,.int .i64 0,.int .i64 0,.int .i64 0,.int .i64 0,.int .i64 0,.int .i64 0,.int .i64 0] 40 (0,0)) from (Below.heap_setCell _ _ _ _ (fun e=>by have h9:w.heap.size=w3.heap.size:=e;have:=HL3.out;omega)).trans HR.out)) | (refine wpList_load_row rfl 40 _ rfl w3.heap.size rfl 40 _ (0,0) _ (HL.out) Tryz.underlying40 rfl (by kernel_rfl) ?_) | (refine wpList_store_row rfl 40 _ _ rfl w.heap.size _ rfl rfl 40 _ (HRL.out) (by kernel_rfl) (by rfl) (by kernel_rfl) ?_))
 refine bodyPost_ret (results_cell_row (ty:=40) rfl _ _ w.heap.size 40 _ (0,0) _ rfl (setRow_heap _ _ _ _ _ _ (HRL.out)) Tryz.underlying40 rfl (by kernel_rfl)) rfl ⟨rfl,?_⟩
 exact ⟨(HC.out.set (fun e=>by have:=HL3.out;omega) _ _).setRow (by have:=HLT.out;omega) _,(HG.out.setCell (p:=⟨w3.heap.size,2,none⟩) (.inr (Nat.le_of_lt HL3.out.2)) _).setRow (.inr (Nat.le_refl _)) _⟩
set_option maxHeartbeats 8000000 in
theorem dany_41d {L:List UInt8} {b:Nat} {c:Cur} {w:World} (f:Nat) (hL:L.length≤1000000000) (h:CurAt 104 false L b w c)  (n3:(byteC c).1=65) (IH:∀ w_:World,CurAt 104 false L b w_ (byteC c).2→Calls Tryz.prog 43 #[.pointer (some ⟨b,0,none⟩)] w_ (CurSay 104 false L b w_ (anyC f (byteC c).2).2 (.agg (insRow (anyC f (byteC c).2).1).toArray))) (ho:(anyC f (byteC c).2).1.op≠28) (he:anyC (f+1) c=({ (anyC f (byteC c).2).1 with d:=((anyC f (byteC c).2).1.d.toNat ||| 8:Nat) },(anyC f (byteC c).2).2)):Calls Tryz.prog 43 #[.pointer (some ⟨b,0,none⟩)] w (CurSay 104 false L b w (anyC (f+1) c).2 (.agg (insRow (anyC (f+1) c).1).toArray)):=by
 have HLT:=Lh h.lt
 have hb256:(byteC c).1 < 256:=(bok h.ok).2
 have HB:=Lh (fun (w_:World) (h_:CurAt 104 false L b w_ c)=>byte_any hL h_)
 have HC:=Lh (show CurAt 104 false L b (w.alloc (.cells #[.int .i64 0,.int .i64 0,.int .i64 0,.int .i64 0,.int .i64 0,.int .i64 0,.int .i64 0,.int .i64 0,.int .i64 0] 40)) c from h.alloc _)
 have HR:=Lh (show (w.alloc (.cells #[.int .i64 0,.int .i64 0,.int .i64 0,.int .i64 0,.int .i64 0,.int .i64 0,.int .i64 0,.int .i64 0,.int .i64 0] 40)).heap[w.heap.size]? = some (.cells #[.int .i64 0,.int .i64 0,.int .i64 0,.int .i64 0,.int .i64 0,.int .i64 0,.int .i64 0,.int .i64 0,.int .i64 0] 40 (0,0)) from heap_alloc_new w _)
 have HG:=Lh ((Chg.refl (fun j=>j=b) w).alloc (.cells #[.int .i64 0,.int .i64 0,.int .i64 0,.int .i64 0,.int .i64 0,.int .i64 0,.int .i64 0,.int .i64 0,.int .i64 0] 40))
 have f1:Go.bits .and .i64 ((byteC c).1:Int) 248=(((byteC c).1 / 8*8:Nat):Int):=and248 hb256
 have d0_:(((byteC c).1:Int) == 195)=false:=beq_eq_false_iff_ne.2 (by omega)
 have d1_:((((byteC c).1 / 8*8:Nat):Int) == 80)=false:=beq_eq_false_iff_ne.2 (by omega)
 have d2_:((((byteC c).1 / 8*8:Nat):Int) == 88)=false:=beq_eq_false_iff_ne.2 (by omega)
 have d3_:(((byteC c).1:Int) == 65)=true:=beq_iff_eq.2 (by omega)
 have HN:=Lh IH
 have hsm:=any_sm f (byteC c).2
 rw [he]
 dsimp only
 clear he h hL hb256 IH n3
 generalize (anyC f (byteC c).2).1=I at *
 generalize (anyC f (byteC c).2).2=c2 at *
 generalize (byteC c).1 / 8*8=q at *
 generalize (byteC c).2=c1 at *
 generalize (byteC c).1=bb at *
 have fo:Go.bits .or .i64 I.d 8=((I.d.toNat ||| 8:Nat):Int):=or8_int hsm.2
 have d9:(I.op == 28)=false:=beq_eq_false_iff_ne.2 ho
 have HI:=Lh (show insRow I=[.int .i64 I.op,.int .i64 I.d,.int .i64 I.s,.int .i64 I.t,.int .i64 I.base,.int .i64 I.index,.int .i64 I.scale,.int .i64 I.disp,.int .i64 I.imm] from rfl)
 clear hsm ho
 obtain ⟨vv,hvv⟩:∃ x,x=((I.d.toNat ||| 8:Nat):Int):=⟨_,rfl⟩
 rw [←hvv] at fo ⊢
 clear hvv
 go_enter Tryz.func43,Tryz.ntmps43
 go_wp2_with (first | (refine wpList_store_row rfl 40 _ _ rfl w.heap.size _ rfl rfl 40 _ (HR.out) (by kernel_rfl) (by rfl) (by kernel_rfl) ?_) | ((with_reducible refine (HB.out _ HC.out).mono ?_);rintro e_ w1 ⟨rfl,hc1,hg1⟩;have HR:=Lh (keepS hg1 (by have:=HLT.out;omega) HR.out);have HG:=Lh (HG.out.trans hg1);have HC:=Lh hc1;clear hc1 hg1) | ((with_reducible refine (HN.out _ HC.out).mono ?_);rintro e_ w3 ⟨rfl,hc3,hg3⟩;have HR:=Lh (keepS hg3 (by have:=HLT.out;omega) HR.out);have HG:=Lh (HG.out.trans hg3);have HC:=Lh hc3;clear hc3 hg3) | (refine wpList_store_row rfl 40 _ _ rfl w3.heap.size (insRow I).toArray rfl rfl 40 _ (heap_alloc_new w3 _) (by kernel_rfl) (by rfl) (by kernel_rfl) ?_;generalize hY:World.setRow (w3.alloc (.cells #[.int .i64 0,.int .i64 0,.int .i64 0,.int .i64 0,.int .i64 0,.int .i64 0,.int .i64 0,.int .i64 0,.int .i64 0] 40)) w3.heap.size (insRow I).toArray=Y;have HRY:=Lh (show Y.heap[w3.heap.size]? = some (.cells (insRow I).toArray 40 (0,0)) from by rw [←hY];exact setRow_heap _ _ _ _ _ _ (heap_alloc_new w3 _));have HL3:=Lh (show b < w3.heap.size∧w.heap.size < w3.heap.size from ⟨HC.out.lt,lt_of_block HR.out⟩);have HR:=Lh (show Y.heap[w.heap.size]? = some (.cells #[.int .i64 0,.int .i64 0,.int .i64 0,.int .i64 0,.int .i64 0,.int .i64 0,.int .i64 0,.int .i64 0,.int .i64 0] 40 (0,0)) from by rw [←hY];exact (setRow_other _ _ _ _ (fun e=>by have:=HL3.out;omega)).trans ((heap_alloc_old w3 _ HL3.out.2).trans HR.out));have HC:=Lh (show CurAt 104 false L b Y c2 from by rw [←hY];exact (HC.out.alloc _).setRow (fun e=>by have:=HL3.out;omega) _);have HG:=Lh (show Chg (fun j=>j=b) w Y from by rw [←hY];exact (HG.out.alloc _).setRow (.inr (by have:=HL3.out;omega)) _);clear hY;have h0_:=(cell_at (k:=0) HRY.out rfl).1;obtain ⟨hk_,zk_⟩:=cell_at (k:=1) HRY.out rfl;have HL:=Lh (show (Y.setCell ⟨w3.heap.size,1,none⟩ (.int .i64 vv)).heap[w3.heap.size]? = some (.cells [.int .i64 I.op,.int .i64 vv,.int .i64 I.s,.int .i64 I.t,.int .i64 I.base,.int .i64 I.index,.int .i64 I.scale,.int .i64 I.disp,.int .i64 I.imm].toArray 40 (0,0)) from heap_setCell_row HRY.out 1 (.int .i64 vv));have HRL:=Lh (show (Y.setCell ⟨w3.heap.size,1,none⟩ (.int .i64 vv)).heap[w.heap.size]? = some (.cells #[.int .i64 0,.int .i64 0,.int .i64 0,.int .i64 0,.int .i64 0,.int .i64 0,.int .i64 0,.int .i64 0,.int .i64 0] 40 (0,0)) from (Below.heap_setCell _ _ _ _ (fun e=>by have h9:w.heap.size=w3.heap.size:=e;have:=HL3.out;omega)).trans HR.out)) | (refine wpList_load_row rfl 40 _ rfl w3.heap.size rfl 40 _ (0,0) _ (HL.out) Tryz.underlying40 rfl (by kernel_rfl) ?_) | (refine wpList_store_row rfl 40 _ _ rfl w.heap.size _ rfl rfl 40 _ (HRL.out) (by kernel_rfl) (by rfl) (by kernel_rfl) ?_))
 refine bodyPost_ret (results_cell_row (ty:=40) rfl _ _ w.heap.size 40 _ (0,0) _ rfl (setRow_heap _ _ _ _ _ _ (HRL.out)) Tryz.underlying40 rfl (by kernel_rfl)) rfl ⟨rfl,?_⟩
 exact ⟨(HC.out.set (fun e=>by have:=HL3.out;omega) _ _).setRow (by have:=HLT.out;omega) _,(HG.out.setCell (p:=⟨w3.heap.size,1,none⟩) (.inr (Nat.le_of_lt HL3.out.2)) _).setRow (.inr (Nat.le_refl _)) _⟩
theorem danyF_any {L:List UInt8} {b:Nat} (hL:L.length≤1000000000):∀ (f:Nat) (c:Cur) (w:World),c.1.length≤f→CurAt 104 false L b w c→Calls Tryz.prog 43 #[.pointer (some ⟨b,0,none⟩)] w (CurSay 104 false L b w (anyC (f+1) c).2 (.agg (insRow (anyC (f+1) c).1).toArray)):=by
 intro f
 induction f with
 | zero =>
   intro c w hl h
   have e:c.1=[]:=List.eq_nil_of_length_eq_zero (by omega)
   have hb:(byteC c).1=0:=by rw [byteC_nil e]
   refine dany_wide 0 hL h (by omega) (by omega) (by omega) (by omega) (by omega) (by omega) (by omega) (by omega) (by omega) ?_
   show (if (byteC c).1=195 then _ else _)=_
   rw [hb]
   simp
 | succ f ih =>
   intro c w hl h
   by_cases n0:(byteC c).1=195
   · exact dany_ret _ hL h n0 (by unfold anyC;rw [if_pos n0])
   by_cases n1:(byteC c).1 / 8=10
   · exact dany_push _ hL h n1 (by unfold anyC;rw [if_neg n0,if_pos n1])
   by_cases n2:(byteC c).1 / 8=11
   · exact dany_pop _ hL h n2 (by unfold anyC;rw [if_neg n0,if_neg n1,if_pos n2])
   by_cases n3:(byteC c).1=65
   · have hne:c.1≠[]:=by
       intro e
       rw [byteC_nil e] at n3
       cases n3
     have hlen:(byteC c).2.1.length≤f:=by
       obtain ⟨l,x⟩:=c
       cases l with
       | nil=>exact absurd rfl hne
       | cons a t=>have:(a :: t).length≤f+1:=hl;rw [List.length_cons] at this;show t.length≤f;omega
     have hih:=fun w_ (h_:CurAt 104 false L b w_ (byteC c).2)=>ih (byteC c).2 w_ hlen h_
     have he:anyC (f+1+1) c=if (anyC (f+1) (byteC c).2).1.op=28 then ({ (anyC (f+1) (byteC c).2).1 with s:=((anyC (f+1) (byteC c).2).1.s.toNat ||| 8:Nat) },(anyC (f+1) (byteC c).2).2) else ({ (anyC (f+1) (byteC c).2).1 with d:=((anyC (f+1) (byteC c).2).1.d.toNat ||| 8:Nat) },(anyC (f+1) (byteC c).2).2):=by
       conv=>lhs;unfold anyC
       rw [if_neg n0,if_neg n1,if_neg n2,if_pos n3]
     by_cases ho:(anyC (f+1) (byteC c).2).1.op=28
     · exact dany_41s _ hL h n3 hih ho (by rw [he,if_pos ho])
     · exact dany_41d _ hL h n3 hih ho (by rw [he,if_neg ho])
   by_cases n4:(byteC c).1=233
   · exact dany_jmp _ hL h n4 (by unfold anyC;rw [if_neg n0,if_neg n1,if_neg n2,if_neg n3,if_pos n4])
   by_cases n5:(byteC c).1=15
   · exact dany_jcc _ hL h n5 (by unfold anyC;rw [if_neg n0,if_neg n1,if_neg n2,if_neg n3,if_neg n4,if_pos n5])
   by_cases n6:(byteC c).1=196
   · exact dany_mulx _ hL h n6 (by unfold anyC;rw [if_neg n0,if_neg n1,if_neg n2,if_neg n3,if_neg n4,if_neg n5,if_pos n6])
   by_cases n7:(byteC c).1=102
   · exact dany_adcx _ hL h n7 (by unfold anyC;rw [if_neg n0,if_neg n1,if_neg n2,if_neg n3,if_neg n4,if_neg n5,if_neg n6,if_pos (.inl n7),if_pos n7])
   by_cases n8:(byteC c).1=243
   · exact dany_adox _ hL h n8 (by unfold anyC;rw [if_neg n0,if_neg n1,if_neg n2,if_neg n3,if_neg n4,if_neg n5,if_neg n6,if_pos (.inr n8),if_neg n7])
   refine dany_wide _ hL h (by omega) (by omega) (by omega) (by omega) (by omega) (by omega) (by omega) (by omega) (by omega) ?_
   conv=>lhs;unfold anyC
   rw [if_neg n0,if_neg n1,if_neg n2,if_neg n3,if_neg n4,if_neg n5,if_neg n6,if_neg (by omega)]
end Go.Proofs.YtocndimihokcmaaGreat
namespace Go.Proofs.YtocndimihokcmaaGreat
open Go.RowKit
set_option maxRecDepth 100000
theorem little_byte (k:Nat):∀ (n:Int),∀ x∈littleF n k,x < 256:=by
 induction k with
 | zero=>intro n x hx;cases hx
 | succ k ih =>
   intro n x hx
   rcases List.mem_cons.1 hx with h | h
   · omega
   · exact ih _ x h
theorem placeY_byte (m:Int) (i:Ins) (hok:PlcOk i):∀ x∈placeY m i,x < 256:=by
 intro x hx
 have h1:=mod_lt i
 have h2:=lo3_lt m
 have h3:=lo3_lt i.base
 have h4:=lo3_lt i.index
 have h5:scaleF i.scale < 4:=by unfold scaleF;split;decide;split;decide;split <;> decide
 have h6:=hok
 unfold placeY at hx
 rcases List.mem_append.1 hx with h | h
 · split at h
   · rcases List.mem_cons.1 h with h | h
     · omega
     · rcases List.mem_cons.1 h with h | h
       · split at h <;> omega
       · cases h
   · rcases List.mem_cons.1 h with h | h
     · omega
     · cases h
 · exact little_byte _ _ x h
theorem rex_byte {m x l:Int} (hm:m < 16) (hx:x < 16) (hl:l < 16):rexF m x l < 256:=by have:=rex_lt hm hx hl;omega
theorem both_byte (m l:Int):bothF m l < 256:=(both_q m l).2.2.1
def EncSay (i:Ins) (w:World) (e:Ending) (w':World):Prop:=e=.returned (.tuple #[strB (toB (encF i)),.int .i64 0])∧Below w.heap.size w w'
theorem inst_go {i:Ins} (hi:InsOk i) (hc:chkP i=true) (c m N:Nat) (l:List Nat) (hcm:(0≤(c:Int)∧(c:Int) < 256)∧(0≤(m:Int)∧(m:Int) < 256)) (hkw:(Lit.int .i64 i.op).wf=true) (hway:waysD.atKey (.int .i64 i.op) (.lit (.int .i64 (-1)))=wayN c m N) (hput:∀ w,Calls Tryz.prog N #[.agg #[.int .u8 (c:Nat),.int .u8 (m:Nat)],.agg (insRow i).toArray] w (BytesTold l w))
   (hent:∀ args w,(callFunc N args).run Tryz.prog w=.ok (.enter N args) w) (hl:encF i=l) (hb:∀ x∈l,x < 256) (w:World):Calls Tryz.prog 44 #[.agg (insRow i).toArray] w (EncSay i w):=by
 have h:=Inst_put i hi hc c m N hcm hkw hway l hput hent (by rw [←hl];exact (enc_len i).1) hb w
 unfold EncSay
 rw [hl]
 exact h
theorem ent_two:∀ args w,(callFunc 101 args).run Tryz.prog w=.ok (.enter 101 args) w:=enters_of Tryz.func101 (by kernel_rfl) rfl
theorem ent_wide:∀ args w,(callFunc 102 args).run Tryz.prog w=.ok (.enter 102 args) w:=enters_of Tryz.func102 (by kernel_rfl) rfl
theorem ent_toD:∀ args w,(callFunc 103 args).run Tryz.prog w=.ok (.enter 103 args) w:=enters_of Tryz.func103 (by kernel_rfl) rfl
theorem ent_fromS:∀ args w,(callFunc 104 args).run Tryz.prog w=.ok (.enter 104 args) w:=enters_of Tryz.func104 (by kernel_rfl) rfl
theorem ent_number:∀ args w,(callFunc 105 args).run Tryz.prog w=.ok (.enter 105 args) w:=enters_of Tryz.func105 (by kernel_rfl) rfl
theorem ent_one:∀ args w,(callFunc 108 args).run Tryz.prog w=.ok (.enter 108 args) w:=enters_of Tryz.func108 (by kernel_rfl) rfl
theorem ent_shift:∀ args w,(callFunc 109 args).run Tryz.prog w=.ok (.enter 109 args) w:=enters_of Tryz.func109 (by kernel_rfl) rfl
theorem ent_mulx:∀ args w,(callFunc 106 args).run Tryz.prog w=.ok (.enter 106 args) w:=enters_of Tryz.func106 (by kernel_rfl) rfl
theorem ent_chain:∀ args w,(callFunc 107 args).run Tryz.prog w=.ok (.enter 107 args) w:=enters_of Tryz.func107 (by kernel_rfl) rfl
theorem ent_move:∀ args w,(callFunc 110 args).run Tryz.prog w=.ok (.enter 110 args) w:=enters_of Tryz.func110 (by kernel_rfl) rfl
theorem ent_stack:∀ args w,(callFunc 111 args).run Tryz.prog w=.ok (.enter 111 args) w:=enters_of Tryz.func111 (by kernel_rfl) rfl
theorem ent_jump:∀ args w,(callFunc 112 args).run Tryz.prog w=.ok (.enter 112 args) w:=enters_of Tryz.func112 (by kernel_rfl) rfl
theorem ent_ret:∀ args w,(callFunc 113 args).run Tryz.prog w=.ok (.enter 113 args) w:=enters_of Tryz.func113 (by kernel_rfl) rfl
theorem mem3 {a b c x:Nat} (h:x∈[a,b,c]):x=a∨x=b∨x=c:=by simpa using h
set_option maxHeartbeats 4000000 in
theorem enc_1 {i:Ins} (hi:InsOk i) (hc:chkP i=true) (ho:i.op=1) (hd:0≤i.d∧i.d < 16) (hs:0≤i.s∧i.s < 16) (w:World):Calls Tryz.prog 44 #[.agg (insRow i).toArray] w (EncSay i w):=by
 obtain ⟨op,d,s,t,ba,ix,sc,di,im⟩:=i
 simp only at ho
 subst ho
 refine inst_go hi hc 137 0 101 ([rexF s 0 d,137,bothF s d]) (by decide) (by kernel_rfl) way_1 (fun w=>puttwo_any 137 0 _ hd hs w) ent_two rfl ?_ w
 intro x hx
 rcases mem3 hx with rfl | rfl | rfl
 · exact rex_byte hs.2 (by decide) hd.2
 · decide
 · exact both_byte _ _
set_option maxHeartbeats 4000000 in
theorem enc_6 {i:Ins} (hi:InsOk i) (hc:chkP i=true) (ho:i.op=6) (hd:0≤i.d∧i.d < 16) (hs:0≤i.s∧i.s < 16) (w:World):Calls Tryz.prog 44 #[.agg (insRow i).toArray] w (EncSay i w):=by
 obtain ⟨op,d,s,t,ba,ix,sc,di,im⟩:=i
 simp only at ho
 subst ho
 refine inst_go hi hc 1 0 101 ([rexF s 0 d,1,bothF s d]) (by decide) (by kernel_rfl) way_6 (fun w=>puttwo_any 1 0 _ hd hs w) ent_two rfl ?_ w
 intro x hx
 rcases mem3 hx with rfl | rfl | rfl
 · exact rex_byte hs.2 (by decide) hd.2
 · decide
 · exact both_byte _ _
set_option maxHeartbeats 4000000 in
theorem enc_7 {i:Ins} (hi:InsOk i) (hc:chkP i=true) (ho:i.op=7) (hd:0≤i.d∧i.d < 16) (hs:0≤i.s∧i.s < 16) (w:World):Calls Tryz.prog 44 #[.agg (insRow i).toArray] w (EncSay i w):=by
 obtain ⟨op,d,s,t,ba,ix,sc,di,im⟩:=i
 simp only at ho
 subst ho
 refine inst_go hi hc 17 0 101 ([rexF s 0 d,17,bothF s d]) (by decide) (by kernel_rfl) way_7 (fun w=>puttwo_any 17 0 _ hd hs w) ent_two rfl ?_ w
 intro x hx
 rcases mem3 hx with rfl | rfl | rfl
 · exact rex_byte hs.2 (by decide) hd.2
 · decide
 · exact both_byte _ _
set_option maxHeartbeats 4000000 in
theorem enc_8 {i:Ins} (hi:InsOk i) (hc:chkP i=true) (ho:i.op=8) (hd:0≤i.d∧i.d < 16) (hs:0≤i.s∧i.s < 16) (w:World):Calls Tryz.prog 44 #[.agg (insRow i).toArray] w (EncSay i w):=by
 obtain ⟨op,d,s,t,ba,ix,sc,di,im⟩:=i
 simp only at ho
 subst ho
 refine inst_go hi hc 41 0 101 ([rexF s 0 d,41,bothF s d]) (by decide) (by kernel_rfl) way_8 (fun w=>puttwo_any 41 0 _ hd hs w) ent_two rfl ?_ w
 intro x hx
 rcases mem3 hx with rfl | rfl | rfl
 · exact rex_byte hs.2 (by decide) hd.2
 · decide
 · exact both_byte _ _
set_option maxHeartbeats 4000000 in
theorem enc_9 {i:Ins} (hi:InsOk i) (hc:chkP i=true) (ho:i.op=9) (hd:0≤i.d∧i.d < 16) (hs:0≤i.s∧i.s < 16) (w:World):Calls Tryz.prog 44 #[.agg (insRow i).toArray] w (EncSay i w):=by
 obtain ⟨op,d,s,t,ba,ix,sc,di,im⟩:=i
 simp only at ho
 subst ho
 refine inst_go hi hc 25 0 101 ([rexF s 0 d,25,bothF s d]) (by decide) (by kernel_rfl) way_9 (fun w=>puttwo_any 25 0 _ hd hs w) ent_two rfl ?_ w
 intro x hx
 rcases mem3 hx with rfl | rfl | rfl
 · exact rex_byte hs.2 (by decide) hd.2
 · decide
 · exact both_byte _ _
set_option maxHeartbeats 4000000 in
theorem enc_10 {i:Ins} (hi:InsOk i) (hc:chkP i=true) (ho:i.op=10) (hd:0≤i.d∧i.d < 16) (hs:0≤i.s∧i.s < 16) (w:World):Calls Tryz.prog 44 #[.agg (insRow i).toArray] w (EncSay i w):=by
 obtain ⟨op,d,s,t,ba,ix,sc,di,im⟩:=i
 simp only at ho
 subst ho
 refine inst_go hi hc 33 0 101 ([rexF s 0 d,33,bothF s d]) (by decide) (by kernel_rfl) way_10 (fun w=>puttwo_any 33 0 _ hd hs w) ent_two rfl ?_ w
 intro x hx
 rcases mem3 hx with rfl | rfl | rfl
 · exact rex_byte hs.2 (by decide) hd.2
 · decide
 · exact both_byte _ _
set_option maxHeartbeats 4000000 in
theorem enc_11 {i:Ins} (hi:InsOk i) (hc:chkP i=true) (ho:i.op=11) (hd:0≤i.d∧i.d < 16) (hs:0≤i.s∧i.s < 16) (w:World):Calls Tryz.prog 44 #[.agg (insRow i).toArray] w (EncSay i w):=by
 obtain ⟨op,d,s,t,ba,ix,sc,di,im⟩:=i
 simp only at ho
 subst ho
 refine inst_go hi hc 9 0 101 ([rexF s 0 d,9,bothF s d]) (by decide) (by kernel_rfl) way_11 (fun w=>puttwo_any 9 0 _ hd hs w) ent_two rfl ?_ w
 intro x hx
 rcases mem3 hx with rfl | rfl | rfl
 · exact rex_byte hs.2 (by decide) hd.2
 · decide
 · exact both_byte _ _
set_option maxHeartbeats 4000000 in
theorem enc_12 {i:Ins} (hi:InsOk i) (hc:chkP i=true) (ho:i.op=12) (hd:0≤i.d∧i.d < 16) (hs:0≤i.s∧i.s < 16) (w:World):Calls Tryz.prog 44 #[.agg (insRow i).toArray] w (EncSay i w):=by
 obtain ⟨op,d,s,t,ba,ix,sc,di,im⟩:=i
 simp only at ho
 subst ho
 refine inst_go hi hc 49 0 101 ([rexF s 0 d,49,bothF s d]) (by decide) (by kernel_rfl) way_12 (fun w=>puttwo_any 49 0 _ hd hs w) ent_two rfl ?_ w
 intro x hx
 rcases mem3 hx with rfl | rfl | rfl
 · exact rex_byte hs.2 (by decide) hd.2
 · decide
 · exact both_byte _ _
set_option maxHeartbeats 4000000 in
theorem enc_13 {i:Ins} (hi:InsOk i) (hc:chkP i=true) (ho:i.op=13) (hd:0≤i.d∧i.d < 16) (hs:0≤i.s∧i.s < 16) (w:World):Calls Tryz.prog 44 #[.agg (insRow i).toArray] w (EncSay i w):=by
 obtain ⟨op,d,s,t,ba,ix,sc,di,im⟩:=i
 simp only at ho
 subst ho
 refine inst_go hi hc 57 0 101 ([rexF s 0 d,57,bothF s d]) (by decide) (by kernel_rfl) way_13 (fun w=>puttwo_any 57 0 _ hd hs w) ent_two rfl ?_ w
 intro x hx
 rcases mem3 hx with rfl | rfl | rfl
 · exact rex_byte hs.2 (by decide) hd.2
 · decide
 · exact both_byte _ _
set_option maxHeartbeats 4000000 in
theorem enc_14 {i:Ins} (hi:InsOk i) (hc:chkP i=true) (ho:i.op=14) (hd:0≤i.d∧i.d < 16) (hs:0≤i.s∧i.s < 16) (w:World):Calls Tryz.prog 44 #[.agg (insRow i).toArray] w (EncSay i w):=by
 obtain ⟨op,d,s,t,ba,ix,sc,di,im⟩:=i
 simp only at ho
 subst ho
 refine inst_go hi hc 133 0 101 ([rexF s 0 d,133,bothF s d]) (by decide) (by kernel_rfl) way_14 (fun w=>puttwo_any 133 0 _ hd hs w) ent_two rfl ?_ w
 intro x hx
 rcases mem3 hx with rfl | rfl | rfl
 · exact rex_byte hs.2 (by decide) hd.2
 · decide
 · exact both_byte _ _
set_option maxHeartbeats 4000000 in
theorem enc_2 {i:Ins} (hi:InsOk i) (hc:chkP i=true) (ho:i.op=2) (hd:0≤i.d∧i.d < 16) (w:World):Calls Tryz.prog 44 #[.agg (insRow i).toArray] w (EncSay i w):=by
 obtain ⟨op,d,s,t,ba,ix,sc,di,im⟩:=i
 simp only at ho
 subst ho
 refine inst_go hi hc 184 0 102 ([rexF 0 0 d,184+lo3 d]++littleF im 8) (by decide) (by kernel_rfl) way_2 (fun w=>putwide_any 184 0 _ hd (by decide) w) ent_wide rfl ?_ w
 intro x hx
 rcases List.mem_append.1 hx with h | h
 · rcases List.mem_cons.1 h with rfl | h
   · exact rex_byte (by decide) (by decide) hd.2
   · rcases List.mem_cons.1 h with rfl | h
     · have:=lo3_lt d;omega
     · cases h
 · exact little_byte _ _ x h
set_option maxHeartbeats 4000000 in
theorem enc_3 {i:Ins} (hi:InsOk i) (hc:chkP i=true) (ho:i.op=3) (hr:0≤i.d∧i.d < 16) (hok:PlcOk i) (w:World):Calls Tryz.prog 44 #[.agg (insRow i).toArray] w (EncSay i w):=by
 obtain ⟨op,d,s,t,ba,ix,sc,di,im⟩:=i
 simp only at ho
 subst ho
 refine inst_go hi hc 139 0 103 ([rexF d ix ba,139]++placeY d ⟨3,d,s,t,ba,ix,sc,di,im⟩) (by decide) (by kernel_rfl) way_3 (fun w=>puttoD_any 139 0 _ hr hok w) ent_toD rfl ?_ w
 intro x hx
 rcases List.mem_append.1 hx with h | h
 · rcases List.mem_cons.1 h with rfl | h
   · exact rex_byte hr.2 hok.lt hok.base.2
   · rcases List.mem_cons.1 h with rfl | h
     · decide
     · cases h
 · exact placeY_byte _ _ hok x h
set_option maxHeartbeats 4000000 in
theorem enc_4 {i:Ins} (hi:InsOk i) (hc:chkP i=true) (ho:i.op=4) (hr:0≤i.s∧i.s < 16) (hok:PlcOk i) (w:World):Calls Tryz.prog 44 #[.agg (insRow i).toArray] w (EncSay i w):=by
 obtain ⟨op,d,s,t,ba,ix,sc,di,im⟩:=i
 simp only at ho
 subst ho
 refine inst_go hi hc 137 0 104 ([rexF s ix ba,137]++placeY s ⟨4,d,s,t,ba,ix,sc,di,im⟩) (by decide) (by kernel_rfl) way_4 (fun w=>putfromS_any 137 0 _ hr hok w) ent_fromS rfl ?_ w
 intro x hx
 rcases List.mem_append.1 hx with h | h
 · rcases List.mem_cons.1 h with rfl | h
   · exact rex_byte hr.2 hok.lt hok.base.2
   · rcases List.mem_cons.1 h with rfl | h
     · decide
     · cases h
 · exact placeY_byte _ _ hok x h
set_option maxHeartbeats 4000000 in
theorem enc_5 {i:Ins} (hi:InsOk i) (hc:chkP i=true) (ho:i.op=5) (hr:0≤i.d∧i.d < 16) (hok:PlcOk i) (w:World):Calls Tryz.prog 44 #[.agg (insRow i).toArray] w (EncSay i w):=by
 obtain ⟨op,d,s,t,ba,ix,sc,di,im⟩:=i
 simp only at ho
 subst ho
 refine inst_go hi hc 141 0 103 ([rexF d ix ba,141]++placeY d ⟨5,d,s,t,ba,ix,sc,di,im⟩) (by decide) (by kernel_rfl) way_5 (fun w=>puttoD_any 141 0 _ hr hok w) ent_toD rfl ?_ w
 intro x hx
 rcases List.mem_append.1 hx with h | h
 · rcases List.mem_cons.1 h with rfl | h
   · exact rex_byte hr.2 hok.lt hok.base.2
   · rcases List.mem_cons.1 h with rfl | h
     · decide
     · cases h
 · exact placeY_byte _ _ hok x h
set_option maxHeartbeats 4000000 in
theorem enc_15 {i:Ins} (hi:InsOk i) (hc:chkP i=true) (ho:i.op=15) (hd:0≤i.d∧i.d < 16) (w:World):Calls Tryz.prog 44 #[.agg (insRow i).toArray] w (EncSay i w):=by
 obtain ⟨op,d,s,t,ba,ix,sc,di,im⟩:=i
 simp only at ho
 subst ho
 refine inst_go hi hc 129 0 105 ([rexF 0 0 d,129,bothF 0 d]++littleF im 4) (by decide) (by kernel_rfl) way_15 (fun w=>putnumber_any 129 0 _ hd (by decide) w) ent_number rfl ?_ w
 intro x hx
 rcases List.mem_append.1 hx with h | h
 · rcases mem3 h with rfl | rfl | rfl
   · exact rex_byte (by decide) (by decide) hd.2
   · decide
   · exact both_byte _ _
 · exact little_byte _ _ x h
set_option maxHeartbeats 4000000 in
theorem enc_16 {i:Ins} (hi:InsOk i) (hc:chkP i=true) (ho:i.op=16) (hd:0≤i.d∧i.d < 16) (w:World):Calls Tryz.prog 44 #[.agg (insRow i).toArray] w (EncSay i w):=by
 obtain ⟨op,d,s,t,ba,ix,sc,di,im⟩:=i
 simp only at ho
 subst ho
 refine inst_go hi hc 129 4 105 ([rexF 0 0 d,129,bothF 4 d]++littleF im 4) (by decide) (by kernel_rfl) way_16 (fun w=>putnumber_any 129 4 _ hd (by decide) w) ent_number rfl ?_ w
 intro x hx
 rcases List.mem_append.1 hx with h | h
 · rcases mem3 h with rfl | rfl | rfl
   · exact rex_byte (by decide) (by decide) hd.2
   · decide
   · exact both_byte _ _
 · exact little_byte _ _ x h
set_option maxHeartbeats 4000000 in
theorem enc_17 {i:Ins} (hi:InsOk i) (hc:chkP i=true) (ho:i.op=17) (hd:0≤i.d∧i.d < 16) (w:World):Calls Tryz.prog 44 #[.agg (insRow i).toArray] w (EncSay i w):=by
 obtain ⟨op,d,s,t,ba,ix,sc,di,im⟩:=i
 simp only at ho
 subst ho
 refine inst_go hi hc 129 5 105 ([rexF 0 0 d,129,bothF 5 d]++littleF im 4) (by decide) (by kernel_rfl) way_17 (fun w=>putnumber_any 129 5 _ hd (by decide) w) ent_number rfl ?_ w
 intro x hx
 rcases List.mem_append.1 hx with h | h
 · rcases mem3 h with rfl | rfl | rfl
   · exact rex_byte (by decide) (by decide) hd.2
   · decide
   · exact both_byte _ _
 · exact little_byte _ _ x h
set_option maxHeartbeats 4000000 in
theorem enc_18 {i:Ins} (hi:InsOk i) (hc:chkP i=true) (ho:i.op=18) (hd:0≤i.d∧i.d < 16) (w:World):Calls Tryz.prog 44 #[.agg (insRow i).toArray] w (EncSay i w):=by
 obtain ⟨op,d,s,t,ba,ix,sc,di,im⟩:=i
 simp only at ho
 subst ho
 refine inst_go hi hc 129 7 105 ([rexF 0 0 d,129,bothF 7 d]++littleF im 4) (by decide) (by kernel_rfl) way_18 (fun w=>putnumber_any 129 7 _ hd (by decide) w) ent_number rfl ?_ w
 intro x hx
 rcases List.mem_append.1 hx with h | h
 · rcases mem3 h with rfl | rfl | rfl
   · exact rex_byte (by decide) (by decide) hd.2
   · decide
   · exact both_byte _ _
 · exact little_byte _ _ x h
set_option maxHeartbeats 4000000 in
theorem enc_19 {i:Ins} (hi:InsOk i) (hc:chkP i=true) (ho:i.op=19) (hd:0≤i.d∧i.d < 16) (hs:0≤i.s∧i.s < 16) (ht:0≤i.t∧i.t < 16) (w:World):Calls Tryz.prog 44 #[.agg (insRow i).toArray] w (EncSay i w):=by
 obtain ⟨op,d,s,t,ba,ix,sc,di,im⟩:=i
 simp only at ho
 subst ho
 refine inst_go hi hc 196 246 106 ([196,66+128*(1 - hi3 d)+32*(1 - hi3 t),131+8*(15 - s).toNat,246,bothF d t]) (by decide) (by kernel_rfl) way_19 (fun w=>putmulx_any 196 246 _ hd hs ht w) ent_mulx rfl ?_ w
 intro x hx
 have h1:=both_byte d t
 simp only at hs
 simp only [List.mem_cons,List.not_mem_nil,or_false] at hx
 rcases hx with h | h | h | h | h <;> omega
set_option maxHeartbeats 4000000 in
theorem enc_20 {i:Ins} (hi:InsOk i) (hc:chkP i=true) (ho:i.op=20) (hd:0≤i.d∧i.d < 16) (hs:0≤i.s∧i.s < 16) (w:World):Calls Tryz.prog 44 #[.agg (insRow i).toArray] w (EncSay i w):=by
 obtain ⟨op,d,s,t,ba,ix,sc,di,im⟩:=i
 simp only at ho
 subst ho
 refine inst_go hi hc 102 246 107 ([102,rexF d 0 s,15,56,246,bothF d s]) (by decide) (by kernel_rfl) way_20 (fun w=>putchain_any 102 246 _ hd hs w) ent_chain rfl ?_ w
 intro x hx
 have h1:=both_byte d s
 have h2:=rex_byte hd.2 (show (0:Int) < 16 by decide) hs.2
 simp only at h2
 simp only [List.mem_cons,List.not_mem_nil,or_false] at hx
 rcases hx with h | h | h | h | h | h <;> omega
set_option maxHeartbeats 4000000 in
theorem enc_21 {i:Ins} (hi:InsOk i) (hc:chkP i=true) (ho:i.op=21) (hd:0≤i.d∧i.d < 16) (hs:0≤i.s∧i.s < 16) (w:World):Calls Tryz.prog 44 #[.agg (insRow i).toArray] w (EncSay i w):=by
 obtain ⟨op,d,s,t,ba,ix,sc,di,im⟩:=i
 simp only at ho
 subst ho
 refine inst_go hi hc 243 246 107 ([243,rexF d 0 s,15,56,246,bothF d s]) (by decide) (by kernel_rfl) way_21 (fun w=>putchain_any 243 246 _ hd hs w) ent_chain rfl ?_ w
 intro x hx
 have h1:=both_byte d s
 have h2:=rex_byte hd.2 (show (0:Int) < 16 by decide) hs.2
 simp only at h2
 simp only [List.mem_cons,List.not_mem_nil,or_false] at hx
 rcases hx with h | h | h | h | h | h <;> omega
set_option maxHeartbeats 4000000 in
theorem enc_22 {i:Ins} (hi:InsOk i) (hc:chkP i=true) (ho:i.op=22) (hd:0≤i.d∧i.d < 16) (w:World):Calls Tryz.prog 44 #[.agg (insRow i).toArray] w (EncSay i w):=by
 obtain ⟨op,d,s,t,ba,ix,sc,di,im⟩:=i
 simp only at ho
 subst ho
 refine inst_go hi hc 247 3 108 ([rexF 0 0 d,247,bothF 3 d]) (by decide) (by kernel_rfl) way_22 (fun w=>putone_any 247 3 _ hd (by decide) w) ent_one rfl ?_ w
 intro x hx
 rcases mem3 hx with rfl | rfl | rfl
 · exact rex_byte (by decide) (by decide) hd.2
 · decide
 · exact both_byte _ _
set_option maxHeartbeats 4000000 in
theorem enc_23 {i:Ins} (hi:InsOk i) (hc:chkP i=true) (ho:i.op=23) (hd:0≤i.d∧i.d < 16) (w:World):Calls Tryz.prog 44 #[.agg (insRow i).toArray] w (EncSay i w):=by
 obtain ⟨op,d,s,t,ba,ix,sc,di,im⟩:=i
 simp only at ho
 subst ho
 refine inst_go hi hc 247 2 108 ([rexF 0 0 d,247,bothF 2 d]) (by decide) (by kernel_rfl) way_23 (fun w=>putone_any 247 2 _ hd (by decide) w) ent_one rfl ?_ w
 intro x hx
 rcases mem3 hx with rfl | rfl | rfl
 · exact rex_byte (by decide) (by decide) hd.2
 · decide
 · exact both_byte _ _
set_option maxHeartbeats 4000000 in
theorem enc_24 {i:Ins} (hi:InsOk i) (hc:chkP i=true) (ho:i.op=24) (hd:0≤i.d∧i.d < 16) (w:World):Calls Tryz.prog 44 #[.agg (insRow i).toArray] w (EncSay i w):=by
 obtain ⟨op,d,s,t,ba,ix,sc,di,im⟩:=i
 simp only at ho
 subst ho
 refine inst_go hi hc 193 4 109 ([rexF 0 0 d,193,bothF 4 d]++[(im % 256).toNat]) (by decide) (by kernel_rfl) way_24 (fun w=>putshift_any 193 4 _ hd (by decide) w) ent_shift rfl ?_ w
 intro x hx
 rcases List.mem_append.1 hx with h | h
 · rcases mem3 h with rfl | rfl | rfl
   · exact rex_byte (by decide) (by decide) hd.2
   · decide
   · exact both_byte _ _
 · exact (by simp only [List.mem_cons,List.not_mem_nil,or_false] at h;omega)
set_option maxHeartbeats 4000000 in
theorem enc_25 {i:Ins} (hi:InsOk i) (hc:chkP i=true) (ho:i.op=25) (hd:0≤i.d∧i.d < 16) (w:World):Calls Tryz.prog 44 #[.agg (insRow i).toArray] w (EncSay i w):=by
 obtain ⟨op,d,s,t,ba,ix,sc,di,im⟩:=i
 simp only at ho
 subst ho
 refine inst_go hi hc 193 5 109 ([rexF 0 0 d,193,bothF 5 d]++[(im % 256).toNat]) (by decide) (by kernel_rfl) way_25 (fun w=>putshift_any 193 5 _ hd (by decide) w) ent_shift rfl ?_ w
 intro x hx
 rcases List.mem_append.1 hx with h | h
 · rcases mem3 h with rfl | rfl | rfl
   · exact rex_byte (by decide) (by decide) hd.2
   · decide
   · exact both_byte _ _
 · exact (by simp only [List.mem_cons,List.not_mem_nil,or_false] at h;omega)
set_option maxHeartbeats 4000000 in
theorem enc_26 {i:Ins} (hi:InsOk i) (hc:chkP i=true) (ho:i.op=26) (hd:0≤i.d∧i.d < 16) (hs:0≤i.s∧i.s < 16) (w:World):Calls Tryz.prog 44 #[.agg (insRow i).toArray] w (EncSay i w):=by
 obtain ⟨op,d,s,t,ba,ix,sc,di,im⟩:=i
 simp only at ho
 subst ho
 refine inst_go hi hc 15 66 110 ([rexF d 0 s,15,66,bothF d s]) (by decide) (by kernel_rfl) way_26 (fun w=>putmove_any 15 66 _ hd hs w) ent_move rfl ?_ w
 intro x hx
 have h1:=both_byte d s
 have h2:=rex_byte hd.2 (show (0:Int) < 16 by decide) hs.2
 simp only at h2
 simp only [List.mem_cons,List.not_mem_nil,or_false] at hx
 rcases hx with h | h | h | h <;> omega
set_option maxHeartbeats 4000000 in
theorem enc_27 {i:Ins} (hi:InsOk i) (hc:chkP i=true) (ho:i.op=27) (hd:0≤i.d∧i.d < 16) (hs:0≤i.s∧i.s < 16) (w:World):Calls Tryz.prog 44 #[.agg (insRow i).toArray] w (EncSay i w):=by
 obtain ⟨op,d,s,t,ba,ix,sc,di,im⟩:=i
 simp only at ho
 subst ho
 refine inst_go hi hc 15 69 110 ([rexF d 0 s,15,69,bothF d s]) (by decide) (by kernel_rfl) way_27 (fun w=>putmove_any 15 69 _ hd hs w) ent_move rfl ?_ w
 intro x hx
 have h1:=both_byte d s
 have h2:=rex_byte hd.2 (show (0:Int) < 16 by decide) hs.2
 simp only at h2
 simp only [List.mem_cons,List.not_mem_nil,or_false] at hx
 rcases hx with h | h | h | h <;> omega
set_option maxHeartbeats 4000000 in
theorem enc_28 {i:Ins} (hi:InsOk i) (hc:chkP i=true) (ho:i.op=28) (hr:0≤i.s∧i.s < 16) (hz:i.d=0) (w:World):Calls Tryz.prog 44 #[.agg (insRow i).toArray] w (EncSay i w):=by
 obtain ⟨op,d,s,t,ba,ix,sc,di,im⟩:=i
 simp only at ho hz
 subst ho;subst hz
 have hl:=lo3_lt s
 simp only at hr
 refine inst_go hi hc 80 0 111 (if 7 < s then [65,80+lo3 s] else [80+lo3 s]) (by decide) (by kernel_rfl) way_28 (fun w=>putstack_any 80 0 _ s (by simp only;omega) hr (by decide) _ rfl w) ent_stack rfl ?_ w
 intro x hx
 split at hx
 · simp only [List.mem_cons,List.not_mem_nil,or_false] at hx
   omega
 · simp only [List.mem_cons,List.not_mem_nil,or_false] at hx
   omega
set_option maxHeartbeats 4000000 in
theorem enc_29 {i:Ins} (hi:InsOk i) (hc:chkP i=true) (ho:i.op=29) (hr:0≤i.d∧i.d < 16) (hz:i.s=0) (w:World):Calls Tryz.prog 44 #[.agg (insRow i).toArray] w (EncSay i w):=by
 obtain ⟨op,d,s,t,ba,ix,sc,di,im⟩:=i
 simp only at ho hz
 subst ho;subst hz
 have hl:=lo3_lt d
 simp only at hr
 refine inst_go hi hc 88 0 111 (if 7 < d then [65,88+lo3 d] else [88+lo3 d]) (by decide) (by kernel_rfl) way_29 (fun w=>putstack_any 88 0 _ d (by simp only;omega) hr (by decide) _ rfl w) ent_stack rfl ?_ w
 intro x hx
 split at hx
 · simp only [List.mem_cons,List.not_mem_nil,or_false] at hx
   omega
 · simp only [List.mem_cons,List.not_mem_nil,or_false] at hx
   omega
set_option maxHeartbeats 4000000 in
theorem enc_30 {i:Ins} (hi:InsOk i) (hc:chkP i=true) (ho:i.op=30) (w:World):Calls Tryz.prog 44 #[.agg (insRow i).toArray] w (EncSay i w):=by
 obtain ⟨op,d,s,t,ba,ix,sc,di,im⟩:=i
 simp only at ho
 subst ho
 refine inst_go hi hc 233 0 112 ([233]++littleF im 4) (by decide) (by kernel_rfl) way_30 (fun w=>putjump1_any 233 _ w) ent_jump rfl ?_ w
 intro x hx
 rcases List.mem_append.1 hx with h | h
 · simp only [List.mem_cons,List.not_mem_nil,or_false] at h;omega
 · exact little_byte _ _ x h
set_option maxHeartbeats 4000000 in
theorem enc_31 {i:Ins} (hi:InsOk i) (hc:chkP i=true) (ho:i.op=31) (w:World):Calls Tryz.prog 44 #[.agg (insRow i).toArray] w (EncSay i w):=by
 obtain ⟨op,d,s,t,ba,ix,sc,di,im⟩:=i
 simp only at ho
 subst ho
 refine inst_go hi hc 15 133 112 ([15,133]++littleF im 4) (by decide) (by kernel_rfl) way_31 (fun w=>putjump2_any 15 133 _ (by decide) w) ent_jump rfl ?_ w
 intro x hx
 rcases List.mem_append.1 hx with h | h
 · simp only [List.mem_cons,List.not_mem_nil,or_false] at h;omega
 · exact little_byte _ _ x h
set_option maxHeartbeats 4000000 in
theorem enc_32 {i:Ins} (hi:InsOk i) (hc:chkP i=true) (ho:i.op=32) (w:World):Calls Tryz.prog 44 #[.agg (insRow i).toArray] w (EncSay i w):=by
 obtain ⟨op,d,s,t,ba,ix,sc,di,im⟩:=i
 simp only at ho
 subst ho
 refine inst_go hi hc 15 130 112 ([15,130]++littleF im 4) (by decide) (by kernel_rfl) way_32 (fun w=>putjump2_any 15 130 _ (by decide) w) ent_jump rfl ?_ w
 intro x hx
 rcases List.mem_append.1 hx with h | h
 · simp only [List.mem_cons,List.not_mem_nil,or_false] at h;omega
 · exact little_byte _ _ x h
set_option maxHeartbeats 4000000 in
theorem enc_33 {i:Ins} (hi:InsOk i) (hc:chkP i=true) (ho:i.op=33) (w:World):Calls Tryz.prog 44 #[.agg (insRow i).toArray] w (EncSay i w):=by
 obtain ⟨op,d,s,t,ba,ix,sc,di,im⟩:=i
 simp only at ho
 subst ho
 refine inst_go hi hc 195 0 113 [195] (by decide) (by kernel_rfl) way_33 (fun w=>putret_any 195 0 _ w) ent_ret rfl ?_ w
 intro x hx
 simp only [List.mem_cons,List.not_mem_nil,or_false] at hx
 omega
theorem encInst_any (i:Ins) (hi:InsOk i) (w:World):Calls Tryz.prog 44 #[.agg (insRow i).toArray] w fun e w'=>e=.returned (.tuple #[strB (if chkP i then toB (encF i) else []),.int .i64 (errOf (chkP i))])∧Below w.heap.size w w':=by
 cases hc:chkP i
 · exact Inst_bad i hi hc w
 have key:Calls Tryz.prog 44 #[.agg (insRow i).toArray] w (EncSay i w):=by
   obtain ⟨hd,hs,ht,hm,k,e,h1,h2,h3,h4,h5,h6⟩:=chkI_fields ((chk_eq i).symm.trans hc)
   unfold formI at e
   by_cases hop:i.op=1∨(6≤i.op∧i.op≤14)∨i.op=20∨i.op=21∨i.op=26∨i.op=27
   · rw [if_pos hop] at e
     cases e
     have hd:=reg_yes h1
     have hs:=reg_yes h2
     rcases (by omega:i.op=1∨i.op=6∨i.op=7∨i.op=8∨i.op=9∨i.op=10∨i.op=11∨i.op=12∨i.op=13∨i.op=14∨i.op=20∨i.op=21∨i.op=26∨i.op=27) with h | h | h | h | h | h | h | h | h | h | h | h | h | h
     · exact enc_1 hi hc h hd hs w
     · exact enc_6 hi hc h hd hs w
     · exact enc_7 hi hc h hd hs w
     · exact enc_8 hi hc h hd hs w
     · exact enc_9 hi hc h hd hs w
     · exact enc_10 hi hc h hd hs w
     · exact enc_11 hi hc h hd hs w
     · exact enc_12 hi hc h hd hs w
     · exact enc_13 hi hc h hd hs w
     · exact enc_14 hi hc h hd hs w
     · exact enc_20 hi hc h hd hs w
     · exact enc_21 hi hc h hd hs w
     · exact enc_26 hi hc h hd hs w
     · exact enc_27 hi hc h hd hs w
   rw [if_neg hop] at e
   by_cases hop2:i.op=2
   · rw [if_pos hop2] at e
     cases e
     exact enc_2 hi hc hop2 (reg_yes h1) w
   rw [if_neg hop2] at e
   by_cases hop3:i.op=3∨i.op=5
   · rw [if_pos hop3] at e
     cases e
     rcases hop3 with h | h
     · exact enc_3 hi hc h (reg_yes h1) (place_yes h4) w
     · exact enc_5 hi hc h (reg_yes h1) (place_yes h4) w
   rw [if_neg hop3] at e
   by_cases hop4:i.op=4
   · rw [if_pos hop4] at e
     cases e
     exact enc_4 hi hc hop4 (reg_yes h2) (place_yes h4) w
   rw [if_neg hop4] at e
   by_cases hop5:15≤i.op∧i.op≤18
   · rw [if_pos hop5] at e
     cases e
     have hd:=reg_yes h1
     rcases (by omega:i.op=15∨i.op=16∨i.op=17∨i.op=18) with h | h | h | h
     · exact enc_15 hi hc h hd w
     · exact enc_16 hi hc h hd w
     · exact enc_17 hi hc h hd w
     · exact enc_18 hi hc h hd w
   rw [if_neg hop5] at e
   by_cases hop6:i.op=19
   · rw [if_pos hop6] at e
     cases e
     exact enc_19 hi hc hop6 (reg_yes h1) (reg_yes h2) (reg_yes h3) w
   rw [if_neg hop6] at e
   by_cases hop7:i.op=22∨i.op=23∨i.op=29
   · rw [if_pos hop7] at e
     cases e
     have hd:=reg_yes h1
     rcases hop7 with h | h | h
     · exact enc_22 hi hc h hd w
     · exact enc_23 hi hc h hd w
     · exact enc_29 hi hc h hd (reg_no h2) w
   rw [if_neg hop7] at e
   by_cases hop8:i.op=24∨i.op=25
   · rw [if_pos hop8] at e
     cases e
     have hd:=reg_yes h1
     rcases hop8 with h | h
     · exact enc_24 hi hc h hd w
     · exact enc_25 hi hc h hd w
   rw [if_neg hop8] at e
   by_cases hop9:i.op=28
   · rw [if_pos hop9] at e
     cases e
     exact enc_28 hi hc hop9 (reg_yes h2) (reg_no h1) w
   rw [if_neg hop9] at e
   by_cases hop10:i.op=30∨i.op=31∨i.op=32
   · rcases hop10 with h | h | h
     · exact enc_30 hi hc h w
     · exact enc_31 hi hc h w
     · exact enc_32 hi hc h w
   rw [if_neg hop10] at e
   by_cases hop11:i.op=33
   · exact enc_33 hi hc hop11 w
   rw [if_neg hop11] at e
   cases e
 exact key
end Go.Proofs.YtocndimihokcmaaGreat
