/- Part 15 of a claim; what it proves stands in its last text. -/
import Derived.Test.YtocndimihokcmaaGreatAm14
namespace Go.Proofs.YtocndimihokcmaaGreat
open Go.RowKit
set_option maxRecDepth 100000
variable {eC aA aD eD : Value}
theorem CurAt.set {t:TypeId} {q:Bool} {L:List UInt8} {b:Nat} {w:World} {c:Cur} (h:CurAt t q L b w c) {g:Nat} (hg:b≠g) (k:Nat) (v:Value):CurAt t q L b (w.setCell ⟨g,k,none⟩ v) c:=⟨h.suf,(Below.heap_setCell _ _ _ _ hg).trans h.blk⟩
theorem CurAt.alloc {t:TypeId} {q:Bool} {L:List UInt8} {b:Nat} {w:World} {c:Cur} (h:CurAt t q L b w c) (o:Obj):CurAt t q L b (w.alloc o) c:=⟨h.suf,by rw [heap_alloc_old w o h.lt];exact h.blk⟩
theorem CurAt.drew {t:TypeId} {q:Bool} {L:List UInt8} {b:Nat} {w:World} {c:Cur} (h:CurAt t q L b w c):CurAt t q L b w.drew c:=⟨h.suf,h.blk⟩
def plcRow (p:Plc):List Value:=[.int .i64 p.base,.int .i64 p.index,.int .i64 p.scale,.int .i64 p.disp]
theorem row4 {X:World} {g t:Nat} {x y z u:Value} (h:X.heap[g]? = some (.cells [x,y,z,u].toArray t (0,0))):X.cell? ⟨g,0,none⟩=some x∧X.cell? ⟨g,1,none⟩=some y∧X.cell? ⟨g,2,none⟩=some z∧X.cell? ⟨g,3,none⟩=some u∧X.frozen? ⟨g,0,none⟩=false∧X.frozen? ⟨g,1,none⟩=false∧X.frozen? ⟨g,2,none⟩=false∧X.frozen? ⟨g,3,none⟩=false:=by
 refine ⟨?_,?_,?_,?_,?_,?_,?_,?_⟩ <;> simp [World.cell?,World.frozen?,h]
theorem kept2 {w X:World} {o o2:Obj} {b:Nat} (h:Chg (fun j=>j=b) ((w.alloc o).alloc o2) X) (hb:b < w.heap.size):X.heap[w.heap.size]? = some o∧X.heap[w.heap.size+1]? = some o2:=by
 have hs:(w.alloc o).heap.size=w.heap.size+1:=by simp
 refine ⟨(h.block _ (by simp;omega) (fun e=>by have h9:w.heap.size=b:=e;omega)).trans ?_,(h.block _ (by simp) (fun e=>by have h9:w.heap.size+1=b:=e;omega)).trans ?_⟩
 · rw [heap_alloc_old (w.alloc o) _ (by rw [hs];omega)]
   exact heap_alloc_new w o
 · rw [←hs]
   exact heap_alloc_new (w.alloc o) o2
theorem exec_store1 {P:Program} {o:Oper} {a:Act} {w:World} (ty:TypeId) (x y:Operand) (ho:o.op=.store ty x y) (g k:Nat) (v:Value) (hx:a.eval x=.pointer (some ⟨g,k,none⟩)) (hy:a.eval y=v) (hi:(P.info? ty).map (·.size)=some 1)
   (hc:(w.cell? ⟨g,k,none⟩).isSome=true) (hf:w.frozen? ⟨g,k,none⟩=false) (h1:v.oneCell'=true):(execOp a.eval o).run P w=.ok .skip (w.setCell ⟨g,k,none⟩ v):=by
 have hs:(storeVar ty ⟨g,k,none⟩ v).run P w=.ok () (w.setCell ⟨g,k,none⟩ v):=by
   have:=run_storeCells_cells (P:=P) g k [v] 0 w (fun j hj=>by
     obtain rfl:j=0:=by simpa using hj
     simpa using hc) (fun j hj=>by
     obtain rfl:j=0:=by simpa using hj
     simpa using hf) (fun u hu=>by simp at hu;subst hu;exact h1)
   have hcs:v.cells=#[v]:=by cases v <;> first | rfl | cases h1
   cases hq:P.info? ty with
   | none=>simp [hq] at hi
   | some i =>
     have hs:i.size=1:=by simpa [hq] using hi
     simp only [Nat.add_zero,World.setCells] at this
     simp [storeVar,sizeOf,typeInfo,hq,hcs,hs,this]
 unfold execOp
 simp only [ho,hx,hy,Instr.storeAt,Instr.sureAddr,Sem.run_bind,Sem.run_pure,Result.andThen_ok,hs]
theorem keepS {w X:World} {g b:Nat} {o:Obj} (h:Chg (fun j=>j=b) w X) (hg:g≠b) (hw:w.heap[g]? = some o):X.heap[g]? = some o:=(h.block _ (lt_of_block hw) hg).trans hw
theorem set4 {X:World} {g t:Nat} {x y z u a b c d:Value} (h:X.heap[g]? = some (.cells [x,y,z,u].toArray t (0,0))):((((X.setCell ⟨g,0,none⟩ a).setCell ⟨g,1,none⟩ b).setCell ⟨g,2,none⟩ c).setCell ⟨g,3,none⟩ d).heap[g]? = some (.cells [a,b,c,d].toArray t (0,0)) :=
 heap_setCell_row (heap_setCell_row (heap_setCell_row (heap_setCell_row h 0 a) 1 b) 2 c) 3 d
theorem end4 {t:TypeId} {q:Bool} {L:List UInt8} {b:Nat} {w X:World} {c:Cur} {x y z u:Value} (hb:b < w.heap.size) (hc:CurAt t q L b X c) (hg:Chg (fun j=>j=b) w X):CurAt t q L b ((((X.setCell ⟨w.heap.size,0,none⟩ x).setCell ⟨w.heap.size,1,none⟩ y).setCell ⟨w.heap.size,2,none⟩ z).setCell ⟨w.heap.size,3,none⟩ u) c∧Chg (fun j=>j=b) w ((((X.setCell ⟨w.heap.size,0,none⟩ x).setCell ⟨w.heap.size,1,none⟩ y).setCell ⟨w.heap.size,2,none⟩ z).setCell ⟨w.heap.size,3,none⟩ u):=by
 have h1:b≠w.heap.size:=by omega
 exact ⟨(((hc.set h1 _ _).set h1 _ _).set h1 _ _).set h1 _ _,(((hg.setCell (.inr (Nat.le_refl _)) _).setCell (.inr (Nat.le_refl _)) _).setCell (.inr (Nat.le_refl _)) _).setCell (.inr (Nat.le_refl _)) _⟩
theorem place_b2 {t T:TypeId} {q:Bool} {L:List UInt8} {b:Nat} {w w1:World} {c:Cur} {z:Obj} (x y s:Value) (hb:b < w.heap.size) (h1:w1.heap[w.heap.size+1]? = some (.cells [eC,aA,aD,eD].toArray T (0,0))) (h0:w1.heap[w.heap.size]? = some z) (hc:CurAt t q L b w1 c) (hg:Chg (fun j=>j=b) w w1) :
   ((w1.setCell ⟨w.heap.size+1,0,none⟩ y).drew.cell? ⟨w.heap.size+1,1,none⟩).isSome=true∧(w1.setCell ⟨w.heap.size+1,0,none⟩ y).drew.frozen? ⟨w.heap.size+1,1,none⟩=false ∧
   (((w1.setCell ⟨w.heap.size+1,0,none⟩ y).drew.setCell ⟨w.heap.size+1,1,none⟩ x).cell? ⟨w.heap.size+1,2,none⟩).isSome=true∧((w1.setCell ⟨w.heap.size+1,0,none⟩ y).drew.setCell ⟨w.heap.size+1,1,none⟩ x).frozen? ⟨w.heap.size+1,2,none⟩=false ∧
   (((w1.setCell ⟨w.heap.size+1,0,none⟩ y).drew.setCell ⟨w.heap.size+1,1,none⟩ x).setCell ⟨w.heap.size+1,2,none⟩ s).heap[w.heap.size+1]? = some (.cells [y,x,s,eD].toArray T (0,0)) ∧
   (((w1.setCell ⟨w.heap.size+1,0,none⟩ y).drew.setCell ⟨w.heap.size+1,1,none⟩ x).setCell ⟨w.heap.size+1,2,none⟩ s).heap[w.heap.size]? = some z ∧
   CurAt t q L b (((w1.setCell ⟨w.heap.size+1,0,none⟩ y).drew.setCell ⟨w.heap.size+1,1,none⟩ x).setCell ⟨w.heap.size+1,2,none⟩ s) c∧Chg (fun j=>j=b) w (((w1.setCell ⟨w.heap.size+1,0,none⟩ y).drew.setCell ⟨w.heap.size+1,1,none⟩ x).setCell ⟨w.heap.size+1,2,none⟩ s):=by
 have r1:(w1.setCell ⟨w.heap.size+1,0,none⟩ y).drew.heap[w.heap.size+1]? = some (.cells [y,aA,aD,eD].toArray T (0,0)):=heap_setCell_row h1 0 y
 have r2:((w1.setCell ⟨w.heap.size+1,0,none⟩ y).drew.setCell ⟨w.heap.size+1,1,none⟩ x).heap[w.heap.size+1]? = some (.cells [y,x,aD,eD].toArray T (0,0)):=heap_setCell_row r1 1 x
 have r3:(((w1.setCell ⟨w.heap.size+1,0,none⟩ y).drew.setCell ⟨w.heap.size+1,1,none⟩ x).setCell ⟨w.heap.size+1,2,none⟩ s).heap[w.heap.size+1]? = some (.cells [y,x,s,eD].toArray T (0,0)):=heap_setCell_row r2 2 s
 have hn:w.heap.size≠w.heap.size+1:=by omega
 have hbn:b≠w.heap.size+1:=by omega
 have z1:(w1.setCell ⟨w.heap.size+1,0,none⟩ y).drew.heap[w.heap.size]? = some z:=(Below.heap_setCell w1 ⟨w.heap.size+1,0,none⟩ y _ hn).trans h0
 have hl:w.heap.size≤w.heap.size+1:=Nat.le_succ _
 refine ⟨by rw [(row4 r1).2.1];rfl,(row4 r1).2.2.2.2.2.1,by rw [(row4 r2).2.2.1];rfl,(row4 r2).2.2.2.2.2.2.1,r3,(Below.heap_setCell _ _ _ _ hn).trans ((Below.heap_setCell _ _ _ _ hn).trans z1),?_,?_⟩
 · exact (((hc.set hbn 0 y).drew.set hbn 1 x).set hbn 2 s)
 · exact ((hg.setCell (p:=⟨w.heap.size+1,0,none⟩) (.inr hl) y).drew.setCell (p:=⟨w.heap.size+1,1,none⟩) (.inr hl) x).setCell (p:=⟨w.heap.size+1,2,none⟩) (.inr hl) s
theorem dnum1_any {L:List UInt8} {b:Nat} {c:Cur} {w:World} (hL:L.length≤1000000000) (h:CurAt 104 false L b w c):Calls Tryz.prog 70 #[.pointer (some ⟨b,0,none⟩),.int .i64 1] w (CurSay 104 false L b w (numC 1 c).2 (.int .i64 (numC 1 c).1)):=dnumber_any 1 (by decide) (by decide) hL h
theorem dnum4_any {L:List UInt8} {b:Nat} {c:Cur} {w:World} (hL:L.length≤1000000000) (h:CurAt 104 false L b w c):Calls Tryz.prog 70 #[.pointer (some ⟨b,0,none⟩),.int .i64 4] w (CurSay 104 false L b w (numC 4 c).2 (.int .i64 (numC 4 c).1)):=dnumber_any 4 (by decide) (by decide) hL h
theorem dnum8_any {L:List UInt8} {b:Nat} {c:Cur} {w:World} (hL:L.length≤1000000000) (h:CurAt 104 false L b w c):Calls Tryz.prog 70 #[.pointer (some ⟨b,0,none⟩),.int .i64 8] w (CurSay 104 false L b w (numC 8 c).2 (.int .i64 (numC 8 c).1)):=dnumber_any 8 (by decide) (by decide) hL h
set_option maxHeartbeats 8000000 in
theorem dplace_any {L:List UInt8} {b:Nat} {c:Cur} {w:World} (r rm:Nat) (hL:L.length≤1000000000) (h:CurAt 104 false L b w c):Calls Tryz.prog 201 #[.pointer (some ⟨b,0,none⟩),.int .i64 r,.int .i64 rm] w (CurSay 104 false L b w (placeC r rm c).2 (.agg (plcRow (placeC r rm c).1).toArray)):=by
 have HB:=Lh (fun (w_:World) (h_:CurAt 104 false L b w_ c)=>byte_any hL h_)
 have HH:=Lh h
 have HLT:=Lh h.lt
 have HLA:=Lh (fun w_=>dlast_any r rm w_)
 have HLS:=Lh (fun w_=>dlast_any r (byteC c).1 w_)
 have HXS:=Lh (fun w_=>didx_any r (byteC c).1 w_)
 have hs256:(byteC c).1 < 256:=(bok h.ok).2
 have HN1:=Lh (fun (c_:Cur) (w_:World) (h_:CurAt 104 false L b w_ c_)=>dnum1_any hL h_)
 have HN4:=Lh (fun (c_:Cur) (w_:World) (h_:CurAt 104 false L b w_ c_)=>dnum4_any hL h_)
 have HQ:=Lh (show lastC r rm=lastC r rm from rfl)
 have HSB:=Lh (show sibC r (byteC c).1=sibC r (byteC c).1 from rfl)
 have HP1:=Lh (show place1 r rm c=if rm % 8=4 then (sibC r (byteC c).1,(byteC c).2) else (⟨lastC r rm,-1,1,0⟩,c) from rfl)
 have HSIB:=Lh (show sibC r (byteC c).1=if idxC r (byteC c).1=4 then ⟨lastC r (byteC c).1,-1,1,0⟩ else ⟨lastC r (byteC c).1,idxC r (byteC c).1,(2 ^ ((byteC c).1 / 64):Nat),0⟩ from rfl)
 have f1:Go.bits .and .i64 (rm:Int) 7=((rm % 8:Nat):Int):=by rw [i64_and7];omega
 generalize hq:lastC r rm=q at *
 clear hL h HSB HQ
 obtain ⟨PL,hPL⟩:∃ x,x=placeC r rm c:=⟨_,rfl⟩
 rw [←hPL]
 have HPL:=Lh hPL
 clear hPL hq
 by_cases h4:rm % 8=4
 · rw [if_pos h4] at HP1
   obtain ⟨p,hp⟩:∃ p,p=rm % 8:=⟨_,rfl⟩
   rw [←hp] at f1 h4
   have d1:((p:Int) == 4)=true:=beq_iff_eq.2 (by omega)
   clear h4 hp
   generalize (byteC c).1=s at *
   generalize (byteC c).2=c1 at *
   generalize lastC r s=y at *
   generalize idxC r s=x at *
   have HK:=Lh (kept2 (b:=b) (o:=.cells [.int .i64 0,.int .i64 0,.int .i64 0,.int .i64 0].toArray 38 (0,0)) (o2:=.cells [.int .i64 q,.int .i64 (-1),.int .i64 1,.int .i64 0].toArray 38 (0,0)) (Chg.refl _ _) HLT.out)
   by_cases hx4:x=4
   · rw [if_pos hx4] at HSIB
     have d4:((x:Int) != 4)=false:=by rw [hx4];rfl
     clear hx4
     rw [HSIB.out] at HP1
     have hmod:rm / 64=1∨rm / 64=2∨(rm / 64≠1∧rm / 64≠2):=by omega
     rcases hmod with h6 | h6 | h6
     · have d2:((rm:Int) / 64 == 1)=true:=beq_iff_eq.2 (by omega)
       have he:PL=(⟨y,-1,1,(numC 1 c1).1⟩,(numC 1 c1).2):=by rw [HPL.out];unfold placeC;rw [HP1.out];simp only [h6,reduceIte]
       have HE:=Lh he
       clear h6 he HP1 HPL
       go_enter Tryz.func201,Tryz.ntmps201
       go_wp2_with (first | ((with_reducible refine (HLA.out _).mono ?_);rintro e wp_ ⟨rfl,hw1⟩;subst wp_) | ((with_reducible refine (HB.out _ ((HH.out.alloc _).alloc _)).mono ?_);rintro e_ w1 ⟨rfl,hc1,hg1⟩;have HC1:=Lh hc1;have HG1:=Lh hg1;clear hc1 hg1;have HA1:=Lh (keepS HG1.out (by have:=HLT.out;omega) HK.out.2);have HA0:=Lh (keepS HG1.out (by have:=HLT.out;omega) HK.out.1);obtain ⟨c0_,c1_,c2_,c3_,z0_,z1_,z2_,z3_⟩:=row4 HA1.out;obtain ⟨a0_,a1_,a2_,a3_,y0_,y1_,y2_,y3_⟩:=row4 HA0.out) | ((with_reducible refine (HLS.out _).mono ?_);rintro e wp_ ⟨rfl,hw1⟩;subst wp_) | ((with_reducible refine (HXS.out _).mono ?_);rintro e wp_ ⟨rfl,hw1⟩;subst wp_) | ((with_reducible refine (HN1.out _ _ (HC1.out.set (by have:=HLT.out;omega) 0 (.int .i64 y))).mono ?_);rintro e_ w2 ⟨rfl,hc2,hg2⟩;have HC2:=Lh hc2;have HG2:=Lh hg2;clear hc2 hg2;have HR1:=Lh (keepS HG2.out (by have:=HLT.out;omega) (heap_setCell_row HA1.out 0 (.int .i64 y)));have HR0:=Lh (keepS HG2.out (by have:=HLT.out;omega) ((Below.heap_setCell _ _ _ _ (by show w.heap.size≠w.heap.size+1;omega)).trans HA0.out));obtain ⟨c0_,c1_,c2_,c3_,z0_,z1_,z2_,z3_⟩:=row4 HR1.out;obtain ⟨a0_,a1_,a2_,a3_,y0_,y1_,y2_,y3_⟩:=row4 HR0.out))
       refine bodyPost_ret (results_cell_row (ty:=38) rfl _ _ w.heap.size 38 _ (0,0) _ rfl (set4 ((Below.heap_setCell _ _ _ _ (by show w.heap.size≠w.heap.size+1;omega)).trans HR0.out)) Tryz.underlying38 rfl (by kernel_rfl)) rfl ⟨by rw [HE.out];rfl,?_⟩
       rw [HE.out]
       exact end4 HLT.out (HC2.out.set (by have:=HLT.out;omega) _ _) (((((((Chg.refl (fun j=>j=b) w).alloc _).alloc _).trans HG1.out).setCell (p:=⟨w.heap.size+1,0,none⟩) (.inr (Nat.le_succ _)) (.int .i64 y)).trans HG2.out).setCell (p:=⟨w.heap.size+1,3,none⟩) (.inr (Nat.le_succ _)) _)
     · have d2:((rm:Int) / 64 == 1)=false:=beq_eq_false_iff_ne.2 (by omega)
       have d3:((rm:Int) / 64 == 2)=true:=beq_iff_eq.2 (by omega)
       have he:PL=(⟨y,-1,1,(numC 4 c1).1⟩,(numC 4 c1).2):=by rw [HPL.out];unfold placeC;rw [HP1.out];simp only [h6,(by decide:¬ (2:Nat)=1),reduceIte]
       have HE:=Lh he
       clear h6 he HP1 HPL
       go_enter Tryz.func201,Tryz.ntmps201
       go_wp2_with (first | ((with_reducible refine (HLA.out _).mono ?_);rintro e wp_ ⟨rfl,hw1⟩;subst wp_) | ((with_reducible refine (HB.out _ ((HH.out.alloc _).alloc _)).mono ?_);rintro e_ w1 ⟨rfl,hc1,hg1⟩;have HC1:=Lh hc1;have HG1:=Lh hg1;clear hc1 hg1;have HA1:=Lh (keepS HG1.out (by have:=HLT.out;omega) HK.out.2);have HA0:=Lh (keepS HG1.out (by have:=HLT.out;omega) HK.out.1);obtain ⟨c0_,c1_,c2_,c3_,z0_,z1_,z2_,z3_⟩:=row4 HA1.out;obtain ⟨a0_,a1_,a2_,a3_,y0_,y1_,y2_,y3_⟩:=row4 HA0.out) | ((with_reducible refine (HLS.out _).mono ?_);rintro e wp_ ⟨rfl,hw1⟩;subst wp_) | ((with_reducible refine (HXS.out _).mono ?_);rintro e wp_ ⟨rfl,hw1⟩;subst wp_) | ((with_reducible refine (HN4.out _ _ (HC1.out.set (by have:=HLT.out;omega) 0 (.int .i64 y))).mono ?_);rintro e_ w2 ⟨rfl,hc2,hg2⟩;have HC2:=Lh hc2;have HG2:=Lh hg2;clear hc2 hg2;have HR1:=Lh (keepS HG2.out (by have:=HLT.out;omega) (heap_setCell_row HA1.out 0 (.int .i64 y)));have HR0:=Lh (keepS HG2.out (by have:=HLT.out;omega) ((Below.heap_setCell _ _ _ _ (by show w.heap.size≠w.heap.size+1;omega)).trans HA0.out));obtain ⟨c0_,c1_,c2_,c3_,z0_,z1_,z2_,z3_⟩:=row4 HR1.out;obtain ⟨a0_,a1_,a2_,a3_,y0_,y1_,y2_,y3_⟩:=row4 HR0.out))
       refine bodyPost_ret (results_cell_row (ty:=38) rfl _ _ w.heap.size 38 _ (0,0) _ rfl (set4 ((Below.heap_setCell _ _ _ _ (by show w.heap.size≠w.heap.size+1;omega)).trans HR0.out)) Tryz.underlying38 rfl (by kernel_rfl)) rfl ⟨by rw [HE.out];rfl,?_⟩
       rw [HE.out]
       exact end4 HLT.out (HC2.out.set (by have:=HLT.out;omega) _ _) (((((((Chg.refl (fun j=>j=b) w).alloc _).alloc _).trans HG1.out).setCell (p:=⟨w.heap.size+1,0,none⟩) (.inr (Nat.le_succ _)) (.int .i64 y)).trans HG2.out).setCell (p:=⟨w.heap.size+1,3,none⟩) (.inr (Nat.le_succ _)) _)
     · have d2:((rm:Int) / 64 == 1)=false:=beq_eq_false_iff_ne.2 (by omega)
       have d3:((rm:Int) / 64 == 2)=false:=beq_eq_false_iff_ne.2 (by omega)
       have he:PL=(⟨y,-1,1,0⟩,c1):=by rw [HPL.out];unfold placeC;rw [HP1.out];simp only [h6.1,h6.2,reduceIte]
       have HE:=Lh he
       clear h6 he HP1 HPL
       go_enter Tryz.func201,Tryz.ntmps201
       go_wp2_with (first | ((with_reducible refine (HLA.out _).mono ?_);rintro e wp_ ⟨rfl,hw1⟩;subst wp_) | ((with_reducible refine (HB.out _ ((HH.out.alloc _).alloc _)).mono ?_);rintro e_ w1 ⟨rfl,hc1,hg1⟩;have HC1:=Lh hc1;have HG1:=Lh hg1;clear hc1 hg1;have HA1:=Lh (keepS HG1.out (by have:=HLT.out;omega) HK.out.2);have HA0:=Lh (keepS HG1.out (by have:=HLT.out;omega) HK.out.1);obtain ⟨c0_,c1_,c2_,c3_,z0_,z1_,z2_,z3_⟩:=row4 HA1.out;obtain ⟨a0_,a1_,a2_,a3_,y0_,y1_,y2_,y3_⟩:=row4 HA0.out) | ((with_reducible refine (HLS.out _).mono ?_);rintro e wp_ ⟨rfl,hw1⟩;subst wp_) | ((with_reducible refine (HXS.out _).mono ?_);rintro e wp_ ⟨rfl,hw1⟩;subst wp_))
       refine bodyPost_ret (results_cell_row (ty:=38) rfl _ _ w.heap.size 38 _ (0,0) _ rfl (set4 ((Below.heap_setCell _ _ _ _ (by show w.heap.size≠w.heap.size+1;omega)).trans HA0.out)) Tryz.underlying38 rfl (by kernel_rfl)) rfl ⟨by rw [HE.out];rfl,?_⟩
       rw [HE.out]
       exact end4 HLT.out (HC1.out.set (by have:=HLT.out;omega) _ _) (((((Chg.refl (fun j=>j=b) w).alloc _).alloc _).trans HG1.out).setCell (p:=⟨w.heap.size+1,0,none⟩) (.inr (Nat.le_succ _)) (.int .i64 y))
   · rw [if_neg hx4] at HSIB
     have d4:((x:Int) != 4)=true:=bne_iff_ne.2 (by omega)
     clear hx4
     rw [HSIB.out] at HP1
     have fs:IntKind.i64.wrap (2 ^ ((s:Int) / 64).toNat)=((2 ^ (s / 64):Nat):Int):=by
       have h1:((s:Int) / 64).toNat=s / 64:=by omega
       have h2:s / 64=0∨s / 64=1∨s / 64=2∨s / 64=3:=by omega
       rw [h1]
       rcases h2 with h | h | h | h <;> (rw [h];decide)
     generalize 2 ^ (s / 64)=sc at *
     have hmod:rm / 64=1∨rm / 64=2∨(rm / 64≠1∧rm / 64≠2):=by omega
     rcases hmod with h6 | h6 | h6
     · have d2:((rm:Int) / 64 == 1)=true:=beq_iff_eq.2 (by omega)
       have he:PL=(⟨y,x,sc,(numC 1 c1).1⟩,(numC 1 c1).2):=by rw [HPL.out];unfold placeC;rw [HP1.out];simp only [h6,reduceIte]
       have HE:=Lh he
       clear h6 he HP1 HPL
       go_enter Tryz.func201,Tryz.ntmps201
       go_wp2_with (first | ((with_reducible refine (HLA.out _).mono ?_);rintro e wp_ ⟨rfl,hw1⟩;subst wp_) | ((with_reducible refine (HB.out _ ((HH.out.alloc _).alloc _)).mono ?_);rintro e_ w1 ⟨rfl,hc1,hg1⟩;have HC1:=Lh hc1;have HG1:=Lh hg1;clear hc1 hg1;have HA1:=Lh (keepS HG1.out (by have:=HLT.out;omega) HK.out.2);have HA0:=Lh (keepS HG1.out (by have:=HLT.out;omega) HK.out.1);obtain ⟨c0_,c1_,c2_,c3_,z0_,z1_,z2_,z3_⟩:=row4 HA1.out;obtain ⟨a0_,a1_,a2_,a3_,y0_,y1_,y2_,y3_⟩:=row4 HA0.out) | ((with_reducible refine (HLS.out _).mono ?_);rintro e wp_ ⟨rfl,hw1⟩;subst wp_) | ((with_reducible refine (HXS.out _).mono ?_);rintro e wp_ ⟨rfl,hw1⟩;subst wp_) | ((with_reducible refine (HN1.out _ _ HF.out.2.2.2.2.2.2.1).mono ?_);rintro e_ w2 ⟨rfl,hc2,hg2⟩;have HC2:=Lh hc2;have HG2:=Lh hg2;clear hc2 hg2;have HR1:=Lh (keepS HG2.out (by have:=HLT.out;omega) HF.out.2.2.2.2.1);have HR0:=Lh (keepS HG2.out (by have:=HLT.out;omega) HF.out.2.2.2.2.2.1);obtain ⟨c0_,c1_,c2_,c3_,z0_,z1_,z2_,z3_⟩:=row4 HR1.out;obtain ⟨a0_,a1_,a2_,a3_,y0_,y1_,y2_,y3_⟩:=row4 HR0.out))
       have HF:=Lh (place_b2 (.int .i64 x) (.int .i64 y) (.int .i64 sc) HLT.out HA1.out HA0.out HC1.out (((Chg.refl (fun j=>j=b) w).alloc _).alloc _ |>.trans HG1.out))
       obtain ⟨X,hX⟩:∃ X,X=(((w1.setCell ⟨w.heap.size+1,0,none⟩ (.int .i64 y)).drew.setCell ⟨w.heap.size+1,1,none⟩ (.int .i64 x)).setCell ⟨w.heap.size+1,2,none⟩ (.int .i64 sc)):=⟨_,rfl⟩
       rw [←hX] at HF
       have HX:=Lh hX
       clear hX
       obtain ⟨xc0_,xc1_,xc2_,xc3_,xz0_,xz1_,xz2_,xz3_⟩:=row4 HF.out.2.2.2.2.1
       obtain ⟨xa0_,xa1_,xa2_,xa3_,xy0_,xy1_,xy2_,xy3_⟩:=row4 HF.out.2.2.2.2.2.1
       (refine wp_region_lines (fun _=>True) (by kernel_rfl) (by kernel_rfl) trivial ?_)
       (try simp only [])
       repeat (first | (refine runL_no (by rfl) ?_;(try simp only [Act.put,List.setIfInBounds_toArray,List.set_cons_zero,List.set_cons_succ])) | (refine runL_val (v:=?_) (by rfl) ?_ ?_;rotate_left;(focus (intro w_ hw_;skip;go_simp;(try with_reducible rfl);done));(try simp only [Act.put,List.setIfInBounds_toArray,List.set_cons_zero,List.set_cons_succ])) | (refine runL_skip (w1:=((w1.setCell ⟨w.heap.size+1,0,none⟩ (.int .i64 y)).drew.setCell ⟨w.heap.size+1,1,none⟩ (.int .i64 x))) (by rfl) (by rfl) (exec_store1 3 _ _ rfl (w.heap.size+1) 1 _ rfl rfl (by kernel_rfl) HF.out.1 HF.out.2.1 rfl) (.inr trivial) ?_;(try simp only [Act.put])) | (refine runL_skip (w1:=X) (by rfl) (by rfl) (by rw [HX.out];exact exec_store1 3 _ _ rfl (w.heap.size+1) 2 _ rfl rfl (by kernel_rfl) HF.out.2.2.1 HF.out.2.2.2.1 rfl) (.inr trivial) ?_;(try simp only [Act.put])))
       (refine runL_nil ?_)
       go_wp2_with (first | ((with_reducible refine (HLA.out _).mono ?_);rintro e wp_ ⟨rfl,hw1⟩;subst wp_) | ((with_reducible refine (HB.out _ ((HH.out.alloc _).alloc _)).mono ?_);rintro e_ w1 ⟨rfl,hc1,hg1⟩;have HC1:=Lh hc1;have HG1:=Lh hg1;clear hc1 hg1;have HA1:=Lh (keepS HG1.out (by have:=HLT.out;omega) HK.out.2);have HA0:=Lh (keepS HG1.out (by have:=HLT.out;omega) HK.out.1);obtain ⟨c0_,c1_,c2_,c3_,z0_,z1_,z2_,z3_⟩:=row4 HA1.out;obtain ⟨a0_,a1_,a2_,a3_,y0_,y1_,y2_,y3_⟩:=row4 HA0.out) | ((with_reducible refine (HLS.out _).mono ?_);rintro e wp_ ⟨rfl,hw1⟩;subst wp_) | ((with_reducible refine (HXS.out _).mono ?_);rintro e wp_ ⟨rfl,hw1⟩;subst wp_) | ((with_reducible refine (HN1.out _ _ HF.out.2.2.2.2.2.2.1).mono ?_);rintro e_ w2 ⟨rfl,hc2,hg2⟩;have HC2:=Lh hc2;have HG2:=Lh hg2;clear hc2 hg2;have HR1:=Lh (keepS HG2.out (by have:=HLT.out;omega) HF.out.2.2.2.2.1);have HR0:=Lh (keepS HG2.out (by have:=HLT.out;omega) HF.out.2.2.2.2.2.1);obtain ⟨c0_,c1_,c2_,c3_,z0_,z1_,z2_,z3_⟩:=row4 HR1.out;obtain ⟨a0_,a1_,a2_,a3_,y0_,y1_,y2_,y3_⟩:=row4 HR0.out))
       refine bodyPost_ret (results_cell_row (ty:=38) rfl _ _ w.heap.size 38 _ (0,0) _ rfl (set4 ((Below.heap_setCell _ _ _ _ (by show w.heap.size≠w.heap.size+1;omega)).trans HR0.out)) Tryz.underlying38 rfl (by kernel_rfl)) rfl ⟨by rw [HE.out];rfl,?_⟩
       rw [HE.out]
       exact end4 HLT.out (HC2.out.set (by have:=HLT.out;omega) _ _) ((HF.out.2.2.2.2.2.2.2.trans HG2.out).setCell (p:=⟨w.heap.size+1,3,none⟩) (.inr (Nat.le_succ _)) _)
     · have d2:((rm:Int) / 64 == 1)=false:=beq_eq_false_iff_ne.2 (by omega)
       have d3:((rm:Int) / 64 == 2)=true:=beq_iff_eq.2 (by omega)
       have he:PL=(⟨y,x,sc,(numC 4 c1).1⟩,(numC 4 c1).2):=by rw [HPL.out];unfold placeC;rw [HP1.out];simp only [h6,(by decide:¬ (2:Nat)=1),reduceIte]
       have HE:=Lh he
       clear h6 he HP1 HPL
       go_enter Tryz.func201,Tryz.ntmps201
       go_wp2_with (first | ((with_reducible refine (HLA.out _).mono ?_);rintro e wp_ ⟨rfl,hw1⟩;subst wp_) | ((with_reducible refine (HB.out _ ((HH.out.alloc _).alloc _)).mono ?_);rintro e_ w1 ⟨rfl,hc1,hg1⟩;have HC1:=Lh hc1;have HG1:=Lh hg1;clear hc1 hg1;have HA1:=Lh (keepS HG1.out (by have:=HLT.out;omega) HK.out.2);have HA0:=Lh (keepS HG1.out (by have:=HLT.out;omega) HK.out.1);obtain ⟨c0_,c1_,c2_,c3_,z0_,z1_,z2_,z3_⟩:=row4 HA1.out;obtain ⟨a0_,a1_,a2_,a3_,y0_,y1_,y2_,y3_⟩:=row4 HA0.out) | ((with_reducible refine (HLS.out _).mono ?_);rintro e wp_ ⟨rfl,hw1⟩;subst wp_) | ((with_reducible refine (HXS.out _).mono ?_);rintro e wp_ ⟨rfl,hw1⟩;subst wp_) | ((with_reducible refine (HN4.out _ _ HF.out.2.2.2.2.2.2.1).mono ?_);rintro e_ w2 ⟨rfl,hc2,hg2⟩;have HC2:=Lh hc2;have HG2:=Lh hg2;clear hc2 hg2;have HR1:=Lh (keepS HG2.out (by have:=HLT.out;omega) HF.out.2.2.2.2.1);have HR0:=Lh (keepS HG2.out (by have:=HLT.out;omega) HF.out.2.2.2.2.2.1);obtain ⟨c0_,c1_,c2_,c3_,z0_,z1_,z2_,z3_⟩:=row4 HR1.out;obtain ⟨a0_,a1_,a2_,a3_,y0_,y1_,y2_,y3_⟩:=row4 HR0.out))
       have HF:=Lh (place_b2 (.int .i64 x) (.int .i64 y) (.int .i64 sc) HLT.out HA1.out HA0.out HC1.out (((Chg.refl (fun j=>j=b) w).alloc _).alloc _ |>.trans HG1.out))
       obtain ⟨X,hX⟩:∃ X,X=(((w1.setCell ⟨w.heap.size+1,0,none⟩ (.int .i64 y)).drew.setCell ⟨w.heap.size+1,1,none⟩ (.int .i64 x)).setCell ⟨w.heap.size+1,2,none⟩ (.int .i64 sc)):=⟨_,rfl⟩
       rw [←hX] at HF
       have HX:=Lh hX
       clear hX
       obtain ⟨xc0_,xc1_,xc2_,xc3_,xz0_,xz1_,xz2_,xz3_⟩:=row4 HF.out.2.2.2.2.1
       obtain ⟨xa0_,xa1_,xa2_,xa3_,xy0_,xy1_,xy2_,xy3_⟩:=row4 HF.out.2.2.2.2.2.1
       (refine wp_region_lines (fun _=>True) (by kernel_rfl) (by kernel_rfl) trivial ?_)
       (try simp only [])
       repeat (first | (refine runL_no (by rfl) ?_;(try simp only [Act.put,List.setIfInBounds_toArray,List.set_cons_zero,List.set_cons_succ])) | (refine runL_val (v:=?_) (by rfl) ?_ ?_;rotate_left;(focus (intro w_ hw_;skip;go_simp;(try with_reducible rfl);done));(try simp only [Act.put,List.setIfInBounds_toArray,List.set_cons_zero,List.set_cons_succ])) | (refine runL_skip (w1:=((w1.setCell ⟨w.heap.size+1,0,none⟩ (.int .i64 y)).drew.setCell ⟨w.heap.size+1,1,none⟩ (.int .i64 x))) (by rfl) (by rfl) (exec_store1 3 _ _ rfl (w.heap.size+1) 1 _ rfl rfl (by kernel_rfl) HF.out.1 HF.out.2.1 rfl) (.inr trivial) ?_;(try simp only [Act.put])) | (refine runL_skip (w1:=X) (by rfl) (by rfl) (by rw [HX.out];exact exec_store1 3 _ _ rfl (w.heap.size+1) 2 _ rfl rfl (by kernel_rfl) HF.out.2.2.1 HF.out.2.2.2.1 rfl) (.inr trivial) ?_;(try simp only [Act.put])))
       (refine runL_nil ?_)
       go_wp2_with (first | ((with_reducible refine (HLA.out _).mono ?_);rintro e wp_ ⟨rfl,hw1⟩;subst wp_) | ((with_reducible refine (HB.out _ ((HH.out.alloc _).alloc _)).mono ?_);rintro e_ w1 ⟨rfl,hc1,hg1⟩;have HC1:=Lh hc1;have HG1:=Lh hg1;clear hc1 hg1;have HA1:=Lh (keepS HG1.out (by have:=HLT.out;omega) HK.out.2);have HA0:=Lh (keepS HG1.out (by have:=HLT.out;omega) HK.out.1);obtain ⟨c0_,c1_,c2_,c3_,z0_,z1_,z2_,z3_⟩:=row4 HA1.out;obtain ⟨a0_,a1_,a2_,a3_,y0_,y1_,y2_,y3_⟩:=row4 HA0.out) | ((with_reducible refine (HLS.out _).mono ?_);rintro e wp_ ⟨rfl,hw1⟩;subst wp_) | ((with_reducible refine (HXS.out _).mono ?_);rintro e wp_ ⟨rfl,hw1⟩;subst wp_) | ((with_reducible refine (HN4.out _ _ HF.out.2.2.2.2.2.2.1).mono ?_);rintro e_ w2 ⟨rfl,hc2,hg2⟩;have HC2:=Lh hc2;have HG2:=Lh hg2;clear hc2 hg2;have HR1:=Lh (keepS HG2.out (by have:=HLT.out;omega) HF.out.2.2.2.2.1);have HR0:=Lh (keepS HG2.out (by have:=HLT.out;omega) HF.out.2.2.2.2.2.1);obtain ⟨c0_,c1_,c2_,c3_,z0_,z1_,z2_,z3_⟩:=row4 HR1.out;obtain ⟨a0_,a1_,a2_,a3_,y0_,y1_,y2_,y3_⟩:=row4 HR0.out))
       refine bodyPost_ret (results_cell_row (ty:=38) rfl _ _ w.heap.size 38 _ (0,0) _ rfl (set4 ((Below.heap_setCell _ _ _ _ (by show w.heap.size≠w.heap.size+1;omega)).trans HR0.out)) Tryz.underlying38 rfl (by kernel_rfl)) rfl ⟨by rw [HE.out];rfl,?_⟩
       rw [HE.out]
       exact end4 HLT.out (HC2.out.set (by have:=HLT.out;omega) _ _) ((HF.out.2.2.2.2.2.2.2.trans HG2.out).setCell (p:=⟨w.heap.size+1,3,none⟩) (.inr (Nat.le_succ _)) _)
     · have d2:((rm:Int) / 64 == 1)=false:=beq_eq_false_iff_ne.2 (by omega)
       have d3:((rm:Int) / 64 == 2)=false:=beq_eq_false_iff_ne.2 (by omega)
       have he:PL=(⟨y,x,sc,0⟩,c1):=by rw [HPL.out];unfold placeC;rw [HP1.out];simp only [h6.1,h6.2,reduceIte]
       have HE:=Lh he
       clear h6 he HP1 HPL
       go_enter Tryz.func201,Tryz.ntmps201
       go_wp2_with (first | ((with_reducible refine (HLA.out _).mono ?_);rintro e wp_ ⟨rfl,hw1⟩;subst wp_) | ((with_reducible refine (HB.out _ ((HH.out.alloc _).alloc _)).mono ?_);rintro e_ w1 ⟨rfl,hc1,hg1⟩;have HC1:=Lh hc1;have HG1:=Lh hg1;clear hc1 hg1;have HA1:=Lh (keepS HG1.out (by have:=HLT.out;omega) HK.out.2);have HA0:=Lh (keepS HG1.out (by have:=HLT.out;omega) HK.out.1);obtain ⟨c0_,c1_,c2_,c3_,z0_,z1_,z2_,z3_⟩:=row4 HA1.out;obtain ⟨a0_,a1_,a2_,a3_,y0_,y1_,y2_,y3_⟩:=row4 HA0.out) | ((with_reducible refine (HLS.out _).mono ?_);rintro e wp_ ⟨rfl,hw1⟩;subst wp_) | ((with_reducible refine (HXS.out _).mono ?_);rintro e wp_ ⟨rfl,hw1⟩;subst wp_))
       have HF:=Lh (place_b2 (.int .i64 x) (.int .i64 y) (.int .i64 sc) HLT.out HA1.out HA0.out HC1.out (((Chg.refl (fun j=>j=b) w).alloc _).alloc _ |>.trans HG1.out))
       obtain ⟨X,hX⟩:∃ X,X=(((w1.setCell ⟨w.heap.size+1,0,none⟩ (.int .i64 y)).drew.setCell ⟨w.heap.size+1,1,none⟩ (.int .i64 x)).setCell ⟨w.heap.size+1,2,none⟩ (.int .i64 sc)):=⟨_,rfl⟩
       rw [←hX] at HF
       have HX:=Lh hX
       clear hX
       obtain ⟨xc0_,xc1_,xc2_,xc3_,xz0_,xz1_,xz2_,xz3_⟩:=row4 HF.out.2.2.2.2.1
       obtain ⟨xa0_,xa1_,xa2_,xa3_,xy0_,xy1_,xy2_,xy3_⟩:=row4 HF.out.2.2.2.2.2.1
       (refine wp_region_lines (fun _=>True) (by kernel_rfl) (by kernel_rfl) trivial ?_)
       (try simp only [])
       repeat (first | (refine runL_no (by rfl) ?_;(try simp only [Act.put,List.setIfInBounds_toArray,List.set_cons_zero,List.set_cons_succ])) | (refine runL_val (v:=?_) (by rfl) ?_ ?_;rotate_left;(focus (intro w_ hw_;skip;go_simp;(try with_reducible rfl);done));(try simp only [Act.put,List.setIfInBounds_toArray,List.set_cons_zero,List.set_cons_succ])) | (refine runL_skip (w1:=((w1.setCell ⟨w.heap.size+1,0,none⟩ (.int .i64 y)).drew.setCell ⟨w.heap.size+1,1,none⟩ (.int .i64 x))) (by rfl) (by rfl) (exec_store1 3 _ _ rfl (w.heap.size+1) 1 _ rfl rfl (by kernel_rfl) HF.out.1 HF.out.2.1 rfl) (.inr trivial) ?_;(try simp only [Act.put])) | (refine runL_skip (w1:=X) (by rfl) (by rfl) (by rw [HX.out];exact exec_store1 3 _ _ rfl (w.heap.size+1) 2 _ rfl rfl (by kernel_rfl) HF.out.2.2.1 HF.out.2.2.2.1 rfl) (.inr trivial) ?_;(try simp only [Act.put])))
       (refine runL_nil ?_)
       go_wp2_with (first | ((with_reducible refine (HLA.out _).mono ?_);rintro e wp_ ⟨rfl,hw1⟩;subst wp_) | ((with_reducible refine (HB.out _ ((HH.out.alloc _).alloc _)).mono ?_);rintro e_ w1 ⟨rfl,hc1,hg1⟩;have HC1:=Lh hc1;have HG1:=Lh hg1;clear hc1 hg1;have HA1:=Lh (keepS HG1.out (by have:=HLT.out;omega) HK.out.2);have HA0:=Lh (keepS HG1.out (by have:=HLT.out;omega) HK.out.1);obtain ⟨c0_,c1_,c2_,c3_,z0_,z1_,z2_,z3_⟩:=row4 HA1.out;obtain ⟨a0_,a1_,a2_,a3_,y0_,y1_,y2_,y3_⟩:=row4 HA0.out) | ((with_reducible refine (HLS.out _).mono ?_);rintro e wp_ ⟨rfl,hw1⟩;subst wp_) | ((with_reducible refine (HXS.out _).mono ?_);rintro e wp_ ⟨rfl,hw1⟩;subst wp_))
       refine bodyPost_ret (results_cell_row (ty:=38) rfl _ _ w.heap.size 38 _ (0,0) _ rfl (set4 HF.out.2.2.2.2.2.1) Tryz.underlying38 rfl (by kernel_rfl)) rfl ⟨by rw [HE.out];rfl,?_⟩
       rw [HE.out]
       exact end4 HLT.out HF.out.2.2.2.2.2.2.1 HF.out.2.2.2.2.2.2.2
 · obtain ⟨p,hp⟩:∃ p,p=rm % 8:=⟨_,rfl⟩
   rw [if_neg h4] at HP1
   rw [←hp] at f1 h4
   have d1:((p:Int) == 4)=false:=beq_eq_false_iff_ne.2 (by omega)
   clear h4 hp
   have HK:=Lh (kept2 (b:=b) (o:=.cells [.int .i64 0,.int .i64 0,.int .i64 0,.int .i64 0].toArray 38 (0,0)) (o2:=.cells [.int .i64 q,.int .i64 (-1),.int .i64 1,.int .i64 0].toArray 38 (0,0)) (Chg.refl _ _) HLT.out)
   have hmod:rm / 64=1∨rm / 64=2∨(rm / 64≠1∧rm / 64≠2):=by omega
   rcases hmod with h6 | h6 | h6
   · have d2:((rm:Int) / 64 == 1)=true:=beq_iff_eq.2 (by omega)
     have he:PL=(⟨q,-1,1,(numC 1 c).1⟩,(numC 1 c).2):=by rw [HPL.out];unfold placeC;rw [HP1.out];simp only [h6,reduceIte]
     have HE:=Lh he
     clear h6 he HP1 HPL
     go_enter Tryz.func201,Tryz.ntmps201
     go_wp2_with (first | ((with_reducible refine (HLA.out _).mono ?_);rintro e wp_ ⟨rfl,hw1⟩;subst wp_) | ((with_reducible refine (HN1.out _ _ ((HH.out.alloc _).alloc _)).mono ?_);rintro e_ w2 ⟨rfl,hc2,hg2⟩;have HC2:=Lh hc2;have HG2:=Lh hg2;clear hc2 hg2;have HR1:=Lh (keepS HG2.out (by have:=HLT.out;omega) HK.out.2);have HR0:=Lh (keepS HG2.out (by have:=HLT.out;omega) HK.out.1);obtain ⟨c0_,c1_,c2_,c3_,z0_,z1_,z2_,z3_⟩:=row4 HR1.out;obtain ⟨a0_,a1_,a2_,a3_,y0_,y1_,y2_,y3_⟩:=row4 HR0.out))
     refine bodyPost_ret (results_cell_row (ty:=38) rfl _ _ w.heap.size 38 _ (0,0) _ rfl (set4 ((Below.heap_setCell _ _ _ _ (by show w.heap.size≠w.heap.size+1;omega)).trans HR0.out)) Tryz.underlying38 rfl (by kernel_rfl)) rfl ⟨by rw [HE.out];rfl,?_⟩
     rw [HE.out]
     exact end4 HLT.out (HC2.out.set (by have:=HLT.out;omega) _ _) (((((Chg.refl (fun j=>j=b) w).alloc _).alloc _).trans HG2.out).setCell (p:=⟨w.heap.size+1,3,none⟩) (.inr (Nat.le_succ _)) _)
   · have d2:((rm:Int) / 64 == 1)=false:=beq_eq_false_iff_ne.2 (by omega)
     have d3:((rm:Int) / 64 == 2)=true:=beq_iff_eq.2 (by omega)
     have he:PL=(⟨q,-1,1,(numC 4 c).1⟩,(numC 4 c).2):=by rw [HPL.out];unfold placeC;rw [HP1.out];simp only [h6,(by decide:¬ (2:Nat)=1),reduceIte]
     have HE:=Lh he
     clear h6 he HP1 HPL
     go_enter Tryz.func201,Tryz.ntmps201
     go_wp2_with (first | ((with_reducible refine (HLA.out _).mono ?_);rintro e wp_ ⟨rfl,hw1⟩;subst wp_) | ((with_reducible refine (HN4.out _ _ ((HH.out.alloc _).alloc _)).mono ?_);rintro e_ w2 ⟨rfl,hc2,hg2⟩;have HC2:=Lh hc2;have HG2:=Lh hg2;clear hc2 hg2;have HR1:=Lh (keepS HG2.out (by have:=HLT.out;omega) HK.out.2);have HR0:=Lh (keepS HG2.out (by have:=HLT.out;omega) HK.out.1);obtain ⟨c0_,c1_,c2_,c3_,z0_,z1_,z2_,z3_⟩:=row4 HR1.out;obtain ⟨a0_,a1_,a2_,a3_,y0_,y1_,y2_,y3_⟩:=row4 HR0.out))
     refine bodyPost_ret (results_cell_row (ty:=38) rfl _ _ w.heap.size 38 _ (0,0) _ rfl (set4 ((Below.heap_setCell _ _ _ _ (by show w.heap.size≠w.heap.size+1;omega)).trans HR0.out)) Tryz.underlying38 rfl (by kernel_rfl)) rfl ⟨by rw [HE.out];rfl,?_⟩
     rw [HE.out]
     exact end4 HLT.out (HC2.out.set (by have:=HLT.out;omega) _ _) (((((Chg.refl (fun j=>j=b) w).alloc _).alloc _).trans HG2.out).setCell (p:=⟨w.heap.size+1,3,none⟩) (.inr (Nat.le_succ _)) _)
   · have d2:((rm:Int) / 64 == 1)=false:=beq_eq_false_iff_ne.2 (by omega)
     have d3:((rm:Int) / 64 == 2)=false:=beq_eq_false_iff_ne.2 (by omega)
     have he:PL=(⟨q,-1,1,0⟩,c):=by rw [HPL.out];unfold placeC;rw [HP1.out];simp only [h6.1,h6.2,reduceIte]
     have HE:=Lh he
     clear h6 he HP1 HPL
     go_enter Tryz.func201,Tryz.ntmps201
     go_wp2_with (first | ((with_reducible refine (HLA.out _).mono ?_);rintro e wp_ ⟨rfl,hw1⟩;subst wp_))
     refine bodyPost_ret (results_cell_row (ty:=38) rfl _ _ w.heap.size 38 _ (0,0) _ rfl (kept2 (b:=b) (o:=.cells [.int .i64 q,.int .i64 (-1),.int .i64 1,.int .i64 0].toArray 38 (0,0)) (Chg.refl _ _) HLT.out).1 Tryz.underlying38 rfl (by kernel_rfl)) rfl ⟨by rw [HE.out];rfl,?_⟩
     rw [HE.out]
     exact ⟨(HH.out.alloc _).alloc _,((Chg.refl (fun j=>j=b) w).alloc _).alloc _⟩
end Go.Proofs.YtocndimihokcmaaGreat
namespace Go.Proofs.YtocndimihokcmaaGreat
open Go.RowKit
set_option maxRecDepth 100000
theorem CurAt.setRow {t:TypeId} {q:Bool} {L:List UInt8} {b:Nat} {w:World} {c:Cur} (h:CurAt t q L b w c) {g:Nat} (hg:b≠g) (cs:Array Value):CurAt t q L b (w.setRow g cs) c:=⟨h.suf,(setRow_other _ _ _ _ hg).trans h.blk⟩
def insZ:List Value:=[.int .i64 0,.int .i64 0,.int .i64 0,.int .i64 0,.int .i64 0,.int .i64 0,.int .i64 0,.int .i64 0,.int .i64 0]
theorem kept1 {w X:World} {o:Obj} {b:Nat} (h:Chg (fun j=>j=b) (w.alloc o) X) (hb:b < w.heap.size):X.heap[w.heap.size]? = some o:=keepS h (by omega) (heap_alloc_new w o)
set_option maxHeartbeats 4000000 in
theorem ptake_any {L:List UInt8} {b:Nat} {c:Cur} {w:World} (op:Int) (r:Nat) (hL:L.length≤1000000000) (h:CurAt 104 false L b w c):Calls Tryz.prog 199 #[.int .i64 op,.pointer (some ⟨b,0,none⟩),.int .i64 r] w (CurSay 104 false L b w (byteC c).2 (.agg (insRow (insR op (lastC r (byteC c).1) (midC r (byteC c).1) 0 0)).toArray)):=by
 have HB:=Lh (fun (w_:World) (h_:CurAt 104 false L b w_ c)=>byte_any hL h_)
 have HH:=Lh h
 have HLT:=Lh h.lt
 have HM:=Lh (fun w_=>dmid_any r (byteC c).1 w_)
 have HLA:=Lh (fun w_=>dlast_any r (byteC c).1 w_)
 clear hL h
 generalize (byteC c).1=s at *
 generalize (byteC c).2=c1 at *
 generalize lastC r s=y at *
 generalize midC r s=x at *
 go_enter Tryz.func199,Tryz.ntmps199
 go_wp2_with (first | (refine wpList_store_row rfl 40 _ _ rfl w.heap.size _ rfl rfl 40 insZ.toArray HA1.out (by kernel_rfl) (by rfl) (by kernel_rfl) ?_) | ((with_reducible refine (HB.out _ (HH.out.alloc _)).mono ?_);rintro e_ w1 ⟨rfl,hc1,hg1⟩;have HC1:=Lh hc1;have HG1:=Lh hg1;clear hc1 hg1;have HA1:=Lh (kept1 HG1.out HLT.out)) | ((with_reducible refine (HM.out _).mono ?_);rintro e wp_ ⟨rfl,hw1⟩;subst wp_) | ((with_reducible refine (HLA.out _).mono ?_);rintro e wp_ ⟨rfl,hw1⟩;subst wp_))
 refine bodyPost_ret (results_cell_row (ty:=40) rfl _ _ w.heap.size 40 _ (0,0) _ rfl (setRow_heap _ _ _ _ _ _ HA1.out) Tryz.underlying40 rfl (by kernel_rfl)) rfl ⟨rfl,?_⟩
 exact ⟨HC1.out.setRow (by have:=HLT.out;omega) _,(((Chg.refl (fun j=>j=b) w).alloc _).trans HG1.out).setRow (.inr (Nat.le_refl _)) _⟩
end Go.Proofs.YtocndimihokcmaaGreat
