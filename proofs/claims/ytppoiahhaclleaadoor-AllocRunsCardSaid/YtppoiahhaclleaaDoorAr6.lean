/- Part 6 of a claim; what it proves stands in its last text. -/
import Derived.Test.YtppoiahhaclleaaDoorAr5
import Derived.Deep.WholeRow
import Derived.Laws.Rows
namespace Go.Proofs.YtppoiahhaclleaaDoor
open Go.RowKit
set_option maxRecDepth 100000
theorem head_ok {p:LP} (h:headF p=0):p.regs≤64∧0≤p.regs∧p.bufs.length≤32∧p.ops.length≤65536∧∀ b∈p.bufs,1≤b.size∧b.size≤65536∧1≤b.kind∧b.kind≤3:=by
 unfold headF at h
 split at h
 · cases h
 · split at h
   · cases h
   · split at h
     · cases h
     · rename_i h1 h2 h3
       refine ⟨by omega,by omega,by omega,by omega,fun b hb=>?_⟩
       have h4:¬ (p.bufs.any fun b=>decide (b.size < 1) || (decide (b.kind < 1) || decide (3 < b.kind)))=true:=fun h=>h3 (.inr h)
       simp only [List.any_eq_true,not_exists,not_and,Bool.or_eq_true,decide_eq_true_eq] at h2 h4
       have:=h2 b hb
       have:=h4 b hb
       omega
theorem run_stays {p:LP} {n j:Nat} (h:(runTo p n j).1≠0):∀ d,runTo p n (j+d)=runTo p n j:=by
 intro d
 induction d with
 | zero=>rfl
 | succ d ih =>
   show runTo p n (j+d+1)=_
   simp only [runTo]
   rw [ih,if_pos h]
theorem run_next {p:LP} {n k:Nat} {o:LOp} (h0:(runTo p n k).1=0) (ho:p.ops[k]? = some o):runTo p n (k+1)=if (opF p o (runTo p n k).2.2).1≠0 then ((opF p o (runTo p n k).2.2).1,k,(opF p o (runTo p n k).2.2).2) else (0,k+1,(opF p o (runTo p n k).2.2).2):=by
 simp only [runTo]
 rw [if_neg (by simp [h0]),ho]
theorem check_at {p:LP} {n k:Nat} {o:LOp} (hh:headF p=0) (h0:(runTo p n k).1=0) (ho:p.ops[k]? = some o) (he:(opF p o (runTo p n k).2.2).1≠0):checkF p n=((k:Int),(opF p o (runTo p n k).2.2).1):=by
 have h1:=run_next h0 ho
 rw [if_pos he] at h1
 have hk:=(List.getElem?_eq_some_iff.1 ho).1
 have h2:=run_stays (n:=n) (p:=p) (j:=k+1) (by rw [h1];exact he) (p.ops.length - (k+1))
 rw [show k+1+(p.ops.length - (k+1))=p.ops.length by omega,h1] at h2
 unfold checkF
 rw [if_neg (by simp [hh])]
 simp only [h2]
 rw [if_pos he]
theorem check_end {p:LP} {n:Nat} (hh:headF p=0) (h0:(runTo p n p.ops.length).1=0):checkF p n=if (runTo p n p.ops.length).2.2.loops≠[] then ((p.ops.length:Int),9) else ((p.ops.length:Int),0):=by
 unfold checkF
 rw [if_neg (by simp [hh])]
 simp only
 rw [if_neg (by simp [h0])]
theorem chk_new (r:Int) (x y:Value):((Tryd.zeroCells95.setIfInBounds 0 (.int .i64 r)).setIfInBounds 1 x).setIfInBounds 2 y=(chkRow r x y (List.replicate 64 false) (.slice none 0 0)).toArray:=by kernel_rfl
set_option maxHeartbeats 8000000 in
theorem check_any (p:LP) (Ab Ao:Option Addr) (nb cb no co:Nat) (w:World) (hp:ProgAt w (fun k=>k < w.heap.size) [.int .i64 p.regs,.slice Ab nb cb,.slice Ao no co] p) :
   Calls Tryd.prog 31 #[.agg #[.int .i64 p.regs,.slice Ab nb cb,.slice Ao no co]] w fun e w'=>e=.returned (.tuple #[.int .i64 (checkF p 64).1,.int .i64 (checkF p 64).2])∧Below w.heap.size w w':=by
 obtain ⟨W,hW,hbW,hzW,hcW,_⟩:=boxed w #[.int .i64 p.regs,.slice Ab nb cb,.slice Ao no co] 25
 have c0:W.cell? ⟨w.heap.size,0,none⟩=some (.int .i64 p.regs):=by rw [hcW];rfl
 have c1:W.cell? ⟨w.heap.size,1,none⟩=some (.slice Ab nb cb):=by rw [hcW];rfl
 have c2:W.cell? ⟨w.heap.size,2,none⟩=some (.slice Ao no co):=by rw [hcW];rfl
 have hlt:w.heap.size < W.heap.size:=by omega
 have HC:=Lh (And.intro c0 (And.intro c1 c2))
 have hp1:=prog_next hp hbW
 have HH:=Lh (head_any p Ab Ao nb cb no co W hp1)
 have HP:=Lh hp1
 have HW:=Lh hW
 have HB:=Lh hbW
 have HLT:=Lh hlt
 obtain ⟨e0,he0⟩:∃ e,headF p=e:=⟨_,rfl⟩
 rw [he0] at HH
 have HE:=Lh he0
 clear hp hp1 hW hbW hzW hcW hlt he0
 by_cases h0:e0=0
 rotate_left
 · have d0:(e0 != 0)=true:=by simpa using h0
   have HV:=Lh (show checkF p 64=(0,e0) by unfold checkF;rw [if_pos (by rw [HE.out];exact h0),HE.out])
   clear h0
   go_enter Tryd.func31,Tryd.ntmps31
   go_upto_region 1 with fail
   rw [←HW.out]
   go_wp2_with ((with_reducible refine (HH.out).mono ?_);rintro e w1 ⟨rfl,hb1⟩)
   go_ret2
   rw [HV.out]
   exact ⟨rfl,HB.out.trans (hb1.mono HB.out.size)⟩
 · subst h0
   have d0:((0:Int) != 0)=false:=rfl
   have HOK:=Lh (head_ok HE.out)
   go_enter Tryd.func31,Tryd.ntmps31
   go_upto_region 1 with fail
   rw [←HW.out]
   go_upto_region 4 with ((with_reducible refine (HH.out).mono ?_);rintro e w1 ⟨rfl,hb1⟩)
   have e0:=(hb1.cell (p:=⟨w.heap.size,0,none⟩) HLT.out).trans c0
   have e1:=(hb1.cell (p:=⟨w.heap.size,1,none⟩) HLT.out).trans c1
   have e2:=(hb1.cell (p:=⟨w.heap.size,2,none⟩) HLT.out).trans c2
   have HB1:=Lh hb1
   clear c0 c1 c2 hb1
   go_upto_region 5 with fail
   have hN:=chk_new p.regs (.slice Ab nb cb) (.slice Ao no co)
   rw [hN]
   obtain ⟨W2,hW2⟩:∃ W2,W2=w1.alloc (.cells (chkRow p.regs (.slice Ab nb cb) (.slice Ao no co) (List.replicate 64 false) (.slice none 0 0)).toArray 95):=⟨_,rfl⟩
   rw [←hW2]
   have hS:CAt w1 W2 w1.heap.size p.regs (.slice Ab nb cb) (.slice Ao no co) ⟨List.replicate 64 false,[]⟩:=⟨by rw [hW2];exact (Below.refl _ _).alloc (Nat.le_refl _) _,Nat.le_refl _,by simp,by simp,by simp,none,0,by unfold ChkAt;rw [hW2];exact heap_alloc_new w1 _,World.ownsRow_nil _ _ _ _,fun e=>by cases e⟩
   have HS:=Lh hS
   have HP1:=Lh (prog_next HP.out HB1.out)
   have HPN:=Lh (fun (wr:World) (s:CSt) (h:CAt w1 wr w1.heap.size p.regs (.slice Ab nb cb) (.slice Ao no co) s)=>prog_next (prog_next HP.out HB1.out) h.below)
   have HB2:=Lh hS.below
   have hlt1:w.heap.size < w1.heap.size:=Nat.lt_of_lt_of_le HLT.out HB1.out.size
   have HLT1:=Lh hlt1
   have f2:=(hS.below.cell (p:=⟨w.heap.size,2,none⟩) hlt1).trans e2
   have E2:=Lh e2
   have hno:p.ops.length=no:=by
     obtain ⟨vb,vo,h,h1,h2⟩:=HP1.out.row
     simp only [List.cons.injEq] at h
     rw [←h.2.2.1] at h2
     obtain ⟨A,c,hv,_⟩:=rows_form h2;cases hv;rfl
   have hno2:no≤65536:=by have:=HOK.out.2.2.2.1;omega
   have HNO:=Lh hno
   have HOPS:=Lh (show OpsAt w1 (fun k=>k < w1.heap.size) (.slice Ao no co) p.ops by
     obtain ⟨vb,vo,h,h1,h2⟩:=HP1.out.row
     simp only [List.cons.injEq] at h
     rw [←h.2.2.1] at h2
     exact h2)
   clear hN e0 e1 e2 hW2 hS hno
   generalize (chkRow p.regs (.slice Ab nb cb) (.slice Ao no co) (List.replicate 64 false) (.slice none 0 0)).toArray=arr
   generalize hbc:w1.heap.size=bc at *
   have HBC:=Lh hbc
   clear hbc
   go_wp2
   go_loopw [20] (fun i wr=>∃ k:Nat,k≤no∧i=.int .i64 k∧(runTo p 64 k).1=0∧CAt w1 wr bc p.regs (.slice Ab nb cb) (.slice Ao no co) (runTo p 64 k).2.2) (fun i _=>no - (intOf i).toNat)
   case atStart=>exact ⟨0,by omega,rfl,rfl,HS.out⟩
   case round =>
     obtain ⟨k,hk,rfl,hr0,hcat⟩:=hrel
     have HR0:=Lh hr0
     have HCAT:=Lh hcat
     have hbw:=hcat.below
     have f2:=(hbw.cell (p:=⟨w.heap.size,2,none⟩) (by rw [HBC.out];exact hlt1)).trans E2.out
     have HBW:=Lh hbw
     clear hr0 hcat hbw
     by_cases hlt:k < no
     · obtain ⟨o,ho⟩:∃ o,p.ops[k]? = some o:=⟨_,List.getElem?_eq_getElem (by rw [HNO.out];omega)⟩
       obtain ⟨g,off,hA,hF,x0,x1,x2,x3,x4,x5,x6,x7⟩:=HOPS.out.at_ ho
       subst hA
       have y0:=(HBW.out.cell (p:=⟨g,off+k*8,none⟩) (by rw [HBC.out];exact hF)).trans x0
       have y1:=(HBW.out.cell (p:=⟨g,off+k*8+1,none⟩) (by rw [HBC.out];exact hF)).trans x1
       have y2:=(HBW.out.cell (p:=⟨g,off+k*8+2,none⟩) (by rw [HBC.out];exact hF)).trans x2
       have y3:=(HBW.out.cell (p:=⟨g,off+k*8+3,none⟩) (by rw [HBC.out];exact hF)).trans x3
       have y4:=(HBW.out.cell (p:=⟨g,off+k*8+4,none⟩) (by rw [HBC.out];exact hF)).trans x4
       have y5:=(HBW.out.cell (p:=⟨g,off+k*8+5,none⟩) (by rw [HBC.out];exact hF)).trans x5
       have y6:=(HBW.out.cell (p:=⟨g,off+k*8+6,none⟩) (by rw [HBC.out];exact hF)).trans x6
       have y7:=(HBW.out.cell (p:=⟨g,off+k*8+7,none⟩) (by rw [HBC.out];exact hF)).trans x7
       have HO:=Lh ho
       clear x0 x1 x2 x3 x4 x5 x6 x7 hF ho
       have hb3:Below wr.heap.size wr (wr.alloc (.cells #[.int .i64 o.kind,.int .i64 o.d,.int .i64 o.e,.int .i64 o.a,.int .i64 o.b,.int .i64 o.c,.int .i64 o.buf,.int .u64 o.imm] 47)):=(Below.refl _ _).alloc (Nat.le_refl _) _
       have hOP:Calls Tryd.prog 49 #[.pointer (some ⟨bc,0,none⟩),.agg #[.int .i64 o.kind,.int .i64 o.d,.int .i64 o.e,.int .i64 o.a,.int .i64 o.b,.int .i64 o.c,.int .i64 o.buf,.int .u64 o.imm]] (wr.alloc (.cells #[.int .i64 o.kind,.int .i64 o.d,.int .i64 o.e,.int .i64 o.a,.int .i64 o.b,.int .i64 o.c,.int .i64 o.buf,.int .u64 o.imm] 47)) fun e w'=>e=.returned (.int .i64 (opF p o (runTo p 64 k).2.2).1)∧CAt w1 w' bc p.regs (.slice Ab nb cb) (.slice (some ⟨g,off,none⟩) no co) (opF p o (runTo p 64 k).2.2).2 :=
         op_any p Ab (some ⟨g,off,none⟩) nb cb no co o bc (runTo p 64 k).2.2 w1 _ (HCAT.out.next hb3) HOK.out.1 (HPN.out _ _ (HCAT.out.next hb3)) (fun b hb=>by have:=(HOK.out.2.2.2.2 b hb).1;omega)
       have HOP:=Lh hOP
       have HNX:=Lh (run_next HR0.out HO.out)
       obtain ⟨q,hq⟩:∃ q,(opF p o (runTo p 64 k).2.2).1=q:=⟨_,rfl⟩
       rw [hq] at HOP HNX
       have HQ:=Lh hq
       clear hq hb3 hOP
       by_cases hq0:q=0
       · subst hq0
         have d1:((0:Int) != 0)=false:=rfl
         go_upto_region 9 with ((with_reducible refine (HOP.out).mono ?_);rintro e w4 ⟨rfl,hc4⟩)
         have HC4:=Lh hc4
         clear hc4
         go_wp2
         go_roundw
         case rel=>exact ⟨k+1,by omega,by go_num,by rw [HNX.out];rfl,by rw [HNX.out];exact HC4.out⟩
         case measure=>simp [intOf];omega
       · have d1:(q != 0)=true:=by simpa using hq0
         have HV:=Lh (check_at HE.out HR0.out HO.out (by rw [HQ.out];exact hq0))
         clear hq0
         go_upto_region 9 with ((with_reducible refine (HOP.out).mono ?_);rintro e w4 ⟨rfl,hc4⟩)
         have HC4:=Lh hc4
         clear hc4
         go_wp2
         go_ret2
         rw [HV.out,HQ.out]
         exact ⟨rfl,HB.out.trans ((HB1.out.trans (HC4.out.below.mono HB1.out.size)).mono HB.out.size)⟩
     · have hkn:p.ops.length=k:=by have:=HNO.out;omega
       have HK:=Lh hkn
       obtain ⟨A,c,hc1,_⟩:=HCAT.out.vl
       have c67:wr.cell? ⟨bc,67,none⟩=some (.slice A (runTo p 64 k).2.2.loops.length c):=cell_row hc1 (chk_loops HCAT.out.m64)
       have HV:=Lh (check_end HE.out (by rw [hkn];exact HR0.out))
       rw [hkn] at HV
       obtain ⟨l,hl⟩:∃ l,(runTo p 64 k).2.2.loops=l:=⟨_,rfl⟩
       rw [hl] at HV c67
       clear hc1 hkn hl
       cases l with
       | nil =>
         have HV:=Lh (show checkF p 64=((k:Int),0) from HV.out.trans (if_neg (by simp)))
         have d1:decide ((0:Int) < ((List.length ([]:List Int):Nat):Int))=false:=rfl
         have hkk:k=no:=by omega
         go_wp2
         go_ret2
         rw [HV.out]
         refine ⟨by rw [hkk];rfl,HB.out.trans ((HB1.out.trans (HBW.out.mono HB1.out.size)).mono HB.out.size)⟩
       | cons r l =>
         have HV:=Lh (show checkF p 64=((k:Int),9) from HV.out.trans (if_pos (by simp)))
         have d1:decide ((0:Int) < ((List.length (r :: l):Nat):Int))=true:=by simp
         go_wp2
         go_ret2
         rw [HV.out]
         refine ⟨by rw [show k=no by omega];rfl,HB.out.trans ((HB1.out.trans (HBW.out.mono HB1.out.size)).mono HB.out.size)⟩
end Go.Proofs.YtppoiahhaclleaaDoor
namespace Go.Proofs.YtppoiahhaclleaaDoor
def takesF (o:LOp):List Int :=
 if o.kind=2∨o.kind=8∨o.kind=9 then [o.a]
 else if (3≤o.kind∧o.kind≤7)∨o.kind=10 then [o.a,o.b]
 else if o.kind=11∨o.kind=12∨o.kind=13 then [o.a,o.b,o.c]
 else if o.kind=14∧o.a≠-1 then [o.a]
 else if o.kind=15∧o.a≠-1 then [o.a,o.b]
 else if o.kind=15 then [o.b]
 else []
def makesF (o:LOp):List Int :=
 if o.kind=10∨o.kind=11∨o.kind=12 then [o.d,o.e]
 else if o.kind=15∨o.kind=17 then []
 else [o.d]
structure RegsIs (p:LP) (o:LOp):Prop where
 d:if kD o.kind=true then 0≤o.d∧o.d < p.regs else o.d = -1
 e:if kE o.kind=true then 0≤o.e∧o.e < p.regs else o.e = -1
 a:if kA o.kind=true then (0≤o.a∧o.a < p.regs)∨(kM o.kind=true∧o.a = -1) else o.a = -1
 b:if kB o.kind=true then 0≤o.b∧o.b < p.regs else o.b = -1
 c:if kC o.kind=true then 0≤o.c∧o.c < p.regs else o.c = -1
theorem regs_is {p:LP} {o:LOp} (h:fieldsF p o=true):1≤o.kind∧o.kind≤17∧RegsIs p o:=by
 unfold fieldsF regsOk at h
 simp only [Bool.and_eq_true,decide_eq_true_eq] at h
 obtain ⟨h1,h2,⟨hd,he,ha,hb,hc⟩,_⟩:=h
 have key:∀ (r:Int) (q:Bool),regIs p r q=true→if q=true then 0≤r∧r < p.regs else r = -1:=fun r q h=>by
   unfold regIs at h
   cases q <;> simpa using h
 refine ⟨h1,h2,key _ _ hd,key _ _ he,?_,key _ _ hb,key _ _ hc⟩
 rw [Bool.or_eq_true] at ha
 rcases ha with ha | ha
 · have:=key _ _ ha
   split
   · rename_i h;rw [if_pos h] at this;exact .inl this
   · rename_i h;rw [if_neg h] at this;exact this
 · simp only [Bool.and_eq_true,beq_iff_eq] at ha
   split
   · exact .inr ha
   · exact ha.2
theorem kind_all {k:Int} (h1:1≤k) (h2:k≤17):k=1∨k=2∨k=3∨k=4∨k=5∨k=6∨k=7∨k=8∨k=9∨k=10∨k=11∨k=12∨k=13∨k=14∨k=15∨k=16∨k=17:=by omega
theorem takes_in {p:LP} {o:LOp} (h:fieldsF p o=true):∀ r∈takesF o,0≤r∧r < p.regs:=by
 obtain ⟨h1,h2,hr⟩:=regs_is h
 obtain ⟨-,-,ha,hb,hc⟩:=hr
 intro r hm
 rcases kind_all h1 h2 with hk | hk | hk | hk | hk | hk | hk | hk | hk | hk | hk | hk | hk | hk | hk | hk | hk <;>
   simp only [takesF,hk,kA,kB,kC,kM] at hm ha hb hc <;> simp at hm ha hb hc <;> (try split at hm) <;> (try simp at hm) <;> omega
theorem makes_in {p:LP} {o:LOp} (h:fieldsF p o=true):∀ r∈makesF o,0≤r∧r < p.regs:=by
 obtain ⟨h1,h2,hr⟩:=regs_is h
 obtain ⟨hd,he,-,-,-⟩:=hr
 intro r hm
 rcases kind_all h1 h2 with hk | hk | hk | hk | hk | hk | hk | hk | hk | hk | hk | hk | hk | hk | hk | hk | hk <;>
   simp only [makesF,hk,kD,kE] at hm hd he <;> simp at hm hd he <;> omega
theorem inF_neg (l:List Int):inF l (-1)=false:=rfl
theorem inF_pos (l:List Int) {r:Int} (h:0≤r):inF l r=l.contains r:=by unfold inF;rw [decide_eq_true h];rfl
theorem makes_any {p:LP} {o:LOp} (h:fieldsF p o=true) (l:List Int):((makesF o).any fun r=>l.contains r)=(inF l o.d || inF l o.e):=by
 obtain ⟨h1,h2,hr⟩:=regs_is h
 obtain ⟨hd,he,-,-,-⟩:=hr
 rcases kind_all h1 h2 with hk | hk | hk | hk | hk | hk | hk | hk | hk | hk | hk | hk | hk | hk | hk | hk | hk <;>
   simp only [makesF,hk,kD,kE] at hd he ⊢ <;> simp at hd he ⊢ <;>
   (first | (rw [hd,he];simp [inF_neg];done) | (rw [he,inF_pos l hd.1,inF_neg];simp;done) | (rw [inF_pos l hd.1,inF_pos l he.1];simp;done))
theorem lackF_neg (m:List Bool):lackF m (-1)=false:=rfl
theorem lackF_pos (m:List Bool) {r:Int} (h:0≤r):lackF m r=!madeF m r:=by unfold lackF;rw [decide_eq_true h];rfl
theorem takes_any {p:LP} {o:LOp} (h:fieldsF p o=true) (m:List Bool):((takesF o).any fun r=>!madeF m r)=(lackF m o.a || lackF m o.b || lackF m o.c):=by
 obtain ⟨h1,h2,hr⟩:=regs_is h
 obtain ⟨-,-,ha,hb,hc⟩:=hr
 rcases kind_all h1 h2 with hk | hk | hk | hk | hk | hk | hk | hk | hk | hk | hk | hk | hk | hk | hk | hk | hk <;>
   simp only [takesF,hk,kA,kB,kC,kM] at ha hb hc ⊢ <;> simp at ha hb hc ⊢ <;>
   (first
     | (rw [ha,hb,hc];simp [lackF_neg];done)
     | (rw [hb,hc,lackF_pos m ha.1];simp [lackF_neg];done)
     | (rw [hc,lackF_pos m ha.1,lackF_pos m hb.1];simp [lackF_neg];done)
     | (rw [lackF_pos m ha.1,lackF_pos m hb.1,lackF_pos m hc.1];simp [Bool.or_assoc];done)
     | (by_cases e:o.a = -1
        · simp [e,hb,hc,lackF_neg,lackF_pos]
        · have:0≤o.a:=by omega
          simp [e,hb,hc,lackF_neg,lackF_pos,this]))
theorem makes_put {p:LP} {o:LOp} (h:fieldsF p o=true) (m:List Bool):putL (makesF o) m true=putF (putF m o.d true) o.e true:=by
 obtain ⟨h1,h2,hr⟩:=regs_is h
 obtain ⟨hd,he,-,-,-⟩:=hr
 rcases kind_all h1 h2 with hk | hk | hk | hk | hk | hk | hk | hk | hk | hk | hk | hk | hk | hk | hk | hk | hk <;>
   simp only [makesF,hk,kD,kE] at hd he ⊢ <;> simp at hd he ⊢ <;>
   (first | (rw [hd,he];rfl) | (rw [he];rfl) | rfl)
end Go.Proofs.YtppoiahhaclleaaDoor
