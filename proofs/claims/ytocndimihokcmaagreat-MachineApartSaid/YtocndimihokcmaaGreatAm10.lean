/- Part 10 of a claim; what it proves stands in its last text. -/
import Derived.Test.YtocndimihokcmaaGreatAm9
import Derived.Deep.DeepCutAuto
import Derived.Outline
import Derived.Test.YtocndimihokcmaaGreatAm5
namespace Go.Proofs.YtocndimihokcmaaGreat
open Go.RowKit
set_option maxRecDepth 100000
def chkP (i:Ins):Bool:=(!(formF i.op).name.isEmpty && numB (formF i.op).is i.imm) && (hasOk (hasB (formF i.op).is 1) i.d && hasOk (hasB (formF i.op).is 2) i.s && hasOk (hasB (formF i.op).is 4) i.t) &&
 ((if hasB (formF i.op).is 8 then placeB i else noPlace i) && !(hasB (formF i.op).is 4 && i.d == i.s))
structure InsOk (i:Ins):Prop where
 disp:-9223372036854775808≤i.disp∧i.disp≤9223372036854775807
 imm:-9223372036854775808≤i.imm∧i.imm≤9223372036854775807
def errOf (b:Bool):Int:=if b then 0 else 2
theorem chk_no {i:Ins} (h:chkP i=false):errOf (chkP i)=2:=by rw [h];rfl
set_option maxHeartbeats 1600000 in
theorem iCheck_any (i:Ins) (h:InsOk i) (w:World) :
   Calls Tryz.prog 75 #[.agg #[.int .i64 i.op,.int .i64 i.d,.int .i64 i.s,.int .i64 i.t,.int .i64 i.base,.int .i64 i.index,.int .i64 i.scale,.int .i64 i.disp,.int .i64 i.imm]] w fun e w'=>e=.returned (.int .i64 (errOf (chkP i)))∧Below w.heap.size w w':=by
 obtain ⟨pb,hpb⟩:∃ pb,pb=chkP i:=⟨_,rfl⟩
 rw [←hpb]
 have HP0:=Lh hpb
 unfold chkP at hpb
 have HP:=Lh hpb
 clear hpb
 have HOF:=Lh (fun w=>of_form w i.op)
 generalize hf:formF i.op=f at *
 have HNUM:=Lh (fun w=>number_any f i.imm h.imm w)
 have HHAS:=Lh (fun what w=>has_any f what w)
 have HPL:=Lh (fun w=>iplace_any i h.disp w)
 have HREG:=Lh (fun r w=>register_any r w)
 clear hf h
 unfold formV formRow at HOF HNUM HHAS
 obtain ⟨W1,hW1,hb1,hs1,hn1,_⟩:=boxed w #[.int .i64 i.op,.int .i64 i.d,.int .i64 i.s,.int .i64 i.t,.int .i64 i.base,.int .i64 i.index,.int .i64 i.scale,.int .i64 i.disp,.int .i64 i.imm] 40
 have HW1:=Lh hW1
 have n0:W1.cell? ⟨w.heap.size,0,none⟩=some (.int .i64 i.op):=hn1 0
 have HN1:=Lh hn1
 have HB1:=Lh hb1
 have m1:w.heap.size < W1.heap.size:=by omega
 clear hW1 hn1 hb1 hs1
 go_enter Tryz.func75,Tryz.ntmps75
 go_wp2_with fail
 rw [←HW1.out]
 refine (HOF.out W1).mono ?_
 rintro e w2 ⟨rfl,hb2⟩
 obtain ⟨W3,hW3,hb3,hs3,hn3,_⟩:=boxed w2 #[.string ⟨f.name.toArray⟩,.int .i64 f.is,.int .i64 f.reads,.int .i64 f.writes] 175
 have hsz2:=hb2.size
 have keep:∀ w_,Below W3.heap.size W3 w_→(∀ (j:Nat) (v:Value),(#[Value.int .i64 i.op,.int .i64 i.d,.int .i64 i.s,.int .i64 i.t,.int .i64 i.base,.int .i64 i.index,.int .i64 i.scale,.int .i64 i.disp,.int .i64 i.imm]:Array Value)[j]? = some v→w_.cell? ⟨w.heap.size,j,none⟩=some v) ∧
     (∀ (j:Nat) (v:Value),(#[Value.string ⟨f.name.toArray⟩,.int .i64 f.is,.int .i64 f.reads,.int .i64 f.writes]:Array Value)[j]? = some v→w_.cell? ⟨w2.heap.size,j,none⟩=some v):=fun w_ hw_=>by
   refine ⟨fun j v hj=>?_,fun j v hj=>?_⟩
   · rw [hw_.cell (p:=⟨w.heap.size,j,none⟩) (by show w.heap.size < W3.heap.size;omega),hb3.cell (p:=⟨w.heap.size,j,none⟩) (by show w.heap.size < w2.heap.size;omega),hb2.cell (p:=⟨w.heap.size,j,none⟩) m1,HN1.out j];exact hj
   · rw [hw_.cell (p:=⟨w2.heap.size,j,none⟩) (by show w2.heap.size < W3.heap.size;omega),hn3 j];exact hj
 have KEEP:=Lh keep
 have HW3:=Lh hW3
 have HB3:=Lh ((HB1.out.trans (hb2.mono HB1.out.size)).trans (hb3.mono (by omega)))
 have g1:w2.cell? ⟨w.heap.size,8,none⟩=some (.int .i64 i.imm):=(hb2.cell (p:=⟨w.heap.size,8,none⟩) m1).trans (HN1.out 8)
 have l0:w.heap.size < w2.heap.size:=by omega
 have l1:w.heap.size < W3.heap.size:=by omega
 have l2:w2.heap.size < W3.heap.size:=by omega
 clear keep hW3 hb3 hs3 hn3 hb2 hsz2 n0
 cases hne:f.name.isEmpty with
 | true =>
   have HX:=Lh hne
   have hne2:f.name=[]:=by simpa using hne
   have HNE2:=Lh hne2
   have hpf:pb=false:=by rw [HP.out,HX.out];rfl
   have HPF:=Lh hpf
   clear hpf
   go_wp2
   go_ret
   refine ⟨ret_int (by rw [HPF.out];rfl),?_⟩
   have h1:=HW3.out
   have h2:=HB3.out
   rw [h1,hne2] at h2
   exact h2
 | false =>
   have HX:=Lh hne
   have hne2:¬ f.name=[]:=by intro e;rw [e] at hne;cases hne
   go_wp2_with fail
   rw [←HW3.out]
   refine (HNUM.out W3).mono ?_
   rintro e w4 ⟨rfl,hb4⟩
   have HB4:=Lh hb4
   have g0:=(KEEP.out w4 hb4).1 1 _ rfl
   have g2:=(KEEP.out w4 hb4).1 2 _ rfl
   have g3:=(KEEP.out w4 hb4).1 3 _ rfl
   clear hb4 g1 hne2 hne
   cases hnum:numB f.is i.imm with
   | false =>
     have hpf:pb=false:=by rw [HP.out,HX.out,hnum];rfl
     have HPF:=Lh hpf
     clear hpf hnum
     go_wp2
     go_ret
     exact ⟨ret_int (by rw [HPF.out];rfl),HB3.out.trans (HB4.out.mono (by have:=HB3.out.size;omega))⟩
   | true =>
     have HNB:=Lh hnum
     clear hnum
     have hi0:∀ w_,(Instr.index 178 (.agg #[.int .i64 1,.int .i64 i.d,.int .i64 2,.int .i64 i.s,.int .i64 4,.int .i64 i.t]) (.int .i64 0)).run Tryz.prog w_=.ok (.agg #[.int .i64 1,.int .i64 i.d]) w_:=fun w_=>by kernel_rfl
     have hi1:∀ w_,(Instr.index 178 (.agg #[.int .i64 1,.int .i64 i.d,.int .i64 2,.int .i64 i.s,.int .i64 4,.int .i64 i.t]) (.int .i64 1)).run Tryz.prog w_=.ok (.agg #[.int .i64 2,.int .i64 i.s]) w_:=fun w_=>by kernel_rfl
     have hi2:∀ w_,(Instr.index 178 (.agg #[.int .i64 1,.int .i64 i.d,.int .i64 2,.int .i64 i.s,.int .i64 4,.int .i64 i.t]) (.int .i64 2)).run Tryz.prog w_=.ok (.agg #[.int .i64 4,.int .i64 i.t]) w_:=fun w_=>by kernel_rfl
     have HI0:=Lh hi0
     have HI1:=Lh hi1
     have HI2:=Lh hi2
     clear hi0 hi1 hi2
     go_wp2
     go_loopw [29] (fun z wr=>∃ (q:Nat) (y:Int),y=q∧q≤3∧z=.int .i64 y∧Below W3.heap.size W3 wr∧((1≤q→hasOk (hasB f.is 1) i.d=true)∧(2≤q→hasOk (hasB f.is 2) i.s=true)∧(3≤q→hasOk (hasB f.is 4) i.t=true))) (fun z _=>3 - (intOf z).toNat)
     case atStart=>exact ⟨0,0,rfl,by omega,rfl,HB4.out,by omega,by omega,by omega⟩
     case round =>
       obtain ⟨q,y,hy,hq,rfl,hbl,hne⟩:=hrel
       have HNE:=Lh hne
       have k0:=(KEEP.out wr hbl).2 0 _ rfl
       have k1:=(KEEP.out wr hbl).2 1 _ rfl
       have k2:=(KEEP.out wr hbl).2 2 _ rfl
       have k3:=(KEEP.out wr hbl).2 3 _ rfl
       have l3:w2.heap.size < wr.heap.size:=Nat.lt_of_lt_of_le l2 hbl.size
       have HBL:=Lh hbl
       clear hne hbl g0 g2 g3
       rcases (by omega:y=0∨y=1∨y=2∨y=3) with rfl | rfl | rfl | rfl
       · have HQ:=Lh hy
         have hi:=HI0.out
         clear hy hq
         obtain ⟨W5,hW5,hb5,hs5,hn5,_⟩:=boxed wr #[.int .i64 1,.int .i64 i.d] 177
         have HW5:=Lh hW5
         have HB5:=Lh (HBL.out.trans (hb5.mono HBL.out.size))
         have p1:W5.cell? ⟨wr.heap.size,1,none⟩=some (.int .i64 i.d):=hn5 1
         have p0:W5.cell? ⟨wr.heap.size,0,none⟩=some (.int .i64 1):=hn5 0
         have l5:wr.heap.size < W5.heap.size:=by omega
         clear hW5 hb5 hs5 hn5
         go_wp2_with fail
         rw [←HW5.out]
         refine (HHAS.out 1 W5).mono ?_
         rintro e w6 ⟨rfl,hb6⟩
         have r1:=(hb6.cell (p:=⟨wr.heap.size,1,none⟩) l5).trans p1
         have r0:=(hb6.cell (p:=⟨wr.heap.size,0,none⟩) l5).trans p0
         have l6:wr.heap.size < w6.heap.size:=Nat.lt_of_lt_of_le l5 hb6.size
         have hb6':=HB5.out.trans (hb6.mono HB5.out.size)
         replace k0:=(KEEP.out w6 hb6').2 0 _ rfl
         replace k1:=(KEEP.out w6 hb6').2 1 _ rfl
         replace k2:=(KEEP.out w6 hb6').2 2 _ rfl
         replace k3:=(KEEP.out w6 hb6').2 3 _ rfl
         have HB6:=Lh hb6'
         clear hb6 hb6' p0 p1 hi l5
         cases hh:hasB f.is 1 with
         | true =>
           have HH:=Lh hh
           clear hh
           go_wp2_with fail
           refine (HREG.out i.d w6).mono ?_
           rintro e w7 ⟨rfl,rfl⟩
           cases hr:regOk i.d with
           | false =>
             have hpf:pb=false:=by
               rw [HP.out]
               have h9:hasOk (hasB f.is 1) i.d=false:=by rw [HH.out];exact hr
               simp [h9]
             have HPF:=Lh hpf
             clear hpf hr
             go_wp2
             go_ret
             exact ⟨ret_int (by rw [HPF.out];rfl),HB3.out.trans (HB6.out.mono (by have:=HB3.out.size;omega))⟩
           | true =>
             have HR:=Lh hr
             clear hr
             go_wp2_with fail
             refine (HHAS.out 1 w6).mono ?_
             rintro e w7 ⟨rfl,hb7⟩
             rw [HH.out]
             have HB7:=Lh (HB6.out.trans (hb7.mono HB6.out.size))
             clear hb7
             go_wp2
             go_roundw
             case rel=>have h1:=HNE.out;have h2:=HQ.out;have h3:hasOk (hasB f.is 1) i.d=true:=(by rw [HH.out];exact HR.out);exact ⟨q+1,0+1,by omega,by omega,rfl,HB7.out,by first | exact fun _=>h3 | exact fun _=>h1.1 (by omega),by first | exact fun _=>h3 | exact fun _=>h1.2.1 (by omega) | (intro h4;omega),by first | exact fun _=>h3 | (intro h4;omega)⟩
             case measure=>simp [intOf]
         | false =>
           have HH:=Lh hh
           clear hh
           go_wp2_with fail
           refine (HHAS.out 1 w6).mono ?_
           rintro e w7 ⟨rfl,hb7⟩
           rw [HH.out]
           have s1:=(hb7.cell (p:=⟨wr.heap.size,1,none⟩) l6).trans r1
           have HB7:=Lh (HB6.out.trans (hb7.mono HB6.out.size))
           clear hb7
           by_cases hz:i.d=0
           · have hz2:(i.d != 0)=false:=by simpa using hz
             have HZ:=Lh hz
             clear hz
             go_wp2
             go_roundw
             case rel=>have h1:=HNE.out;have h2:=HQ.out;have h3:hasOk (hasB f.is 1) i.d=true:=(by rw [HH.out];simpa [hasOk] using HZ.out);exact ⟨q+1,0+1,by omega,by omega,rfl,HB7.out,by first | exact fun _=>h3 | exact fun _=>h1.1 (by omega),by first | exact fun _=>h3 | exact fun _=>h1.2.1 (by omega) | (intro h4;omega),by first | exact fun _=>h3 | (intro h4;omega)⟩
             case measure=>simp [intOf]
           · have hz2:(i.d != 0)=true:=by simpa using hz
             have hpf:pb=false:=by
               rw [HP.out]
               have h9:hasOk (hasB f.is 1) i.d=false:=by rw [HH.out];simpa [hasOk] using hz
               simp [h9]
             have HPF:=Lh hpf
             clear hpf hz
             go_wp2
             go_ret
             exact ⟨ret_int (by rw [HPF.out];rfl),HB3.out.trans (HB7.out.mono (by have:=HB3.out.size;omega))⟩
       · have HQ:=Lh hy
         have hi:=HI1.out
         clear hy hq
         obtain ⟨W5,hW5,hb5,hs5,hn5,_⟩:=boxed wr #[.int .i64 2,.int .i64 i.s] 177
         have HW5:=Lh hW5
         have HB5:=Lh (HBL.out.trans (hb5.mono HBL.out.size))
         have p1:W5.cell? ⟨wr.heap.size,1,none⟩=some (.int .i64 i.s):=hn5 1
         have p0:W5.cell? ⟨wr.heap.size,0,none⟩=some (.int .i64 2):=hn5 0
         have l5:wr.heap.size < W5.heap.size:=by omega
         clear hW5 hb5 hs5 hn5
         go_wp2_with fail
         rw [←HW5.out]
         refine (HHAS.out 2 W5).mono ?_
         rintro e w6 ⟨rfl,hb6⟩
         have r1:=(hb6.cell (p:=⟨wr.heap.size,1,none⟩) l5).trans p1
         have r0:=(hb6.cell (p:=⟨wr.heap.size,0,none⟩) l5).trans p0
         have l6:wr.heap.size < w6.heap.size:=Nat.lt_of_lt_of_le l5 hb6.size
         have hb6':=HB5.out.trans (hb6.mono HB5.out.size)
         replace k0:=(KEEP.out w6 hb6').2 0 _ rfl
         replace k1:=(KEEP.out w6 hb6').2 1 _ rfl
         replace k2:=(KEEP.out w6 hb6').2 2 _ rfl
         replace k3:=(KEEP.out w6 hb6').2 3 _ rfl
         have HB6:=Lh hb6'
         clear hb6 hb6' p0 p1 hi l5
         cases hh:hasB f.is 2 with
         | true =>
           have HH:=Lh hh
           clear hh
           go_wp2_with fail
           refine (HREG.out i.s w6).mono ?_
           rintro e w7 ⟨rfl,rfl⟩
           cases hr:regOk i.s with
           | false =>
             have hpf:pb=false:=by
               rw [HP.out]
               have h9:hasOk (hasB f.is 2) i.s=false:=by rw [HH.out];exact hr
               simp [h9]
             have HPF:=Lh hpf
             clear hpf hr
             go_wp2
             go_ret
             exact ⟨ret_int (by rw [HPF.out];rfl),HB3.out.trans (HB6.out.mono (by have:=HB3.out.size;omega))⟩
           | true =>
             have HR:=Lh hr
             clear hr
             go_wp2_with fail
             refine (HHAS.out 2 w6).mono ?_
             rintro e w7 ⟨rfl,hb7⟩
             rw [HH.out]
             have HB7:=Lh (HB6.out.trans (hb7.mono HB6.out.size))
             clear hb7
             go_wp2
             go_roundw
             case rel=>have h1:=HNE.out;have h2:=HQ.out;have h3:hasOk (hasB f.is 2) i.s=true:=(by rw [HH.out];exact HR.out);exact ⟨q+1,1+1,by omega,by omega,rfl,HB7.out,by first | exact fun _=>h3 | exact fun _=>h1.1 (by omega),by first | exact fun _=>h3 | exact fun _=>h1.2.1 (by omega) | (intro h4;omega),by first | exact fun _=>h3 | (intro h4;omega)⟩
             case measure=>simp [intOf]
         | false =>
           have HH:=Lh hh
           clear hh
           go_wp2_with fail
           refine (HHAS.out 2 w6).mono ?_
           rintro e w7 ⟨rfl,hb7⟩
           rw [HH.out]
           have s1:=(hb7.cell (p:=⟨wr.heap.size,1,none⟩) l6).trans r1
           have HB7:=Lh (HB6.out.trans (hb7.mono HB6.out.size))
           clear hb7
           by_cases hz:i.s=0
           · have hz2:(i.s != 0)=false:=by simpa using hz
             have HZ:=Lh hz
             clear hz
             go_wp2
             go_roundw
             case rel=>have h1:=HNE.out;have h2:=HQ.out;have h3:hasOk (hasB f.is 2) i.s=true:=(by rw [HH.out];simpa [hasOk] using HZ.out);exact ⟨q+1,1+1,by omega,by omega,rfl,HB7.out,by first | exact fun _=>h3 | exact fun _=>h1.1 (by omega),by first | exact fun _=>h3 | exact fun _=>h1.2.1 (by omega) | (intro h4;omega),by first | exact fun _=>h3 | (intro h4;omega)⟩
             case measure=>simp [intOf]
           · have hz2:(i.s != 0)=true:=by simpa using hz
             have hpf:pb=false:=by
               rw [HP.out]
               have h9:hasOk (hasB f.is 2) i.s=false:=by rw [HH.out];simpa [hasOk] using hz
               simp [h9]
             have HPF:=Lh hpf
             clear hpf hz
             go_wp2
             go_ret
             exact ⟨ret_int (by rw [HPF.out];rfl),HB3.out.trans (HB7.out.mono (by have:=HB3.out.size;omega))⟩
       · have HQ:=Lh hy
         have hi:=HI2.out
         clear hy hq
         obtain ⟨W5,hW5,hb5,hs5,hn5,_⟩:=boxed wr #[.int .i64 4,.int .i64 i.t] 177
         have HW5:=Lh hW5
         have HB5:=Lh (HBL.out.trans (hb5.mono HBL.out.size))
         have p1:W5.cell? ⟨wr.heap.size,1,none⟩=some (.int .i64 i.t):=hn5 1
         have p0:W5.cell? ⟨wr.heap.size,0,none⟩=some (.int .i64 4):=hn5 0
         have l5:wr.heap.size < W5.heap.size:=by omega
         clear hW5 hb5 hs5 hn5
         go_wp2_with fail
         rw [←HW5.out]
         refine (HHAS.out 4 W5).mono ?_
         rintro e w6 ⟨rfl,hb6⟩
         have r1:=(hb6.cell (p:=⟨wr.heap.size,1,none⟩) l5).trans p1
         have r0:=(hb6.cell (p:=⟨wr.heap.size,0,none⟩) l5).trans p0
         have l6:wr.heap.size < w6.heap.size:=Nat.lt_of_lt_of_le l5 hb6.size
         have hb6':=HB5.out.trans (hb6.mono HB5.out.size)
         replace k0:=(KEEP.out w6 hb6').2 0 _ rfl
         replace k1:=(KEEP.out w6 hb6').2 1 _ rfl
         replace k2:=(KEEP.out w6 hb6').2 2 _ rfl
         replace k3:=(KEEP.out w6 hb6').2 3 _ rfl
         have HB6:=Lh hb6'
         clear hb6 hb6' p0 p1 hi l5
         cases hh:hasB f.is 4 with
         | true =>
           have HH:=Lh hh
           clear hh
           go_wp2_with fail
           refine (HREG.out i.t w6).mono ?_
           rintro e w7 ⟨rfl,rfl⟩
           cases hr:regOk i.t with
           | false =>
             have hpf:pb=false:=by
               rw [HP.out]
               have h9:hasOk (hasB f.is 4) i.t=false:=by rw [HH.out];exact hr
               simp [h9]
             have HPF:=Lh hpf
             clear hpf hr
             go_wp2
             go_ret
             exact ⟨ret_int (by rw [HPF.out];rfl),HB3.out.trans (HB6.out.mono (by have:=HB3.out.size;omega))⟩
           | true =>
             have HR:=Lh hr
             clear hr
             go_wp2_with fail
             refine (HHAS.out 4 w6).mono ?_
             rintro e w7 ⟨rfl,hb7⟩
             rw [HH.out]
             have HB7:=Lh (HB6.out.trans (hb7.mono HB6.out.size))
             clear hb7
             go_wp2
             go_roundw
             case rel=>have h1:=HNE.out;have h2:=HQ.out;have h3:hasOk (hasB f.is 4) i.t=true:=(by rw [HH.out];exact HR.out);exact ⟨q+1,2+1,by omega,by omega,rfl,HB7.out,by first | exact fun _=>h3 | exact fun _=>h1.1 (by omega),by first | exact fun _=>h3 | exact fun _=>h1.2.1 (by omega) | (intro h4;omega),by first | exact fun _=>h3 | (intro h4;omega)⟩
             case measure=>simp [intOf]
         | false =>
           have HH:=Lh hh
           clear hh
           go_wp2_with fail
           refine (HHAS.out 4 w6).mono ?_
           rintro e w7 ⟨rfl,hb7⟩
           rw [HH.out]
           have s1:=(hb7.cell (p:=⟨wr.heap.size,1,none⟩) l6).trans r1
           have HB7:=Lh (HB6.out.trans (hb7.mono HB6.out.size))
           clear hb7
           by_cases hz:i.t=0
           · have hz2:(i.t != 0)=false:=by simpa using hz
             have HZ:=Lh hz
             clear hz
             go_wp2
             go_roundw
             case rel=>have h1:=HNE.out;have h2:=HQ.out;have h3:hasOk (hasB f.is 4) i.t=true:=(by rw [HH.out];simpa [hasOk] using HZ.out);exact ⟨q+1,2+1,by omega,by omega,rfl,HB7.out,by first | exact fun _=>h3 | exact fun _=>h1.1 (by omega),by first | exact fun _=>h3 | exact fun _=>h1.2.1 (by omega) | (intro h4;omega),by first | exact fun _=>h3 | (intro h4;omega)⟩
             case measure=>simp [intOf]
           · have hz2:(i.t != 0)=true:=by simpa using hz
             have hpf:pb=false:=by
               rw [HP.out]
               have h9:hasOk (hasB f.is 4) i.t=false:=by rw [HH.out];simpa [hasOk] using hz
               simp [h9]
             have HPF:=Lh hpf
             clear hpf hz
             go_wp2
             go_ret
             exact ⟨ret_int (by rw [HPF.out];rfl),HB3.out.trans (HB7.out.mono (by have:=HB3.out.size;omega))⟩
       · have HQ:=Lh hy
         clear hy hq
         go_wp2_with fail
         refine (HHAS.out 8 wr).mono ?_
         rintro e w6 ⟨rfl,hb6⟩
         have hb6':=HBL.out.trans (hb6.mono HBL.out.size)
         replace k0:=(KEEP.out w6 hb6').2 0 _ rfl
         replace k1:=(KEEP.out w6 hb6').2 1 _ rfl
         replace k2:=(KEEP.out w6 hb6').2 2 _ rfl
         replace k3:=(KEEP.out w6 hb6').2 3 _ rfl
         have g1:=(KEEP.out w6 hb6').1 1 _ rfl
         have g2:=(KEEP.out w6 hb6').1 2 _ rfl
         have g4:=(KEEP.out w6 hb6').1 4 _ rfl
         have g5:=(KEEP.out w6 hb6').1 5 _ rfl
         have g6:=(KEEP.out w6 hb6').1 6 _ rfl
         have g7:=(KEEP.out w6 hb6').1 7 _ rfl
         have HB6:=Lh hb6'
         clear hb6 hb6'
         cases hh:hasB f.is 8 with
         | true =>
           have HH:=Lh hh
           clear hh
           go_wp2_with fail
           refine (HPL.out w6).mono ?_
           rintro e w7 ⟨rfl,hb7⟩
           have hb7':=HB6.out.trans (hb7.mono HB6.out.size)
           replace k0:=(KEEP.out w7 hb7').2 0 _ rfl
           replace k1:=(KEEP.out w7 hb7').2 1 _ rfl
           replace k2:=(KEEP.out w7 hb7').2 2 _ rfl
           replace k3:=(KEEP.out w7 hb7').2 3 _ rfl
           have g1:=(KEEP.out w7 hb7').1 1 _ rfl
           have g2:=(KEEP.out w7 hb7').1 2 _ rfl
           have g4:=(KEEP.out w7 hb7').1 4 _ rfl
           have g5:=(KEEP.out w7 hb7').1 5 _ rfl
           have g6:=(KEEP.out w7 hb7').1 6 _ rfl
           have g7:=(KEEP.out w7 hb7').1 7 _ rfl
           have HB7:=Lh hb7'
           clear hb7 hb7'
           cases hp:placeB i with
           | false =>
             have HX2:=Lh hp
             clear hp
             have hpf:pb=false:=by
               rw [HP.out]
               rw [HH.out,HX2.out];simp
             have HPF:=Lh hpf
             clear hpf
             go_wp2
             go_ret
             exact ⟨ret_int (by rw [HPF.out];rfl),HB3.out.trans (HB7.out.mono (by have:=HB3.out.size;omega))⟩
           | true =>
             have HX2:=Lh hp
             clear hp
             go_wp2_with fail
             refine (HHAS.out 8 w7).mono ?_
             rintro e w8 ⟨rfl,hb8⟩
             rw [HH.out]
             have hb8':=HB7.out.trans (hb8.mono HB7.out.size)
             replace k0:=(KEEP.out w8 hb8').2 0 _ rfl
             replace k1:=(KEEP.out w8 hb8').2 1 _ rfl
             replace k2:=(KEEP.out w8 hb8').2 2 _ rfl
             replace k3:=(KEEP.out w8 hb8').2 3 _ rfl
             have g1:=(KEEP.out w8 hb8').1 1 _ rfl
             have g2:=(KEEP.out w8 hb8').1 2 _ rfl
             have g4:=(KEEP.out w8 hb8').1 4 _ rfl
             have g5:=(KEEP.out w8 hb8').1 5 _ rfl
             have g6:=(KEEP.out w8 hb8').1 6 _ rfl
             have g7:=(KEEP.out w8 hb8').1 7 _ rfl
             have HB8:=Lh hb8'
             clear hb8 hb8'
             have HPM:=Lh (show (if hasB f.is 8=true then placeB i else noPlace i)=true by rw [HH.out];exact HX2.out)
             go_wp2_with fail
             refine (HHAS.out 4 w8).mono ?_
             rintro e w9 ⟨rfl,hb9⟩
             have hb9':=HB8.out.trans (hb9.mono HB8.out.size)
             have g1:=(KEEP.out w9 hb9').1 1 _ rfl
             have g2:=(KEEP.out w9 hb9').1 2 _ rfl
             have HB9:=Lh hb9'
             clear hb9 hb9' g4 g5 g6 g7
             have good:(hasB f.is 4 && i.d == i.s)=false→pb=true:=fun h9=>by
               have h1:=HNE.out
               have h2:=HQ.out
               rw [HP.out,HX.out,HNB.out,h1.1 (by omega),h1.2.1 (by omega),h1.2.2 (by omega),HPM.out,h9];rfl
             have bad:(hasB f.is 4 && i.d == i.s)=true→pb=false:=fun h9=>by
               rw [HP.out,h9];simp
             have GOOD:=Lh good
             have BAD:=Lh bad
             clear good bad
             cases h4:hasB f.is 4 with
             | false =>
               rw [h4] at GOOD BAD
               have HPF:=Lh (GOOD.out (by simp))
               clear h4
               go_wp2
               go_ret
               exact ⟨ret_int (by rw [HPF.out];rfl),HB3.out.trans (HB9.out.mono (by have:=HB3.out.size;omega))⟩
             | true =>
               rw [h4] at GOOD BAD
               clear h4
               cases hds:(i.d == i.s) with
               | false =>
                 have HPF:=Lh (GOOD.out (by rw [hds];rfl))
                 go_wp2
                 go_ret
                 exact ⟨ret_int (by rw [HPF.out];rfl),HB3.out.trans (HB9.out.mono (by have:=HB3.out.size;omega))⟩
               | true =>
                 have HPF:=Lh (BAD.out (by rw [hds];rfl))
                 go_wp2
                 go_ret
                 exact ⟨ret_int (by rw [HPF.out];rfl),HB3.out.trans (HB9.out.mono (by have:=HB3.out.size;omega))⟩
         | false =>
           have HH:=Lh hh
           clear hh
           go_wp2_with fail
           refine (HHAS.out 8 w6).mono ?_
           rintro e w7 ⟨rfl,hb7⟩
           rw [HH.out]
           have hb7':=HB6.out.trans (hb7.mono HB6.out.size)
           replace k0:=(KEEP.out w7 hb7').2 0 _ rfl
           replace k1:=(KEEP.out w7 hb7').2 1 _ rfl
           replace k2:=(KEEP.out w7 hb7').2 2 _ rfl
           replace k3:=(KEEP.out w7 hb7').2 3 _ rfl
           have g1:=(KEEP.out w7 hb7').1 1 _ rfl
           have g2:=(KEEP.out w7 hb7').1 2 _ rfl
           have g4:=(KEEP.out w7 hb7').1 4 _ rfl
           have g5:=(KEEP.out w7 hb7').1 5 _ rfl
           have g6:=(KEEP.out w7 hb7').1 6 _ rfl
           have g7:=(KEEP.out w7 hb7').1 7 _ rfl
           have HB8:=Lh hb7'
           clear hb7 hb7'
           obtain ⟨w8,rfl⟩:∃ w8:World,w8=w7:=⟨_,rfl⟩
           cases hp:noPlace i with
           | true =>
             have hq:=hp
             simp only [noPlace,Bool.and_eq_true,decide_eq_true_eq] at hq
             obtain ⟨⟨⟨q1,q2⟩,q3⟩,q4⟩:=hq
             have HPM:=Lh (show (if hasB f.is 8=true then placeB i else noPlace i)=true by rw [HH.out];exact hp)
             rw [q1] at g4
             rw [q2] at g5
             rw [q3] at g6
             rw [q4] at g7
             clear hp q1 q2 q3 q4
             go_wp2_with fail
             refine (HHAS.out 4 w8).mono ?_
             rintro e w9 ⟨rfl,hb9⟩
             have hb9':=HB8.out.trans (hb9.mono HB8.out.size)
             have g1:=(KEEP.out w9 hb9').1 1 _ rfl
             have g2:=(KEEP.out w9 hb9').1 2 _ rfl
             have HB9:=Lh hb9'
             clear hb9 hb9' g4 g5 g6 g7
             have good:(hasB f.is 4 && i.d == i.s)=false→pb=true:=fun h9=>by
               have h1:=HNE.out
               have h2:=HQ.out
               rw [HP.out,HX.out,HNB.out,h1.1 (by omega),h1.2.1 (by omega),h1.2.2 (by omega),HPM.out,h9];rfl
             have bad:(hasB f.is 4 && i.d == i.s)=true→pb=false:=fun h9=>by
               rw [HP.out,h9];simp
             have GOOD:=Lh good
             have BAD:=Lh bad
             clear good bad
             cases h4:hasB f.is 4 with
             | false =>
               rw [h4] at GOOD BAD
               have HPF:=Lh (GOOD.out (by simp))
               clear h4
               go_wp2
               go_ret
               exact ⟨ret_int (by rw [HPF.out];rfl),HB3.out.trans (HB9.out.mono (by have:=HB3.out.size;omega))⟩
             | true =>
               rw [h4] at GOOD BAD
               clear h4
               cases hds:(i.d == i.s) with
               | false =>
                 have HPF:=Lh (GOOD.out (by rw [hds];rfl))
                 go_wp2
                 go_ret
                 exact ⟨ret_int (by rw [HPF.out];rfl),HB3.out.trans (HB9.out.mono (by have:=HB3.out.size;omega))⟩
               | true =>
                 have HPF:=Lh (BAD.out (by rw [hds];rfl))
                 go_wp2
                 go_ret
                 exact ⟨ret_int (by rw [HPF.out];rfl),HB3.out.trans (HB9.out.mono (by have:=HB3.out.size;omega))⟩
           | false =>
             have HX2:=Lh hp
             have hpf:pb=false:=by rw [HP.out,HH.out];simp [hp]
             have HPF:=Lh hpf
             clear hpf hp
             go_wp2_with fail
             all_goals first
               | (exfalso;have h9:=HX2.out;revert h9;unfold noPlace;simp only [‹i.base=0›,‹i.index=0›,‹i.scale=0›,‹i.disp=0›];decide)
               | (go_ret;exact ⟨ret_int (by rw [HPF.out];rfl),HB3.out.trans (HB8.out.mono (by have:=HB3.out.size;omega))⟩)
end Go.Proofs.YtocndimihokcmaaGreat
namespace Go.Proofs.YtocndimihokcmaaGreat
open Go.RowKit
set_option maxRecDepth 100000
variable {w:World} {base b:Nat} {x:Stp} {evs:List Ev}
def ValSt (w:World) (base b:Nat) (x:Stp) (evs:List Ev) (p:St×Nat) (e:Ending) (w':World):Prop:=e=.returned (.int .u64 (p.2:Nat))∧Below base w w'∧Run w' base b { x with st:=p.1 } evs
theorem ValSt.here (h:Run w base b x evs) (r:Nat):ValSt w base b x evs (x.st,r) (.returned (.int .u64 r)) w:=⟨rfl,Below.refl _ _,h⟩
theorem ite_lt {c:Bool} {a b n:Nat} (ha:a < n) (hb:b < n):(if c then a else b) < n:=by cases c <;> assumption
theorem val_and (d bb:Nat) (hd:d < 18446744073709551616) (hb:bb < 18446744073709551616):Go.bits .and .u64 (d:Int) (bb:Int)=((d &&& bb:Nat):Int):=bits_and_u64_nat d bb hd hb
theorem val_or (d bb:Nat) (hd:d < 18446744073709551616) (hb:bb < 18446744073709551616):Go.bits .or .u64 (d:Int) (bb:Int)=((d ||| bb:Nat):Int):=bits_or_u64_nat d bb hd hb
theorem val_xor (d bb:Nat) (hd:d < 18446744073709551616) (hb:bb < 18446744073709551616):Go.bits .xor .u64 (d:Int) (bb:Int)=((d ^^^ bb:Nat):Int):=bits_xor_u64_nat d bb hd hb
set_option linter.unusedVariables false in
theorem val1 (h:Run w base b x evs) (d bb:Nat) (hd:d < 18446744073709551616) (hb:bb < 18446744073709551616) :
   Calls Tryz.prog 146 #[.pointer (some ⟨b,0,none⟩),.int .u64 d,.int .u64 bb] w (ValSt w base b x evs (x.st,bb)):=by
 have H:=Lh h
 clear h
 go_enter Tryz.func146,Tryz.ntmps146
 go_wp2
 go_ret
 exact ValSt.here H.out bb
set_option linter.unusedVariables false in
theorem val2 (h:Run w base b x evs) (d bb:Nat) (hd:d < 18446744073709551616) (hb:bb < 18446744073709551616) :
   Calls Tryz.prog 147 #[.pointer (some ⟨b,0,none⟩),.int .u64 d,.int .u64 bb] w (ValSt w base b x evs (valueF.sumS x.st d bb false)):=by
 have HC:=Lh (sum_any h d bb false hd hb)
 obtain ⟨_,c17,c18,c19,_⟩:=h.cells
 have e1:=val_and d bb hd hb
 have e2:=val_or d bb hd hb
 have e3:=val_xor d bb hd hb
 clear h
 go_enter Tryz.func147,Tryz.ntmps147
 go_wp2_with fail
 refine HC.out.mono ?_
 rintro e w1 ⟨rfl,hb1,hr1⟩
 have HR:=Lh (show ValSt w base b x evs (valueF.sumS x.st d bb false) (.returned (.int .u64 ((valueF.sumS x.st d bb false:St×Nat).2:Nat))) w1 from ⟨rfl,hb1,hr1⟩)
 clear hb1 hr1 e1 e2 e3
 go_wp2
 go_ret
 exact HR.out
set_option linter.unusedVariables false in
theorem val4 (h:Run w base b x evs) (d bb:Nat) (hd:d < 18446744073709551616) (hb:bb < 18446744073709551616) :
   Calls Tryz.prog 150 #[.pointer (some ⟨b,0,none⟩),.int .u64 d,.int .u64 bb] w (ValSt w base b x evs (valueF.restS x.st d bb false)):=by
 have HC:=Lh (rest_any h d bb false hd hb)
 obtain ⟨_,c17,c18,c19,_⟩:=h.cells
 have e1:=val_and d bb hd hb
 have e2:=val_or d bb hd hb
 have e3:=val_xor d bb hd hb
 clear h
 go_enter Tryz.func150,Tryz.ntmps150
 go_wp2_with fail
 refine HC.out.mono ?_
 rintro e w1 ⟨rfl,hb1,hr1⟩
 have HR:=Lh (show ValSt w base b x evs (valueF.restS x.st d bb false) (.returned (.int .u64 ((valueF.restS x.st d bb false:St×Nat).2:Nat))) w1 from ⟨rfl,hb1,hr1⟩)
 clear hb1 hr1 e1 e2 e3
 go_wp2
 go_ret
 exact HR.out
set_option linter.unusedVariables false in
theorem val6 (h:Run w base b x evs) (d bb:Nat) (hd:d < 18446744073709551616) (hb:bb < 18446744073709551616) :
   Calls Tryz.prog 153 #[.pointer (some ⟨b,0,none⟩),.int .u64 d,.int .u64 bb] w (ValSt w base b x evs (valueF.plainS x.st (d &&& bb))):=by
 have HC:=Lh (plain_any h (d &&& bb))
 obtain ⟨_,c17,c18,c19,_⟩:=h.cells
 have e1:=val_and d bb hd hb
 have e2:=val_or d bb hd hb
 have e3:=val_xor d bb hd hb
 clear h
 go_enter Tryz.func153,Tryz.ntmps153
 go_wp2_with fail
 refine HC.out.mono ?_
 rintro e w1 ⟨rfl,hb1,hr1⟩
 have HR:=Lh (show ValSt w base b x evs (valueF.plainS x.st (d &&& bb)) (.returned (.int .u64 ((valueF.plainS x.st (d &&& bb):St×Nat).2:Nat))) w1 from ⟨rfl,hb1,hr1⟩)
 clear hb1 hr1 e1 e2 e3
 go_wp2
 go_ret
 exact HR.out
set_option linter.unusedVariables false in
theorem val7 (h:Run w base b x evs) (d bb:Nat) (hd:d < 18446744073709551616) (hb:bb < 18446744073709551616) :
   Calls Tryz.prog 155 #[.pointer (some ⟨b,0,none⟩),.int .u64 d,.int .u64 bb] w (ValSt w base b x evs (valueF.plainS x.st (d ||| bb))):=by
 have HC:=Lh (plain_any h (d ||| bb))
 obtain ⟨_,c17,c18,c19,_⟩:=h.cells
 have e1:=val_and d bb hd hb
 have e2:=val_or d bb hd hb
 have e3:=val_xor d bb hd hb
 clear h
 go_enter Tryz.func155,Tryz.ntmps155
 go_wp2_with fail
 refine HC.out.mono ?_
 rintro e w1 ⟨rfl,hb1,hr1⟩
 have HR:=Lh (show ValSt w base b x evs (valueF.plainS x.st (d ||| bb)) (.returned (.int .u64 ((valueF.plainS x.st (d ||| bb):St×Nat).2:Nat))) w1 from ⟨rfl,hb1,hr1⟩)
 clear hb1 hr1 e1 e2 e3
 go_wp2
 go_ret
 exact HR.out
set_option linter.unusedVariables false in
theorem val8 (h:Run w base b x evs) (d bb:Nat) (hd:d < 18446744073709551616) (hb:bb < 18446744073709551616) :
   Calls Tryz.prog 156 #[.pointer (some ⟨b,0,none⟩),.int .u64 d,.int .u64 bb] w (ValSt w base b x evs (valueF.plainS x.st (d ^^^ bb))):=by
 have HC:=Lh (plain_any h (d ^^^ bb))
 obtain ⟨_,c17,c18,c19,_⟩:=h.cells
 have e1:=val_and d bb hd hb
 have e2:=val_or d bb hd hb
 have e3:=val_xor d bb hd hb
 clear h
 go_enter Tryz.func156,Tryz.ntmps156
 go_wp2_with fail
 refine HC.out.mono ?_
 rintro e w1 ⟨rfl,hb1,hr1⟩
 have HR:=Lh (show ValSt w base b x evs (valueF.plainS x.st (d ^^^ bb)) (.returned (.int .u64 ((valueF.plainS x.st (d ^^^ bb):St×Nat).2:Nat))) w1 from ⟨rfl,hb1,hr1⟩)
 clear hb1 hr1 e1 e2 e3
 go_wp2
 go_ret
 exact HR.out
set_option linter.unusedVariables false in
theorem val9 (h:Run w base b x evs) (d bb:Nat) (hd:d < 18446744073709551616) (hb:bb < 18446744073709551616) :
   Calls Tryz.prog 157 #[.pointer (some ⟨b,0,none⟩),.int .u64 d,.int .u64 bb] w (ValSt w base b x evs (valueF.restS x.st 0 d false)):=by
 have HC:=Lh (rest_any h 0 d false (by decide) hd)
 obtain ⟨_,c17,c18,c19,_⟩:=h.cells
 have e1:=val_and d bb hd hb
 have e2:=val_or d bb hd hb
 have e3:=val_xor d bb hd hb
 clear h
 go_enter Tryz.func157,Tryz.ntmps157
 go_wp2_with fail
 refine HC.out.mono ?_
 rintro e w1 ⟨rfl,hb1,hr1⟩
 have HR:=Lh (show ValSt w base b x evs (valueF.restS x.st 0 d false) (.returned (.int .u64 ((valueF.restS x.st 0 d false:St×Nat).2:Nat))) w1 from ⟨rfl,hb1,hr1⟩)
 clear hb1 hr1 e1 e2 e3
 go_wp2
 go_ret
 exact HR.out
set_option linter.unusedVariables false in
theorem val3 (h:Run w base b x evs) (d bb:Nat) (hd:d < 18446744073709551616) (hb:bb < 18446744073709551616) :
   Calls Tryz.prog 149 #[.pointer (some ⟨b,0,none⟩),.int .u64 d,.int .u64 bb] w (ValSt w base b x evs (valueF.sumS x.st d bb x.st.cf)):=by
 have HC:=Lh (sum_any h d bb x.st.cf hd hb)
 obtain ⟨_,c17,c18,c19,_⟩:=h.cells
 have e1:=val_and d bb hd hb
 have e2:=val_or d bb hd hb
 have e3:=val_xor d bb hd hb
 clear h
 go_enter Tryz.func149,Tryz.ntmps149
 go_wp2_with fail
 refine HC.out.mono ?_
 rintro e w1 ⟨rfl,hb1,hr1⟩
 have HR:=Lh (show ValSt w base b x evs (valueF.sumS x.st d bb x.st.cf) (.returned (.int .u64 ((valueF.sumS x.st d bb x.st.cf:St×Nat).2:Nat))) w1 from ⟨rfl,hb1,hr1⟩)
 clear hb1 hr1 e1 e2 e3
 go_wp2
 go_ret
 exact HR.out
set_option linter.unusedVariables false in
theorem val5 (h:Run w base b x evs) (d bb:Nat) (hd:d < 18446744073709551616) (hb:bb < 18446744073709551616) :
   Calls Tryz.prog 152 #[.pointer (some ⟨b,0,none⟩),.int .u64 d,.int .u64 bb] w (ValSt w base b x evs (valueF.restS x.st d bb x.st.cf)):=by
 have HC:=Lh (rest_any h d bb x.st.cf hd hb)
 obtain ⟨_,c17,c18,c19,_⟩:=h.cells
 have e1:=val_and d bb hd hb
 have e2:=val_or d bb hd hb
 have e3:=val_xor d bb hd hb
 clear h
 go_enter Tryz.func152,Tryz.ntmps152
 go_wp2_with fail
 refine HC.out.mono ?_
 rintro e w1 ⟨rfl,hb1,hr1⟩
 have HR:=Lh (show ValSt w base b x evs (valueF.restS x.st d bb x.st.cf) (.returned (.int .u64 ((valueF.restS x.st d bb x.st.cf:St×Nat).2:Nat))) w1 from ⟨rfl,hb1,hr1⟩)
 clear hb1 hr1 e1 e2 e3
 go_wp2
 go_ret
 exact HR.out
set_option linter.unusedVariables false in
theorem val13 (h:Run w base b x evs) (d bb:Nat) (hd:d < 18446744073709551616) (hb:bb < 18446744073709551616) :
   Calls Tryz.prog 162 #[.pointer (some ⟨b,0,none⟩),.int .u64 d,.int .u64 bb] w (ValSt w base b x evs (({ x.st with cf:=(addF d bb x.st.cf).2 },(addF d bb x.st.cf).1))):=by
 have HC:=Lh (chainC_any h d bb hd hb)
 obtain ⟨_,c17,c18,c19,_⟩:=h.cells
 have e1:=val_and d bb hd hb
 have e2:=val_or d bb hd hb
 have e3:=val_xor d bb hd hb
 clear h
 go_enter Tryz.func162,Tryz.ntmps162
 go_wp2_with fail
 refine HC.out.mono ?_
 rintro e w1 ⟨rfl,hb1,hr1⟩
 have HR:=Lh (show ValSt w base b x evs (({ x.st with cf:=(addF d bb x.st.cf).2 },(addF d bb x.st.cf).1)) (.returned (.int .u64 ((({ x.st with cf:=(addF d bb x.st.cf).2 },(addF d bb x.st.cf).1):St×Nat).2:Nat))) w1 from ⟨rfl,hb1,hr1⟩)
 clear hb1 hr1 e1 e2 e3
 go_wp2
 go_ret
 exact HR.out
set_option linter.unusedVariables false in
theorem val14 (h:Run w base b x evs) (d bb:Nat) (hd:d < 18446744073709551616) (hb:bb < 18446744073709551616) :
   Calls Tryz.prog 164 #[.pointer (some ⟨b,0,none⟩),.int .u64 d,.int .u64 bb] w (ValSt w base b x evs (({ x.st with of_:=(addF d bb x.st.of_).2 },(addF d bb x.st.of_).1))):=by
 have HC:=Lh (chainO_any h d bb hd hb)
 obtain ⟨_,c17,c18,c19,_⟩:=h.cells
 have e1:=val_and d bb hd hb
 have e2:=val_or d bb hd hb
 have e3:=val_xor d bb hd hb
 clear h
 go_enter Tryz.func164,Tryz.ntmps164
 go_wp2_with fail
 refine HC.out.mono ?_
 rintro e w1 ⟨rfl,hb1,hr1⟩
 have HR:=Lh (show ValSt w base b x evs (({ x.st with of_:=(addF d bb x.st.of_).2 },(addF d bb x.st.of_).1)) (.returned (.int .u64 ((({ x.st with of_:=(addF d bb x.st.of_).2 },(addF d bb x.st.of_).1):St×Nat).2:Nat))) w1 from ⟨rfl,hb1,hr1⟩)
 clear hb1 hr1 e1 e2 e3
 go_wp2
 go_ret
 exact HR.out
set_option linter.unusedVariables false in
theorem val10 (h:Run w base b x evs) (d bb:Nat) (hd:d < 18446744073709551616) (hb:bb < 18446744073709551616) :
   Calls Tryz.prog 158 #[.pointer (some ⟨b,0,none⟩),.int .u64 d,.int .u64 bb] w (ValSt w base b x evs (x.st,18446744073709551615 - d)):=by
 have H:=Lh h
 have hx:Go.bits .xor .u64 IntKind.u64.max (d:Int)=((18446744073709551615 - d:Nat):Int):=by
   have h1:=bits_xor_u64_nat 18446744073709551615 d (by decide) hd
   rw [show ((18446744073709551615:Nat):Int)=IntKind.u64.max from rfl] at h1
   rw [h1]
   congr 1
   refine Nat.eq_of_testBit_eq fun i=>?_
   have h2:=Nat.testBit_two_pow_sub_succ (n:=64) (x:=d) hd i
   have h3:=Nat.testBit_two_pow_sub_one 64 i
   rw [show (2:Nat) ^ 64 - (d+1)=18446744073709551615 - d by omega] at h2
   rw [show (2:Nat) ^ 64 - 1=18446744073709551615 from rfl] at h3
   rw [Nat.testBit_xor,h2,h3]
   by_cases hi:i < 64
   · simp [hi]
   · have h4:d.testBit i=false:=Nat.testBit_lt_two_pow (Nat.lt_of_lt_of_le hd (Nat.pow_le_pow_right (n:=2) (by decide) (by omega:64≤i)))
     simp [hi,h4]
 have hsg:IntKind.u64.signed=false:=rfl
 clear h
 go_enter Tryz.func158,Tryz.ntmps158
 go_wp2
 go_ret
 exact ValSt.here H.out _
set_option linter.unusedVariables false in
theorem val11 (h:Run w base b x evs) (d bb:Nat) (hd:d < 18446744073709551616) (hb1:1≤bb) (hb2:bb≤63) :
   Calls Tryz.prog 159 #[.pointer (some ⟨b,0,none⟩),.int .u64 d,.int .u64 bb] w (ValSt w base b x evs (valueF.shiftS x.st (d*2 ^ bb % 18446744073709551616) (d / 2 ^ (64 - bb)))):=by
 have hbit:d / 2 ^ (64 - bb) < 18446744073709551616:=Nat.lt_of_le_of_lt (Nat.div_le_self _ _) hd
 have HC:=Lh (shift_any h (d*2 ^ bb % 18446744073709551616) (d / 2 ^ (64 - bb)) hbit)
 have e1:IntKind.u64.wrap ((d:Int)*2 ^ bb)=((d*2 ^ bb % 18446744073709551616:Nat):Int):=by rw [wrapU'];simp
 have e2:(d:Int) / 2 ^ (64 - bb)=((d / 2 ^ (64 - bb):Nat):Int):=by simp
 have e3:(d:Int) / 2 ^ bb=((d / 2 ^ bb:Nat):Int):=by simp
 have e4:(d:Int) / 2 ^ (bb - 1)=((d / 2 ^ (bb - 1):Nat):Int):=by simp
 generalize d*2 ^ bb % 18446744073709551616=q1 at *
 generalize d / 2 ^ (64 - bb)=q2 at *
 generalize d / 2 ^ bb=q3 at *
 generalize d / 2 ^ (bb - 1)=q4 at *
 clear h hbit
 go_enter Tryz.func159,Tryz.ntmps159
 go_wp2_with fail
 refine HC.out.mono ?_
 rintro e w1 ⟨rfl,hb1',hr1⟩
 have HR:=Lh (And.intro hb1' hr1)
 clear hb1' hr1
 go_wp2
 go_ret
 exact ⟨rfl,HR.out.1,HR.out.2⟩
set_option linter.unusedVariables false in
theorem val12 (h:Run w base b x evs) (d bb:Nat) (hd:d < 18446744073709551616) (hb1:1≤bb) (hb2:bb≤63) :
   Calls Tryz.prog 161 #[.pointer (some ⟨b,0,none⟩),.int .u64 d,.int .u64 bb] w (ValSt w base b x evs (valueF.shiftS x.st (d / 2 ^ bb) (d / 2 ^ (bb - 1)))):=by
 have hbit:d / 2 ^ (bb - 1) < 18446744073709551616:=Nat.lt_of_le_of_lt (Nat.div_le_self _ _) hd
 have HC:=Lh (shift_any h (d / 2 ^ bb) (d / 2 ^ (bb - 1)) hbit)
 have e1:IntKind.u64.wrap ((d:Int)*2 ^ bb)=((d*2 ^ bb % 18446744073709551616:Nat):Int):=by rw [wrapU'];simp
 have e2:(d:Int) / 2 ^ (64 - bb)=((d / 2 ^ (64 - bb):Nat):Int):=by simp
 have e3:(d:Int) / 2 ^ bb=((d / 2 ^ bb:Nat):Int):=by simp
 have e4:(d:Int) / 2 ^ (bb - 1)=((d / 2 ^ (bb - 1):Nat):Int):=by simp
 generalize d*2 ^ bb % 18446744073709551616=q1 at *
 generalize d / 2 ^ (64 - bb)=q2 at *
 generalize d / 2 ^ bb=q3 at *
 generalize d / 2 ^ (bb - 1)=q4 at *
 clear h hbit
 go_enter Tryz.func161,Tryz.ntmps161
 go_wp2_with fail
 refine HC.out.mono ?_
 rintro e w1 ⟨rfl,hb1',hr1⟩
 have HR:=Lh (And.intro hb1' hr1)
 clear hb1' hr1
 go_wp2
 go_ret
 exact ⟨rfl,HR.out.1,HR.out.2⟩
set_option linter.unusedVariables false in
theorem val15 (h:Run w base b x evs) (d bb:Nat) (hd:d < 18446744073709551616) (hb:bb < 18446744073709551616) :
   Calls Tryz.prog 165 #[.pointer (some ⟨b,0,none⟩),.int .u64 d,.int .u64 bb] w (ValSt w base b x evs (x.st,if x.st.cf then bb else d)):=by
 have HC:=Lh (pick_any (x.st.cf) bb d w)
 have H:=Lh h
 obtain ⟨_,c17,c18,c19,_⟩:=h.cells
 have HR:=Lh (ValSt.here h (if x.st.cf then bb else d))
 generalize (if x.st.cf then bb else d)=q at *
 clear h
 go_enter Tryz.func165,Tryz.ntmps165
 go_wp2_with fail
 refine HC.out.mono ?_
 rintro e w1 ⟨rfl,rfl⟩
 go_wp2
 go_ret
 exact HR.out
set_option linter.unusedVariables false in
theorem val16 (h:Run w base b x evs) (d bb:Nat) (hd:d < 18446744073709551616) (hb:bb < 18446744073709551616) :
   Calls Tryz.prog 167 #[.pointer (some ⟨b,0,none⟩),.int .u64 d,.int .u64 bb] w (ValSt w base b x evs (x.st,if !x.st.zf then bb else d)):=by
 have HC:=Lh (pick_any (!x.st.zf) bb d w)
 have H:=Lh h
 obtain ⟨_,c17,c18,c19,_⟩:=h.cells
 have HR:=Lh (ValSt.here h (if !x.st.zf then bb else d))
 generalize (if !x.st.zf then bb else d)=q at *
 clear h
 go_enter Tryz.func167,Tryz.ntmps167
 go_wp2_with fail
 refine HC.out.mono ?_
 rintro e w1 ⟨rfl,rfl⟩
 go_wp2
 go_ret
 exact HR.out
theorem val15q (h:Run w base b x evs) (d bb:Nat) (hd:d < 18446744073709551616) (hb:bb < 18446744073709551616) (q:Nat) (hq:q=if x.st.cf then bb else d) :
   Calls Tryz.prog 165 #[.pointer (some ⟨b,0,none⟩),.int .u64 d,.int .u64 bb] w (ValSt w base b x evs (x.st,q)):=by
 subst hq;exact val15 h d bb hd hb
theorem val16q (h:Run w base b x evs) (d bb:Nat) (hd:d < 18446744073709551616) (hb:bb < 18446744073709551616) (q:Nat) (hq:q=if !x.st.zf then bb else d) :
   Calls Tryz.prog 167 #[.pointer (some ⟨b,0,none⟩),.int .u64 d,.int .u64 bb] w (ValSt w base b x evs (x.st,q)):=by
 subst hq;exact val16 h d bb hd hb
end Go.Proofs.YtocndimihokcmaaGreat
