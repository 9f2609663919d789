/- Part 13 of a claim; what it proves stands in its last text. -/
import Derived.Test.YtocndimihokcmaaGreatAm11
import Derived.Test.YtocndimihokcmaaGreatAm12
import Derived.Test.YtocndimihokcmaaGreatAm10
import Derived.Deep.WholeRow
import Derived.Outline
namespace Go.Proofs.YtocndimihokcmaaGreat
open Go.RowKit
set_option maxRecDepth 100000
def takesS (op:Int):Bool:=decide (op=1) || (decide (6≤op) && decide (op≤14)) || decide (op=20) || decide (op=21) || decide (op=26) || decide (op=27)
def keepsD (op:Int):Bool:=decide (op=13) || decide (op=14) || decide (op=18)
def regAt (s:St) (r:Int):Nat:=s.regs.getD r.toNat 0
def overF (s:St) (i:Ins):Option St:=match valueF s i.op (regAt s i.d) (if takesS i.op then regAt s i.s else u64 i.imm) with
 | none=>none
 | some (s',r)=>some (if keepsD i.op then s' else { s' with regs:=s'.regs.set i.d.toNat r })
theorem hasOk_yes {has:Bool} {r:Int} (h:hasOk has r=true) (hh:has=true):∃ D:Nat,r=D∧D < 16:=by
 subst hh
 simp only [hasOk,if_true,regOk,Bool.and_eq_true,decide_eq_true_eq] at h
 exact ⟨r.toNat,by omega,by omega⟩
theorem chk_parts {i:Ins} (h:chkP i=true):(formF i.op).name≠[]∧numB (formF i.op).is i.imm=true∧hasOk (hasB (formF i.op).is 1) i.d=true∧hasOk (hasB (formF i.op).is 2) i.s=true∧hasOk (hasB (formF i.op).is 4) i.t=true∧(hasB (formF i.op).is 4 && i.d == i.s)=false:=by
 rw [chkP,Bool.and_eq_true] at h
 obtain ⟨ha,hb⟩:=h
 rw [Bool.and_eq_true] at ha hb
 obtain ⟨ha,hc⟩:=ha
 rw [Bool.and_eq_true] at ha hc
 obtain ⟨h1,h2⟩:=ha
 obtain ⟨hc,h5⟩:=hc
 rw [Bool.and_eq_true] at hc
 exact ⟨fun e=>(by rw [e] at h1;cases h1),h2,hc.1,hc.2,h5,by have h9:=hb.2;rwa [Bool.not_eq_true'] at h9⟩
theorem chk_range {i:Ins} (h:chkP i=true):1≤i.op∧i.op≤33:=by
 have h1:=(chk_parts h).1
 by_cases hr:1≤i.op∧i.op≤33
 · exact hr
 · exfalso
   apply h1
   rcases (by omega:i.op < 0∨i.op=0∨34≤i.op) with h2 | h2 | h2
   · rw [formF_out _ (.inl h2)];rfl
   · rw [h2];rfl
   · rw [formF_out _ (.inr h2)];rfl
variable {w:World} {base b:Nat} {x:Stp} {evs:List Ev} {F:Nat→Prop} {rs:List Reg}
theorem reg_some (h:StOk x.st) {D:Nat} (hD:D < 16):∃ d,x.st.regs[D]? = some d:=⟨_,List.getElem?_eq_getElem (by rw [h.len];exact hD)⟩
theorem regAt_of {s:St} {r:Int} {D d:Nat} (hr:r=D) (hd:s.regs[D]? = some d):regAt s r=d:=by
 subst hr;simp [regAt,List.getD_eq_getElem?_getD,hd]
set_option maxHeartbeats 1600000 in
theorem over_yes (h:Run w base b x evs) (hc:chkP x.i=true) {s2:St} (ho:overF x.st x.i=some s2) :
   Calls Tryz.prog 92 #[.pointer (some ⟨b,0,none⟩)] w fun e w'=>e=.returned (.bool true)∧Below base w w'∧Run w' base b { x with st:=s2 } evs:=by
 obtain ⟨_,hnum,hd1,hs1,_,_⟩:=chk_parts hc
 rcases (by have:=chk_range hc;omega:x.i.op=1∨x.i.op=2∨x.i.op=3∨x.i.op=4∨x.i.op=5∨x.i.op=6∨x.i.op=7∨x.i.op=8∨x.i.op=9∨x.i.op=10∨x.i.op=11∨x.i.op=12∨x.i.op=13∨x.i.op=14∨x.i.op=15∨x.i.op=16∨x.i.op=17∨x.i.op=18∨x.i.op=19∨x.i.op=20∨x.i.op=21∨x.i.op=22∨x.i.op=23∨x.i.op=24∨x.i.op=25∨x.i.op=26∨x.i.op=27∨x.i.op=28∨x.i.op=29∨x.i.op=30∨x.i.op=31∨x.i.op=32∨x.i.op=33) with hop | hop | hop | hop | hop | hop | hop | hop | hop | hop | hop | hop | hop | hop | hop | hop | hop | hop | hop | hop | hop | hop | hop | hop | hop | hop | hop | hop | hop | hop | hop | hop | hop
 · rw [hop] at hnum hd1 hs1
   obtain ⟨D,hD,hDl⟩:=hasOk_yes hd1 (by rfl)
   obtain ⟨d,hd⟩:=reg_some h.ok hDl
   obtain ⟨S,hS,hSl⟩:=hasOk_yes hs1 (by rfl)
   obtain ⟨bb,hb⟩:=reg_some h.ok hSl
   have hv:=regAt_of hS hb
   have hu:=regAt_of hD hd
   have hT:D=x.i.d.toNat:=by omega
   simp only [overF,hop,hu,hv,show takesS 1=true from rfl,if_true] at ho
   obtain rfl:=Option.some.inj ho
   have h9:=over1 h hop D hD d hd S hS bb hb
   rw [←hT]
   exact h9
 · rw [hop] at hnum hd1 hs1
   obtain ⟨D,hD,hDl⟩:=hasOk_yes hd1 (by rfl)
   obtain ⟨d,hd⟩:=reg_some h.ok hDl
   obtain ⟨bb,hb⟩:∃ bb,bb=u64 x.i.imm:=⟨_,rfl⟩
   have hu:=regAt_of hD hd
   have hT:D=x.i.d.toNat:=by omega
   simp only [overF,hop,hu,show takesS 2=false from rfl,if_neg (by decide:¬ (false=true)),←hb] at ho
   obtain rfl:=Option.some.inj ho
   have h9:=over2 h hop D hD d hd bb hb
   rw [←hT]
   exact h9
 · rw [overF,hop] at ho;exact absurd ho (by simp [valueF])
 · rw [overF,hop] at ho;exact absurd ho (by simp [valueF])
 · rw [overF,hop] at ho;exact absurd ho (by simp [valueF])
 · rw [hop] at hnum hd1 hs1
   obtain ⟨D,hD,hDl⟩:=hasOk_yes hd1 (by rfl)
   obtain ⟨d,hd⟩:=reg_some h.ok hDl
   obtain ⟨S,hS,hSl⟩:=hasOk_yes hs1 (by rfl)
   obtain ⟨bb,hb⟩:=reg_some h.ok hSl
   have hv:=regAt_of hS hb
   have hu:=regAt_of hD hd
   have hT:D=x.i.d.toNat:=by omega
   simp only [overF,hop,hu,hv,show takesS 6=true from rfl,if_true] at ho
   obtain rfl:=Option.some.inj ho
   have h9:=over6 h hop D hD d hd S hS bb hb
   rw [←hT]
   exact h9
 · rw [hop] at hnum hd1 hs1
   obtain ⟨D,hD,hDl⟩:=hasOk_yes hd1 (by rfl)
   obtain ⟨d,hd⟩:=reg_some h.ok hDl
   obtain ⟨S,hS,hSl⟩:=hasOk_yes hs1 (by rfl)
   obtain ⟨bb,hb⟩:=reg_some h.ok hSl
   have hv:=regAt_of hS hb
   have hu:=regAt_of hD hd
   have hT:D=x.i.d.toNat:=by omega
   simp only [overF,hop,hu,hv,show takesS 7=true from rfl,if_true] at ho
   obtain rfl:=Option.some.inj ho
   have h9:=over7 h hop D hD d hd S hS bb hb
   rw [←hT]
   exact h9
 · rw [hop] at hnum hd1 hs1
   obtain ⟨D,hD,hDl⟩:=hasOk_yes hd1 (by rfl)
   obtain ⟨d,hd⟩:=reg_some h.ok hDl
   obtain ⟨S,hS,hSl⟩:=hasOk_yes hs1 (by rfl)
   obtain ⟨bb,hb⟩:=reg_some h.ok hSl
   have hv:=regAt_of hS hb
   have hu:=regAt_of hD hd
   have hT:D=x.i.d.toNat:=by omega
   simp only [overF,hop,hu,hv,show takesS 8=true from rfl,if_true] at ho
   obtain rfl:=Option.some.inj ho
   have h9:=over8 h hop D hD d hd S hS bb hb
   rw [←hT]
   exact h9
 · rw [hop] at hnum hd1 hs1
   obtain ⟨D,hD,hDl⟩:=hasOk_yes hd1 (by rfl)
   obtain ⟨d,hd⟩:=reg_some h.ok hDl
   obtain ⟨S,hS,hSl⟩:=hasOk_yes hs1 (by rfl)
   obtain ⟨bb,hb⟩:=reg_some h.ok hSl
   have hv:=regAt_of hS hb
   have hu:=regAt_of hD hd
   have hT:D=x.i.d.toNat:=by omega
   simp only [overF,hop,hu,hv,show takesS 9=true from rfl,if_true] at ho
   obtain rfl:=Option.some.inj ho
   have h9:=over9 h hop D hD d hd S hS bb hb
   rw [←hT]
   exact h9
 · rw [hop] at hnum hd1 hs1
   obtain ⟨D,hD,hDl⟩:=hasOk_yes hd1 (by rfl)
   obtain ⟨d,hd⟩:=reg_some h.ok hDl
   obtain ⟨S,hS,hSl⟩:=hasOk_yes hs1 (by rfl)
   obtain ⟨bb,hb⟩:=reg_some h.ok hSl
   have hv:=regAt_of hS hb
   have hu:=regAt_of hD hd
   have hT:D=x.i.d.toNat:=by omega
   simp only [overF,hop,hu,hv,show takesS 10=true from rfl,if_true] at ho
   obtain rfl:=Option.some.inj ho
   have h9:=over10 h hop D hD d hd S hS bb hb
   rw [←hT]
   exact h9
 · rw [hop] at hnum hd1 hs1
   obtain ⟨D,hD,hDl⟩:=hasOk_yes hd1 (by rfl)
   obtain ⟨d,hd⟩:=reg_some h.ok hDl
   obtain ⟨S,hS,hSl⟩:=hasOk_yes hs1 (by rfl)
   obtain ⟨bb,hb⟩:=reg_some h.ok hSl
   have hv:=regAt_of hS hb
   have hu:=regAt_of hD hd
   have hT:D=x.i.d.toNat:=by omega
   simp only [overF,hop,hu,hv,show takesS 11=true from rfl,if_true] at ho
   obtain rfl:=Option.some.inj ho
   have h9:=over11 h hop D hD d hd S hS bb hb
   rw [←hT]
   exact h9
 · rw [hop] at hnum hd1 hs1
   obtain ⟨D,hD,hDl⟩:=hasOk_yes hd1 (by rfl)
   obtain ⟨d,hd⟩:=reg_some h.ok hDl
   obtain ⟨S,hS,hSl⟩:=hasOk_yes hs1 (by rfl)
   obtain ⟨bb,hb⟩:=reg_some h.ok hSl
   have hv:=regAt_of hS hb
   have hu:=regAt_of hD hd
   have hT:D=x.i.d.toNat:=by omega
   simp only [overF,hop,hu,hv,show takesS 12=true from rfl,if_true] at ho
   obtain rfl:=Option.some.inj ho
   have h9:=over12 h hop D hD d hd S hS bb hb
   rw [←hT]
   exact h9
 · rw [hop] at hnum hd1 hs1
   obtain ⟨D,hD,hDl⟩:=hasOk_yes hd1 (by rfl)
   obtain ⟨d,hd⟩:=reg_some h.ok hDl
   obtain ⟨S,hS,hSl⟩:=hasOk_yes hs1 (by rfl)
   obtain ⟨bb,hb⟩:=reg_some h.ok hSl
   have hv:=regAt_of hS hb
   have hu:=regAt_of hD hd
   have hT:D=x.i.d.toNat:=by omega
   simp only [overF,hop,hu,hv,show takesS 13=true from rfl,if_true] at ho
   obtain rfl:=Option.some.inj ho
   have h9:=over13 h hop D hD d hd S hS bb hb
   rw [←hT]
   exact h9
 · rw [hop] at hnum hd1 hs1
   obtain ⟨D,hD,hDl⟩:=hasOk_yes hd1 (by rfl)
   obtain ⟨d,hd⟩:=reg_some h.ok hDl
   obtain ⟨S,hS,hSl⟩:=hasOk_yes hs1 (by rfl)
   obtain ⟨bb,hb⟩:=reg_some h.ok hSl
   have hv:=regAt_of hS hb
   have hu:=regAt_of hD hd
   have hT:D=x.i.d.toNat:=by omega
   simp only [overF,hop,hu,hv,show takesS 14=true from rfl,if_true] at ho
   obtain rfl:=Option.some.inj ho
   have h9:=over14 h hop D hD d hd S hS bb hb
   rw [←hT]
   exact h9
 · rw [hop] at hnum hd1 hs1
   obtain ⟨D,hD,hDl⟩:=hasOk_yes hd1 (by rfl)
   obtain ⟨d,hd⟩:=reg_some h.ok hDl
   obtain ⟨bb,hb⟩:∃ bb,bb=u64 x.i.imm:=⟨_,rfl⟩
   have hu:=regAt_of hD hd
   have hT:D=x.i.d.toNat:=by omega
   simp only [overF,hop,hu,show takesS 15=false from rfl,if_neg (by decide:¬ (false=true)),←hb] at ho
   obtain rfl:=Option.some.inj ho
   have h9:=over15 h hop D hD d hd bb hb
   rw [←hT]
   exact h9
 · rw [hop] at hnum hd1 hs1
   obtain ⟨D,hD,hDl⟩:=hasOk_yes hd1 (by rfl)
   obtain ⟨d,hd⟩:=reg_some h.ok hDl
   obtain ⟨bb,hb⟩:∃ bb,bb=u64 x.i.imm:=⟨_,rfl⟩
   have hu:=regAt_of hD hd
   have hT:D=x.i.d.toNat:=by omega
   simp only [overF,hop,hu,show takesS 16=false from rfl,if_neg (by decide:¬ (false=true)),←hb] at ho
   obtain rfl:=Option.some.inj ho
   have h9:=over16 h hop D hD d hd bb hb
   rw [←hT]
   exact h9
 · rw [hop] at hnum hd1 hs1
   obtain ⟨D,hD,hDl⟩:=hasOk_yes hd1 (by rfl)
   obtain ⟨d,hd⟩:=reg_some h.ok hDl
   obtain ⟨bb,hb⟩:∃ bb,bb=u64 x.i.imm:=⟨_,rfl⟩
   have hu:=regAt_of hD hd
   have hT:D=x.i.d.toNat:=by omega
   simp only [overF,hop,hu,show takesS 17=false from rfl,if_neg (by decide:¬ (false=true)),←hb] at ho
   obtain rfl:=Option.some.inj ho
   have h9:=over17 h hop D hD d hd bb hb
   rw [←hT]
   exact h9
 · rw [hop] at hnum hd1 hs1
   obtain ⟨D,hD,hDl⟩:=hasOk_yes hd1 (by rfl)
   obtain ⟨d,hd⟩:=reg_some h.ok hDl
   obtain ⟨bb,hb⟩:∃ bb,bb=u64 x.i.imm:=⟨_,rfl⟩
   have hu:=regAt_of hD hd
   have hT:D=x.i.d.toNat:=by omega
   simp only [overF,hop,hu,show takesS 18=false from rfl,if_neg (by decide:¬ (false=true)),←hb] at ho
   obtain rfl:=Option.some.inj ho
   have h9:=over18 h hop D hD d hd bb hb
   rw [←hT]
   exact h9
 · rw [overF,hop] at ho;exact absurd ho (by simp [valueF])
 · rw [hop] at hnum hd1 hs1
   obtain ⟨D,hD,hDl⟩:=hasOk_yes hd1 (by rfl)
   obtain ⟨d,hd⟩:=reg_some h.ok hDl
   obtain ⟨S,hS,hSl⟩:=hasOk_yes hs1 (by rfl)
   obtain ⟨bb,hb⟩:=reg_some h.ok hSl
   have hv:=regAt_of hS hb
   have hu:=regAt_of hD hd
   have hT:D=x.i.d.toNat:=by omega
   simp only [overF,hop,hu,hv,show takesS 20=true from rfl,if_true] at ho
   obtain rfl:=Option.some.inj ho
   have h9:=over20 h hop D hD d hd S hS bb hb
   rw [←hT]
   exact h9
 · rw [hop] at hnum hd1 hs1
   obtain ⟨D,hD,hDl⟩:=hasOk_yes hd1 (by rfl)
   obtain ⟨d,hd⟩:=reg_some h.ok hDl
   obtain ⟨S,hS,hSl⟩:=hasOk_yes hs1 (by rfl)
   obtain ⟨bb,hb⟩:=reg_some h.ok hSl
   have hv:=regAt_of hS hb
   have hu:=regAt_of hD hd
   have hT:D=x.i.d.toNat:=by omega
   simp only [overF,hop,hu,hv,show takesS 21=true from rfl,if_true] at ho
   obtain rfl:=Option.some.inj ho
   have h9:=over21 h hop D hD d hd S hS bb hb
   rw [←hT]
   exact h9
 · rw [hop] at hnum hd1 hs1
   obtain ⟨D,hD,hDl⟩:=hasOk_yes hd1 (by rfl)
   obtain ⟨d,hd⟩:=reg_some h.ok hDl
   obtain ⟨bb,hb⟩:∃ bb,bb=u64 x.i.imm:=⟨_,rfl⟩
   have hu:=regAt_of hD hd
   have hT:D=x.i.d.toNat:=by omega
   simp only [overF,hop,hu,show takesS 22=false from rfl,if_neg (by decide:¬ (false=true)),←hb] at ho
   obtain rfl:=Option.some.inj ho
   have h9:=over22 h hop D hD d hd bb hb
   rw [←hT]
   exact h9
 · rw [hop] at hnum hd1 hs1
   obtain ⟨D,hD,hDl⟩:=hasOk_yes hd1 (by rfl)
   obtain ⟨d,hd⟩:=reg_some h.ok hDl
   obtain ⟨bb,hb⟩:∃ bb,bb=u64 x.i.imm:=⟨_,rfl⟩
   have hu:=regAt_of hD hd
   have hT:D=x.i.d.toNat:=by omega
   simp only [overF,hop,hu,show takesS 23=false from rfl,if_neg (by decide:¬ (false=true)),←hb] at ho
   obtain rfl:=Option.some.inj ho
   have h9:=over23 h hop D hD d hd bb hb
   rw [←hT]
   exact h9
 · rw [hop] at hnum hd1 hs1
   obtain ⟨D,hD,hDl⟩:=hasOk_yes hd1 (by rfl)
   obtain ⟨d,hd⟩:=reg_some h.ok hDl
   obtain ⟨bb,hb⟩:∃ bb,bb=u64 x.i.imm:=⟨_,rfl⟩
   have hi:1≤bb∧bb≤63:=by
     have h1:(decide (1≤x.i.imm) && decide (x.i.imm≤63))=true:=hnum
     simp only [Bool.and_eq_true,decide_eq_true_eq] at h1
     rw [hb];unfold u64;omega
   have hu:=regAt_of hD hd
   have hT:D=x.i.d.toNat:=by omega
   simp only [overF,hop,hu,show takesS 24=false from rfl,if_neg (by decide:¬ (false=true)),←hb] at ho
   obtain rfl:=Option.some.inj ho
   have h9:=over24 h hop D hD d hd bb hb hi.1 hi.2
   rw [←hT]
   exact h9
 · rw [hop] at hnum hd1 hs1
   obtain ⟨D,hD,hDl⟩:=hasOk_yes hd1 (by rfl)
   obtain ⟨d,hd⟩:=reg_some h.ok hDl
   obtain ⟨bb,hb⟩:∃ bb,bb=u64 x.i.imm:=⟨_,rfl⟩
   have hi:1≤bb∧bb≤63:=by
     have h1:(decide (1≤x.i.imm) && decide (x.i.imm≤63))=true:=hnum
     simp only [Bool.and_eq_true,decide_eq_true_eq] at h1
     rw [hb];unfold u64;omega
   have hu:=regAt_of hD hd
   have hT:D=x.i.d.toNat:=by omega
   simp only [overF,hop,hu,show takesS 25=false from rfl,if_neg (by decide:¬ (false=true)),←hb] at ho
   obtain rfl:=Option.some.inj ho
   have h9:=over25 h hop D hD d hd bb hb hi.1 hi.2
   rw [←hT]
   exact h9
 · rw [hop] at hnum hd1 hs1
   obtain ⟨D,hD,hDl⟩:=hasOk_yes hd1 (by rfl)
   obtain ⟨d,hd⟩:=reg_some h.ok hDl
   obtain ⟨S,hS,hSl⟩:=hasOk_yes hs1 (by rfl)
   obtain ⟨bb,hb⟩:=reg_some h.ok hSl
   have hv:=regAt_of hS hb
   have hu:=regAt_of hD hd
   have hT:D=x.i.d.toNat:=by omega
   simp only [overF,hop,hu,hv,show takesS 26=true from rfl,if_true] at ho
   obtain rfl:=Option.some.inj ho
   have h9:=over26 h hop D hD d hd S hS bb hb _ rfl
   rw [←hT]
   exact h9
 · rw [hop] at hnum hd1 hs1
   obtain ⟨D,hD,hDl⟩:=hasOk_yes hd1 (by rfl)
   obtain ⟨d,hd⟩:=reg_some h.ok hDl
   obtain ⟨S,hS,hSl⟩:=hasOk_yes hs1 (by rfl)
   obtain ⟨bb,hb⟩:=reg_some h.ok hSl
   have hv:=regAt_of hS hb
   have hu:=regAt_of hD hd
   have hT:D=x.i.d.toNat:=by omega
   simp only [overF,hop,hu,hv,show takesS 27=true from rfl,if_true] at ho
   obtain rfl:=Option.some.inj ho
   have h9:=over27 h hop D hD d hd S hS bb hb (if x.st.zf then d else bb) (by cases x.st.zf <;> rfl)
   rw [←hT]
   exact h9
 · rw [overF,hop] at ho;exact absurd ho (by simp [valueF])
 · rw [overF,hop] at ho;exact absurd ho (by simp [valueF])
 · rw [overF,hop] at ho;exact absurd ho (by simp [valueF])
 · rw [overF,hop] at ho;exact absurd ho (by simp [valueF])
 · rw [overF,hop] at ho;exact absurd ho (by simp [valueF])
 · rw [overF,hop] at ho;exact absurd ho (by simp [valueF])
def storeVE (rs:List Reg) (a v:Nat):Int×List Reg:=match storeF rs a v with
 | none=>(11,rs)
 | some r=>(0,r)
theorem says_VE {rs rs2:List Reg} {a v:Nat} {g:Int} (h:StoreSays rs a v g rs2):storeVE rs a v=(g,rs2):=by
 unfold storeVE
 rcases h with ⟨h1,rfl,rfl⟩ | ⟨h1,rfl⟩ <;> rw [h1]
def doF (s:St) (i:Ins) (rs:List Reg) (e0:Int):St×List Ev×Int×List Reg :=
 if i.op=3 then ({ s with regs:=s.regs.set i.d.toNat (loadVE (loadF rs (addrF s i))).1 },[⟨2,addrF s i⟩],(loadVE (loadF rs (addrF s i))).2,rs)
 else if i.op=4 then (s,[⟨3,addrF s i⟩],(storeVE rs (addrF s i) (regAt s i.s)).1,(storeVE rs (addrF s i) (regAt s i.s)).2)
 else if i.op=5 then ({ s with regs:=s.regs.set i.d.toNat (addrF s i) },[],e0,rs)
 else if i.op=19 then ({ s with regs:=(s.regs.set i.d.toNat (mulF (regAt s i.t) (regAt s 2)).1).set i.s.toNat (mulF (regAt s i.t) (regAt s 2)).2 },[],e0,rs)
 else if i.op=28 then ({ s with regs:=s.regs.set 4 ((18446744073709551616+regAt s 4 - 8) % 18446744073709551616) },[⟨3,(18446744073709551616+regAt s 4 - 8) % 18446744073709551616⟩],
   (storeVE rs ((18446744073709551616+regAt s 4 - 8) % 18446744073709551616) (regAt s i.s)).1,(storeVE rs ((18446744073709551616+regAt s 4 - 8) % 18446744073709551616) (regAt s i.s)).2)
 else if i.op=29 then ({ s with regs:=(s.regs.set 4 ((regAt s 4+8) % 18446744073709551616)).set i.d.toNat (loadVE (loadF rs (regAt s 4))).1 },[⟨2,regAt s 4⟩],(loadVE (loadF rs (regAt s 4))).2,rs)
 else if i.op=33 then ({ s with regs:=s.regs.set 4 ((regAt s 4+8) % 18446744073709551616),pc:=(loadVE (loadF rs (regAt s 4))).1 },[⟨2,regAt s 4⟩,⟨4,(loadVE (loadF rs (regAt s 4))).1⟩],(loadVE (loadF rs (regAt s 4))).2,rs)
 else (jumpS s (if i.op=30 then true else if i.op=31 then !s.zf else s.cf) i.imm,[⟨4,(jumpS s (if i.op=30 then true else if i.op=31 then !s.zf else s.cf) i.imm).pc⟩],e0,rs)
theorem values3 (w:World):Calls Tryz.prog 124 #[.int .i64 3] w fun e w'=>e=.returned (.tuple #[.nilFunc,.bool false])∧w=w':=by
 go_enter Tryz.func124,Tryz.ntmps124
 go_wp2
 go_ret2
 exact ⟨rfl,rfl⟩
theorem values4 (w:World):Calls Tryz.prog 124 #[.int .i64 4] w fun e w'=>e=.returned (.tuple #[.nilFunc,.bool false])∧w=w':=by
 go_enter Tryz.func124,Tryz.ntmps124
 go_wp2
 go_ret2
 exact ⟨rfl,rfl⟩
theorem values5 (w:World):Calls Tryz.prog 124 #[.int .i64 5] w fun e w'=>e=.returned (.tuple #[.nilFunc,.bool false])∧w=w':=by
 go_enter Tryz.func124,Tryz.ntmps124
 go_wp2
 go_ret2
 exact ⟨rfl,rfl⟩
theorem values19 (w:World):Calls Tryz.prog 124 #[.int .i64 19] w fun e w'=>e=.returned (.tuple #[.nilFunc,.bool false])∧w=w':=by
 go_enter Tryz.func124,Tryz.ntmps124
 go_wp2
 go_ret2
 exact ⟨rfl,rfl⟩
theorem values28 (w:World):Calls Tryz.prog 124 #[.int .i64 28] w fun e w'=>e=.returned (.tuple #[.nilFunc,.bool false])∧w=w':=by
 go_enter Tryz.func124,Tryz.ntmps124
 go_wp2
 go_ret2
 exact ⟨rfl,rfl⟩
theorem values29 (w:World):Calls Tryz.prog 124 #[.int .i64 29] w fun e w'=>e=.returned (.tuple #[.nilFunc,.bool false])∧w=w':=by
 go_enter Tryz.func124,Tryz.ntmps124
 go_wp2
 go_ret2
 exact ⟨rfl,rfl⟩
theorem values30 (w:World):Calls Tryz.prog 124 #[.int .i64 30] w fun e w'=>e=.returned (.tuple #[.nilFunc,.bool false])∧w=w':=by
 go_enter Tryz.func124,Tryz.ntmps124
 go_wp2
 go_ret2
 exact ⟨rfl,rfl⟩
theorem values31 (w:World):Calls Tryz.prog 124 #[.int .i64 31] w fun e w'=>e=.returned (.tuple #[.nilFunc,.bool false])∧w=w':=by
 go_enter Tryz.func124,Tryz.ntmps124
 go_wp2
 go_ret2
 exact ⟨rfl,rfl⟩
theorem values32 (w:World):Calls Tryz.prog 124 #[.int .i64 32] w fun e w'=>e=.returned (.tuple #[.nilFunc,.bool false])∧w=w':=by
 go_enter Tryz.func124,Tryz.ntmps124
 go_wp2
 go_ret2
 exact ⟨rfl,rfl⟩
theorem values33 (w:World):Calls Tryz.prog 124 #[.int .i64 33] w fun e w'=>e=.returned (.tuple #[.nilFunc,.bool false])∧w=w':=by
 go_enter Tryz.func124,Tryz.ntmps124
 go_wp2
 go_ret2
 exact ⟨rfl,rfl⟩
theorem value_none {s:St} {op:Int} {d b:Nat} (h0:1≤op∧op≤33) (hv:valueF s op d b=none):op=3∨op=4∨op=5∨op=19∨op=28∨op=29∨op=30∨op=31∨op=32∨op=33:=by
 rcases (by omega:op=1∨op=2∨op=3∨op=4∨op=5∨op=6∨op=7∨op=8∨op=9∨op=10∨op=11∨op=12∨op=13∨op=14∨op=15∨op=16∨op=17∨op=18∨op=19∨op=20∨op=21∨op=22∨op=23∨op=24∨op=25∨op=26∨op=27∨op=28∨op=29∨op=30∨op=31∨op=32∨op=33) with rfl | rfl | rfl | rfl | rfl | rfl | rfl | rfl | rfl | rfl | rfl | rfl | rfl | rfl | rfl | rfl | rfl | rfl | rfl | rfl | rfl | rfl | rfl | rfl | rfl | rfl | rfl | rfl | rfl | rfl | rfl | rfl | rfl
 all_goals first
   | omega
   | (exfalso;simp [valueF] at hv;done)
theorem over_none {s:St} {i:Ins} (h0:1≤i.op∧i.op≤33) (ho:overF s i=none):i.op=3∨i.op=4∨i.op=5∨i.op=19∨i.op=28∨i.op=29∨i.op=30∨i.op=31∨i.op=32∨i.op=33:=by
 unfold overF at ho
 split at ho
 · rename_i hv;exact value_none h0 hv
 · cases ho
set_option maxHeartbeats 1600000 in
theorem over_no (h:Run w base b x evs) (hc:chkP x.i=true) (ho:overF x.st x.i=none) :
   Calls Tryz.prog 92 #[.pointer (some ⟨b,0,none⟩)] w fun e w'=>e=.returned (.bool false)∧w=w':=by
 have c20:=h.cells.2.2.2.2.1
 have h0:=chk_range hc
 rcases (over_none h0 ho:x.i.op=3∨x.i.op=4∨x.i.op=5∨x.i.op=19∨x.i.op=28∨x.i.op=29∨x.i.op=30∨x.i.op=31∨x.i.op=32∨x.i.op=33) with hop | hop | hop | hop | hop | hop | hop | hop | hop | hop
 all_goals
   rw [hop] at c20
   clear h hc ho h0 hop
   go_enter Tryz.func92,Tryz.ntmps92
   go_wp2_with ((first | (with_reducible refine (values3 w).mono ?_) | (with_reducible refine (values4 w).mono ?_) | (with_reducible refine (values5 w).mono ?_) | (with_reducible refine (values19 w).mono ?_) | (with_reducible refine (values28 w).mono ?_) | (with_reducible refine (values29 w).mono ?_) | (with_reducible refine (values30 w).mono ?_) | (with_reducible refine (values31 w).mono ?_) | (with_reducible refine (values32 w).mono ?_) | (with_reducible refine (values33 w).mono ?_));rintro e w1 ⟨rfl,rfl⟩)
   go_ret
   exact ⟨rfl,rfl⟩
def DoSays (w:World) (base b:Nat) (x:Stp) (evs:List Ev) (F:Nat→Prop) (r:St×List Ev×Int×List Reg) (e:Ending) (w':World):Prop :=
 e=.returned (.tuple #[])∧∃ v,Chg (Over F base) w w'∧MemAt w' F x.m r.2.2.2∧Run w' base b { x with st:=r.1,l:=v,e:=r.2.2.1 } (evs++r.2.1)
set_option maxHeartbeats 1600000 in
theorem do_says (h:Run w base b x evs) (hc:chkP x.i=true) (hm:MemAt w F x.m rs) (hF:∀ k,F k→k < base) (hf:evs.length≤80) (ho:overF x.st x.i=none) :
   Calls Tryz.prog 93 #[.pointer (some ⟨b,0,none⟩)] w (DoSays w base b x evs F (doF x.st x.i rs x.e)):=by
 have h0:=chk_range hc
 obtain ⟨_,_,hd1,hs1,ht1,hds⟩:=chk_parts hc
 obtain ⟨sp,hsp⟩:=reg_some (D:=4) h.ok (by decide)
 have hu4:regAt x.st 4=sp:=regAt_of (D:=4) rfl hsp
 rcases (over_none h0 ho:x.i.op=3∨x.i.op=4∨x.i.op=5∨x.i.op=19∨x.i.op=28∨x.i.op=29∨x.i.op=30∨x.i.op=31∨x.i.op=32∨x.i.op=33) with hop | hop | hop | hop | hop | hop | hop | hop | hop | hop
 · rw [hop] at hd1 hs1 ht1 hds
   obtain ⟨D,hD,hDl⟩:=hasOk_yes hd1 (by rfl)
   have hT:x.i.d.toNat=D:=by omega
   have hd:doF x.st x.i rs x.e=({ x.st with regs:=x.st.regs.set D (loadVE (loadF rs (addrF x.st x.i))).1 },[⟨2,addrF x.st x.i⟩],(loadVE (loadF rs (addrF x.st x.i))).2,rs):=by unfold doF;rw [if_pos hop,hT]
   rw [hd]
   refine (do3 h hop hm hF hf D hD hDl).mono ?_
   rintro e w' ⟨rfl,hb,v,hr⟩
   exact ⟨rfl,v,Over.below hb,hm.keep (SameOn.of_below hb hF),hr⟩
 · rw [hop] at hd1 hs1 ht1 hds
   obtain ⟨S,hS,hSl⟩:=hasOk_yes hs1 (by rfl)
   obtain ⟨v,hv⟩:=reg_some h.ok hSl
   have hvs:=regAt_of hS hv
   have hd:doF x.st x.i rs x.e=(x.st,[⟨3,addrF x.st x.i⟩],(storeVE rs (addrF x.st x.i) v).1,(storeVE rs (addrF x.st x.i) v).2):=by unfold doF;rw [if_neg (by omega),if_pos hop,hvs]
   rw [hd]
   refine (do4 h hop hm hF hf S hS hSl v hv).mono ?_
   rintro e w' ⟨g,rs2,vl,rfl,hsay,hm2,hc2,hr⟩
   rw [says_VE hsay]
   exact ⟨rfl,vl,hc2,hm2,hr⟩
 · rw [hop] at hd1 hs1 ht1 hds
   obtain ⟨D,hD,hDl⟩:=hasOk_yes hd1 (by rfl)
   have hT:x.i.d.toNat=D:=by omega
   have hd:doF x.st x.i rs x.e=({ x.st with regs:=x.st.regs.set D (addrF x.st x.i) },[],x.e,rs):=by unfold doF;rw [if_neg (by omega),if_neg (by omega),if_pos hop,hT]
   rw [hd]
   refine (do5 h hop D hD hDl).mono ?_
   rintro e w' ⟨rfl,hb,hr⟩
   exact ⟨rfl,x.l,Over.below hb,hm.keep (SameOn.of_below hb hF),by rw [List.append_nil];exact hr⟩
 · rw [hop] at hd1 hs1 ht1 hds
   obtain ⟨D,hD,hDl⟩:=hasOk_yes hd1 (by rfl)
   have hT:x.i.d.toNat=D:=by omega
   obtain ⟨S,hS,hSl⟩:=hasOk_yes hs1 (by rfl)
   obtain ⟨v,hv⟩:=reg_some h.ok hSl
   have hvs:=regAt_of hS hv
   obtain ⟨T,hTT,hTl⟩:=hasOk_yes ht1 (by rfl)
   obtain ⟨t,ht⟩:=reg_some h.ok hTl
   obtain ⟨dx,hdx⟩:=reg_some (D:=2) h.ok (by decide)
   have hut:=regAt_of hTT ht
   have hu2:regAt x.st 2=dx:=regAt_of (D:=2) rfl hdx
   have hT2:x.i.s.toNat=S:=by omega
   have hDS:D≠S:=fun e=>by
     have h9:(hasB (formF 19).is 4 && x.i.d == x.i.s)=true:=by rw [hD,hS,e];simp;rfl
     rw [h9] at hds;cases hds
   have hd:doF x.st x.i rs x.e=({ x.st with regs:=(x.st.regs.set D (mulF t dx).1).set S (mulF t dx).2 },[],x.e,rs):=by unfold doF;rw [if_neg (by omega),if_neg (by omega),if_neg (by omega),if_pos hop,hT,hT2,hut,hu2]
   rw [hd]
   refine (do19 h hop D hD hDl S hS hSl hDS T hTT t ht dx hdx).mono ?_
   rintro e w' ⟨rfl,hb,hr⟩
   exact ⟨rfl,x.l,Over.below hb,hm.keep (SameOn.of_below hb hF),by rw [List.append_nil];exact hr⟩
 · rw [hop] at hd1 hs1 ht1 hds
   obtain ⟨S,hS,hSl⟩:=hasOk_yes hs1 (by rfl)
   obtain ⟨v,hv⟩:=reg_some h.ok hSl
   have hvs:=regAt_of hS hv
   have hd:doF x.st x.i rs x.e=({ x.st with regs:=x.st.regs.set 4 ((18446744073709551616+sp - 8) % 18446744073709551616) },[⟨3,(18446744073709551616+sp - 8) % 18446744073709551616⟩],(storeVE rs ((18446744073709551616+sp - 8) % 18446744073709551616) v).1,(storeVE rs ((18446744073709551616+sp - 8) % 18446744073709551616) v).2):=by unfold doF;rw [if_neg (by omega),if_neg (by omega),if_neg (by omega),if_neg (by omega),if_pos hop,hu4,hvs]
   rw [hd]
   refine (do28 h hop hm hF hf S hS hSl v hv sp hsp).mono ?_
   rintro e w' ⟨g,rs2,vl,rfl,hsay,hm2,hc2,hr⟩
   rw [says_VE hsay]
   exact ⟨rfl,vl,hc2,hm2,hr⟩
 · rw [hop] at hd1 hs1 ht1 hds
   obtain ⟨D,hD,hDl⟩:=hasOk_yes hd1 (by rfl)
   have hT:x.i.d.toNat=D:=by omega
   have hd:doF x.st x.i rs x.e=({ x.st with regs:=(x.st.regs.set 4 ((sp+8) % 18446744073709551616)).set D (loadVE (loadF rs sp)).1 },[⟨2,sp⟩],(loadVE (loadF rs sp)).2,rs):=by unfold doF;rw [if_neg (by omega),if_neg (by omega),if_neg (by omega),if_neg (by omega),if_neg (by omega),if_pos hop,hu4,hT]
   rw [hd]
   refine (do29 h hop hm hF hf D hD hDl sp hsp).mono ?_
   rintro e w' ⟨rfl,hb,v,hr⟩
   exact ⟨rfl,v,Over.below hb,hm.keep (SameOn.of_below hb hF),hr⟩
 · rw [hop] at hd1 hs1 ht1 hds
   have hj:(if x.i.op=30 then true else if x.i.op=31 then !x.st.zf else x.st.cf)=true:=by rw [hop];rfl
   have hd:doF x.st x.i rs x.e=(jumpS x.st true x.i.imm,[⟨4,(jumpS x.st true x.i.imm).pc⟩],x.e,rs):=by unfold doF;rw [if_neg (by omega),if_neg (by omega),if_neg (by omega),if_neg (by omega),if_neg (by omega),if_neg (by omega),if_neg (by omega),hj]
   rw [hd]
   refine (do30 h hop hf).mono ?_
   rintro e w' ⟨rfl,hb,v,hr⟩
   exact ⟨rfl,v,Over.below hb,hm.keep (SameOn.of_below hb hF),hr⟩
 · rw [hop] at hd1 hs1 ht1 hds
   have hj:(if x.i.op=30 then true else if x.i.op=31 then !x.st.zf else x.st.cf)=(!x.st.zf):=by rw [hop];rfl
   have hd:doF x.st x.i rs x.e=(jumpS x.st (!x.st.zf) x.i.imm,[⟨4,(jumpS x.st (!x.st.zf) x.i.imm).pc⟩],x.e,rs):=by unfold doF;rw [if_neg (by omega),if_neg (by omega),if_neg (by omega),if_neg (by omega),if_neg (by omega),if_neg (by omega),if_neg (by omega),hj]
   rw [hd]
   refine (do31 h hop hf).mono ?_
   rintro e w' ⟨rfl,hb,v,hr⟩
   exact ⟨rfl,v,Over.below hb,hm.keep (SameOn.of_below hb hF),hr⟩
 · rw [hop] at hd1 hs1 ht1 hds
   have hj:(if x.i.op=30 then true else if x.i.op=31 then !x.st.zf else x.st.cf)=x.st.cf:=by rw [hop];rfl
   have hd:doF x.st x.i rs x.e=(jumpS x.st x.st.cf x.i.imm,[⟨4,(jumpS x.st x.st.cf x.i.imm).pc⟩],x.e,rs):=by unfold doF;rw [if_neg (by omega),if_neg (by omega),if_neg (by omega),if_neg (by omega),if_neg (by omega),if_neg (by omega),if_neg (by omega),hj]
   rw [hd]
   refine (do32 h hop hf).mono ?_
   rintro e w' ⟨rfl,hb,v,hr⟩
   exact ⟨rfl,v,Over.below hb,hm.keep (SameOn.of_below hb hF),hr⟩
 · rw [hop] at hd1 hs1 ht1 hds
   have hd:doF x.st x.i rs x.e=({ x.st with regs:=x.st.regs.set 4 ((sp+8) % 18446744073709551616),pc:=(loadVE (loadF rs sp)).1 },[⟨2,sp⟩,⟨4,(loadVE (loadF rs sp)).1⟩],(loadVE (loadF rs sp)).2,rs):=by unfold doF;rw [if_neg (by omega),if_neg (by omega),if_neg (by omega),if_neg (by omega),if_neg (by omega),if_neg (by omega),if_pos hop,hu4]
   rw [hd]
   refine (do33 h hop hm hF hf sp hsp).mono ?_
   rintro e w' ⟨rfl,hb,v,hr⟩
   exact ⟨rfl,v,Over.below hb,hm.keep (SameOn.of_below hb hF),by rw [List.append_assoc] at hr;exact hr⟩
end Go.Proofs.YtocndimihokcmaaGreat
namespace Go.Proofs.YtocndimihokcmaaGreat
open Go.RowKit
structure StepR where
 code:Int
 st:St
 evs:List Ev
 rs:List Reg
def stepF (s:St) (i:Ins) (size:Int) (rs:List Reg):StepR :=
 if chkP i && (decide (1≤size) && decide (size≤15)) then
   match overF { s with pc:=(s.pc+u64 size) % 18446744073709551616 } i with
   | some s2=>⟨0,s2,[⟨1,s.pc⟩],rs⟩
   | none =>
     let r:=doF { s with pc:=(s.pc+u64 size) % 18446744073709551616 } i rs 0
     if r.2.2.1=0 then ⟨0,r.1,⟨1,s.pc⟩ :: r.2.1,r.2.2.2⟩ else ⟨r.2.2.1,s,[],r.2.2.2⟩
 else ⟨2,s,[],rs⟩
end Go.Proofs.YtocndimihokcmaaGreat
namespace Go.Proofs.YtocndimihokcmaaGreat
open Go.RowKit
set_option maxRecDepth 100000
def DoPost (w:World) (F:Nat→Prop) (m:Value) (r:StepR) (e:Ending) (w':World):Prop :=
 ∃ v,e=.returned (.tuple #[.agg (stRow r.st).toArray,v,.int .i64 r.code])∧Chg (Over F w.heap.size) w w'∧MemAt w' F m r.rs∧w'.ownsRow w.heap.size 56 2 v r.evs.length (r.evs.map evRow).flatten
theorem exec_store_row {P:Program} {o:Oper} {a:Act} {w:World} (ty:TypeId) (x y:Operand) (ho:o.op=.store ty x y) (g:Nat) (cells:Array Value) (hx:a.eval x=.pointer (some ⟨g,0,none⟩)) (hy:a.eval y=.agg cells)
   (t:TypeId) (old:Array Value) (hg:w.heap[g]? = some (.cells old t (0,0))) (hi:(P.info? ty).map (·.size)=some cells.size) (hold:old.size=cells.size) (h1:cells.all (·.oneCell')=true) :
   (execOp a.eval o).run P w=.ok .skip (w.setRow g cells):=by
 unfold execOp
 simp only [ho,hx,hy,Instr.storeAt,Instr.sureAddr,Sem.run_bind,Sem.run_pure,Result.andThen_ok,run_storeVar_row w g t ty old cells hg hi hold h1]
theorem stRow_size {s:St} (h:StOk s):(stRow s).toArray.size=20:=by simp [stRow,h.len]
theorem stRow_one (s:St):(stRow s).toArray.all (·.oneCell')=true:=by
 simp only [stRow,List.all_toArray,List.all_append,List.all_map,Bool.and_eq_true]
 refine ⟨?_,rfl⟩
 rw [List.all_eq_true]
 intro r _;rfl
theorem infoSt:(Tryz.prog.info? 26).map (·.size)=some 20:=by kernel_rfl
theorem infoIns:(Tryz.prog.info? 40).map (·.size)=some 9:=by kernel_rfl
def zeroSt:List Value:=List.replicate 17 (.int .u64 0)++[.bool false,.bool false,.bool false]
theorem zeroInfoSt:(Tryz.prog.info? 26).map (fun i=>(i.zero,i.size))=some (some (.agg zeroSt.toArray),20):=by kernel_rfl
theorem wpList_built {P:Program} {ops:Array Oper} {rest:List Oper} {o:Oper} {a:Act} {w:World} {Q:Exit→Act→World→Prop} (hg:o.guard=none) (t:TypeId) (parts:Array (Nat×Operand)) (ho:o.op=.build t parts) (arr:Array Value)
   (hf:P.built t (parts.map fun (i,x)=>(i,a.eval x)).toList=some arr)
   (h:wpList P ops Q rest (a.put o.dst (.agg arr)) w):wpList P ops Q (o :: rest) a w :=
 wpList_build hg t parts ho (by rw [hf];rfl) (by rw [hf];exact h)
theorem built_stp (s:St) (i:Ins) (bm:Nat) (h:s.regs.length=16):Tryz.prog.built 158 [(0,.agg (stRow s).toArray),(1,.agg (insRow i).toArray),(2,.pointer (some ⟨bm,0,none⟩))]=some (stpRow ⟨s,i,.pointer (some ⟨bm,0,none⟩),.slice none 0 0,0⟩).toArray:=by
 rcases s with ⟨regs,pc,cf,of_,zf⟩
 obtain ⟨a0,a1,a2,a3,a4,a5,a6,a7,a8,a9,a10,a11,a12,a13,a14,a15,rfl⟩:=sixteen regs h
 kernel_rfl
theorem Chg.setRow {F:Nat→Prop} {a b:World} (h:Chg F a b) {g:Nat} (hg:F g∨a.heap.size≤g) (cs:Array Value):Chg F a (b.setRow g cs) :=
 ⟨h.os,h.tape,h.output,by rw [show (b.setRow g cs).heap.size=b.heap.size by simp [World.setRow]];exact h.size,fun k hk hF=>by
   rw [setRow_other _ _ _ _ (by rcases hg with h' | h';exact fun e=>hF (e▸h');omega)];exact h.block k hk hF⟩
theorem Run.setRow {w:World} {base b:Nat} {x:Stp} {evs:List Ev} (h:Run w base b x evs) {g:Nat} (hg:g < base) (cs:Array Value):Run (w.setRow g cs) base b x evs :=
 h.chg (F:=fun k=>k=g) ((Chg.refl (fun k=>k=g) _).setRow (.inl rfl) cs) (fun k hk=>by omega)
theorem results3 {P:Program} {fn:Func} {p q r:Tmp} {ty:TypeId} (h:fn.results=#[.cell p ty,.tmp q,.tmp r]) (tmps:Array Value) (w:World) (g:Nat) (t:TypeId) (cs:Array Value) (fr:Nat×Nat) (d:TypeDesc)
   (hp:tmps.getD p undef=.pointer (some ⟨g,0,none⟩)) (hg:w.heap[g]? = some (.cells cs t fr))
   (hu:P.underlying ty=some d) (hd:(match d with | .struct _ | .array _ _=>true | _=>false)=true) (hi:(P.info? ty).map (·.size)=some cs.size) :
   (results fn tmps).run P w=.ok (.tuple #[.agg cs,tmps.getD q undef,tmps.getD r undef]) w:=by
 have hp':tmps[p]?.getD undef=.pointer (some ⟨g,0,none⟩):=by simpa using hp
 simp [results,h,hp',asAddr,run_loadVar_row w g t ty cs fr d hg hu hd hi]
theorem exec_load_row {P:Program} {o:Oper} {a:Act} {w:World} (ty:TypeId) (y:Operand) (ho:o.op=.load ty y) (g:Nat) (hx:a.eval y=.pointer (some ⟨g,0,none⟩)) (cs:Array Value) (t:TypeId) (fr:Nat×Nat) (hg:w.heap[g]? = some (.cells cs t fr)) (d:TypeDesc)
   (hu:P.underlying ty=some d) (hd:(match d with | .struct _ | .array _ _=>true | _=>false)=true) (hi:(P.info? ty).map (·.size)=some cs.size):(execOp a.eval o).run P w=.ok (.value (.agg cs)) w :=
 exec_load ty y ho _ hx cs d hu hd hi fun j v hv=>by
   rw [add_plain,Nat.zero_add]
   simp only [World.cell?,hg]
   simpa using hv
theorem own_base_le {w:World} {base base' e sz n:Nat} {v:Value} {xs:List Value} (h:w.ownsRow base e sz v n xs) (hb:base'≤base):w.ownsRow base' e sz v n xs:=by
 rcases h.2 with h1 | ⟨g,cap,cur,h1,hg,h2,h3⟩
 · exact ⟨h.1,.inl h1⟩
 · exact ⟨h.1,.inr ⟨g,cap,cur,h1,Nat.le_trans hb hg,h2,h3⟩⟩
theorem Chg.far {F:Nat→Prop} {base:Nat} {a b:World} (h:Chg (Over F base) a b) {g:Nat} (hg:g < a.heap.size) (h1:g < base) (h2:¬ F g):b.heap[g]? = a.heap[g]? :=
 h.block g hg fun h'=>by rcases h' with h' | h';exact h2 h';omega
theorem Run.ecell {w:World} {base b:Nat} {x:Stp} {evs:List Ev} (h:Run w base b x evs):w.cell? ⟨b,31,none⟩=some (.int .i64 x.e):=h.cells.2.2.2.2.2.2.2.2.2.2.2.2.2.2.2
theorem Run.lcell {w:World} {base b:Nat} {x:Stp} {evs:List Ev} (h:Run w base b x evs):w.cell? ⟨b,30,none⟩=some x.l:=h.cells.2.2.2.2.2.2.2.2.2.2.2.2.2.2.1
structure StepEnd (w:World) (base:Nat) (F:Nat→Prop) (m:Value) (i:Ins) (cs zs:Array Value) (r:StepR) (s:St) (s2:St) (v:Value) (e:Int) (evs:List Ev) (rs:List Reg) (w':World):Prop where
 run:Run w' base base ⟨s2,i,m,v,e⟩ evs
 chg:Chg (Over F w.heap.size) w w'
 mem:MemAt w' F m rs
 c0:w'.heap[w.heap.size]? = some (.cells cs 26 (0,0))
 c2:w'.heap[w.heap.size+1+1]? = some (.cells zs 26 (0,0))
 code:(e=0∧r=⟨0,s2,evs,rs⟩)∨(e≠0∧r=⟨e,s,[],rs⟩)
structure StepLate (w:World) (base:Nat) (F:Nat→Prop) (m:Value) (i:Ins) (s2:St) (v:Value) (e:Int) (evs:List Ev) (rs:List Reg) (w':World):Prop where
 run:Run w' base base ⟨s2,i,m,v,e⟩ evs
 chg:Chg (Over F w.heap.size) w w'
 mem:MemAt w' F m rs
theorem StepEnd.late {w w':World} {base:Nat} {F:Nat→Prop} {m:Value} {i:Ins} {cs zs:Array Value} {r:StepR} {s s2:St} {v:Value} {e:Int} {evs:List Ev} {rs:List Reg} (h:StepEnd w base F m i cs zs r s s2 v e evs rs w'):StepLate w base F m i s2 v e evs rs w'.drew :=
 ⟨h.run.next ((Below.refl _ _).drew),h.chg.drew,h.mem.keep (fun _ _=>rfl)⟩
theorem StepLate.setRow {w w':World} {base:Nat} {F:Nat→Prop} {m:Value} {i:Ins} {s2:St} {v:Value} {e:Int} {evs:List Ev} {rs:List Reg} (h:StepLate w base F m i s2 v e evs rs w') {g:Nat} (hg:w.heap.size≤g) (hb:g < base) (hF:∀ k,F k→k < w.heap.size) (cs:Array Value):StepLate w base F m i s2 v e evs rs (w'.setRow g cs) :=
 ⟨h.run.setRow hb cs,h.chg.setRow (.inl (.inr hg)) cs,h.mem.keep fun k hk=>setRow_other _ _ _ _ (by have:=hF k hk;omega)⟩
theorem StepLate.post {w w':World} {base:Nat} {F:Nat→Prop} {m:Value} {i:Ins} {s2:St} {v:Value} {evs:List Ev} {rs:List Reg} (h:StepLate w base F m i s2 v 0 evs rs w') (hb:w.heap.size≤base) {r:StepR} (hr:r=⟨0,s2,evs,rs⟩):DoPost w F m r (.returned (.tuple #[.agg (stRow s2).toArray,v,.int .i64 0])) w':=by
 subst hr
 exact ⟨v,rfl,h.chg,h.mem,own_base_le h.run.row hb⟩
theorem StepLate.bad {w w':World} {base:Nat} {F:Nat→Prop} {m:Value} {i:Ins} {s s2:St} {v:Value} {e:Int} {evs:List Ev} {rs:List Reg} (h:StepLate w base F m i s2 v e evs rs w') {r:StepR} (hr:r=⟨e,s,[],rs⟩):DoPost w F m r (.returned (.tuple #[.agg (stRow s).toArray,.slice none 0 0,.int .i64 e])) w':=by
 subst hr
 exact ⟨.slice none 0 0,rfl,h.chg,h.mem,by simp,.inl ⟨rfl,rfl⟩⟩
set_option maxHeartbeats 1600000 in
theorem Do_bad (s:St) (i:Ins) (size:Int) (m:Value) (w:World) (F:Nat→Prop) (rs:List Reg) (hs:StOk s) (hi:InsOk i) (hm:MemAt w F m rs) (hF:∀ k,F k→k < w.heap.size) (hgood:¬ (chkP i && (decide (1≤size) && decide (size≤15)))=true) :
   Calls Tryz.prog 68 #[.agg (stRow s).toArray,.agg (insRow i).toArray,.int .i64 size,m] w (DoPost w F m (stepF s i size rs)):=by
 obtain ⟨bm,rfl⟩:∃ bm,m=.pointer (some ⟨bm,0,none⟩):=by obtain ⟨bm,v,h,_⟩:=hm;exact ⟨bm,h⟩
 obtain ⟨r,hr⟩:∃ r,r=stepF s i size rs:=⟨_,rfl⟩
 rw [←hr]
 have HR:=Lh hr
 have HM:=Lh hm
 have HF:=Lh hF
 have HS:=Lh hs
 have HCHK:=Lh (fun w=>iCheck_any i hi w)
 obtain ⟨hz,_⟩:=zero_of_info zeroInfoSt
 obtain ⟨W1,hW1,hb1,hs1,_,_⟩:=boxed w (stRow s).toArray 26
 have k1:W1.heap[w.heap.size]? = some (.cells (stRow s).toArray 26 (0,0)):=by rw [hW1];exact heap_alloc_new w _
 obtain ⟨W2,hW2,hb2,hs2,hn2,_⟩:=boxed W1 (insRow i).toArray 40
 obtain ⟨W3,hW3,hb3,hs3,_,_⟩:=boxed W2 zeroSt.toArray 26
 have HSZ:=Lh (stRow_size hs)
 have HONE:=Lh (stRow_one s)
 generalize hcs:(stRow s).toArray=cs at *
 generalize hzs:zeroSt.toArray=zs at *
 have HCS:=Lh hcs
 have HZS:=Lh hzs
 have e1:W1.heap.size=w.heap.size+1:=hs1
 have e2:W2.heap.size=w.heap.size+1+1:=by omega
 have e3:W3.heap.size=w.heap.size+1+1+1:=by omega
 have b0:W3.heap[w.heap.size]? = some (.cells cs 26 (0,0)):=(hb3.block _ (by omega)).trans ((hb2.block _ (by omega)).trans k1)
 have b1:W3.heap[w.heap.size+1]? = some (.cells (insRow i).toArray 40 (0,0)):=(hb3.block _ (by omega)).trans (by rw [hW2,←e1];exact heap_alloc_new W1 _)
 have b2:W3.heap[w.heap.size+1+1]? = some (.cells zs 26 (0,0)):=by rw [hW3,←e2];exact heap_alloc_new W2 _
 have HB0:=Lh b0
 have HB1:=Lh b1
 have HB2:=Lh b2
 have HW:=Lh (show W3=((w.alloc (.cells cs 26)).alloc (.cells (insRow i).toArray 40)).alloc (.cells zs 26) by rw [hW3,hW2,hW1])
 have HBW:=Lh (hb1.trans ((hb2.trans (hb3.mono (by omega))).mono (by omega)))
 have HE3:=Lh e3
 clear hm hF hs hi hr hW1 hW2 hW3 hb1 hb2 hb3 hs1 hs2 hs3 k1 hn2 e1 e2 e3 hcs hzs b0 b1 b2
 go_enter Tryz.func68,Tryz.ntmps68
 go_wp2_with (rw [←HW.out];refine wpList_load_row rfl 40 _ rfl (w.heap.size+1) rfl 40 (insRow i).toArray (0,0) _ HB1.out Tryz.underlying40 rfl infoIns ?_)
 refine (HCHK.out W3).mono ?_
 rintro e w4 ⟨rfl,hb4⟩
 have C0:=Lh ((hb4.block _ (by have:=HE3.out;omega)).trans HB0.out)
 have C1:=Lh ((hb4.block _ (by have:=HE3.out;omega)).trans HB1.out)
 have C2:=Lh ((hb4.block _ (by have:=HE3.out;omega)).trans HB2.out)
 have HB4:=Lh (HBW.out.trans (hb4.mono (by have:=HE3.out;omega)))
 have HSZ4:=Lh (show w.heap.size+1+1+1≤w4.heap.size by have:=hb4.size;have:=HE3.out;omega)
 clear hb4 HB0 HB1 HB2 HW HBW hz
 have hcode:r=⟨2,s,[],rs⟩:=by rw [HR.out];unfold stepF;rw [if_neg hgood]
 have HCODE:=Lh hcode
 have hbad:DoPost w F (.pointer (some ⟨bm,0,none⟩)) r (.returned (.tuple #[.agg cs,.slice none 0 0,.int .i64 2])) (w4.setRow (w.heap.size+1+1) cs):=by
   have hb5:Below w.heap.size w (w4.setRow (w.heap.size+1+1) cs):=Below.setRow HB4.out (by omega) _
   rw [hcode]
   exact ⟨.slice none 0 0,by rw [←HCS.out],Over.below hb5,HM.out.keep (SameOn.of_below hb5 HF.out),by simp,.inl ⟨rfl,rfl⟩⟩
 have HBAD:=Lh hbad
 clear hcode hbad
 cases hc:chkP i with
 | false =>
   have HX:=Lh hc
   clear hc hgood
   unfold errOf
   go_wp2_with (first | (refine wpList_load_row rfl 26 _ rfl w.heap.size rfl 26 cs (0,0) _ C0.out Tryz.underlying26 rfl (by rw [HSZ.out];exact infoSt) ?_) | (refine wpList_store_row rfl 26 _ _ rfl (w.heap.size+1+1) cs rfl rfl 26 zs C2.out (by rw [HSZ.out];exact infoSt) (by rw [HSZ.out,←HZS.out];rfl) HONE.out ?_))
   refine bodyPost_ret (results3 (ty:=26) rfl _ _ (w.heap.size+1+1) 26 cs (0,0) _ rfl (setRow_heap _ _ _ _ _ _ C2.out) Tryz.underlying26 rfl (by rw [HSZ.out];exact infoSt)) rfl ?_
   exact HBAD.out
 | true =>
   have hsz:size < 1∨15 < size:=by
     rw [hc] at hgood
     simp at hgood
     omega
   unfold errOf
   clear hgood
   by_cases h1:size < 1
   · have d1:decide (size < 1)=true:=by simpa using h1
     clear h1 hsz hc
     go_wp2_with (first | (refine wpList_load_row rfl 26 _ rfl w.heap.size rfl 26 cs (0,0) _ C0.out Tryz.underlying26 rfl (by rw [HSZ.out];exact infoSt) ?_) | (refine wpList_store_row rfl 26 _ _ rfl (w.heap.size+1+1) cs rfl rfl 26 zs C2.out (by rw [HSZ.out];exact infoSt) (by rw [HSZ.out,←HZS.out];rfl) HONE.out ?_))
     refine bodyPost_ret (results3 (ty:=26) rfl _ _ (w.heap.size+1+1) 26 cs (0,0) _ rfl (setRow_heap _ _ _ _ _ _ C2.out) Tryz.underlying26 rfl (by rw [HSZ.out];exact infoSt)) rfl ?_
     exact HBAD.out
   · have d1:decide (size < 1)=false:=by simpa using h1
     have d2:decide (15 < size)=true:=by simp;omega
     clear h1 hsz hc
     go_wp2_with (first | (refine wpList_load_row rfl 26 _ rfl w.heap.size rfl 26 cs (0,0) _ C0.out Tryz.underlying26 rfl (by rw [HSZ.out];exact infoSt) ?_) | (refine wpList_store_row rfl 26 _ _ rfl (w.heap.size+1+1) cs rfl rfl 26 zs C2.out (by rw [HSZ.out];exact infoSt) (by rw [HSZ.out,←HZS.out];rfl) HONE.out ?_))
     refine bodyPost_ret (results3 (ty:=26) rfl _ _ (w.heap.size+1+1) 26 cs (0,0) _ rfl (setRow_heap _ _ _ _ _ _ C2.out) Tryz.underlying26 rfl (by rw [HSZ.out];exact infoSt)) rfl ?_
     exact HBAD.out
set_option maxHeartbeats 1600000 in
theorem Do_good (s:St) (i:Ins) (size:Int) (m:Value) (w:World) (F:Nat→Prop) (rs:List Reg) (hs:StOk s) (hi:InsOk i) (hm:MemAt w F m rs) (hF:∀ k,F k→k < w.heap.size) (hgood:(chkP i && (decide (1≤size) && decide (size≤15)))=true) :
   Calls Tryz.prog 68 #[.agg (stRow s).toArray,.agg (insRow i).toArray,.int .i64 size,m] w (DoPost w F m (stepF s i size rs)):=by
 obtain ⟨bm,rfl⟩:∃ bm,m=.pointer (some ⟨bm,0,none⟩):=by obtain ⟨bm,v,h,_⟩:=hm;exact ⟨bm,h⟩
 obtain ⟨r,hr⟩:∃ r,r=stepF s i size rs:=⟨_,rfl⟩
 rw [←hr]
 have HR:=Lh hr
 have HM:=Lh hm
 have HF:=Lh hF
 have HS:=Lh hs
 have HCHK:=Lh (fun w=>iCheck_any i hi w)
 obtain ⟨hz,_⟩:=zero_of_info zeroInfoSt
 obtain ⟨W1,hW1,hb1,hs1,_,_⟩:=boxed w (stRow s).toArray 26
 have k1:W1.heap[w.heap.size]? = some (.cells (stRow s).toArray 26 (0,0)):=by rw [hW1];exact heap_alloc_new w _
 obtain ⟨W2,hW2,hb2,hs2,hn2,_⟩:=boxed W1 (insRow i).toArray 40
 obtain ⟨W3,hW3,hb3,hs3,_,_⟩:=boxed W2 zeroSt.toArray 26
 have HSZ:=Lh (stRow_size hs)
 have HONE:=Lh (stRow_one s)
 generalize hcs:(stRow s).toArray=cs at *
 generalize hzs:zeroSt.toArray=zs at *
 have HCS:=Lh hcs
 have HZS:=Lh hzs
 have e1:W1.heap.size=w.heap.size+1:=hs1
 have e2:W2.heap.size=w.heap.size+1+1:=by omega
 have e3:W3.heap.size=w.heap.size+1+1+1:=by omega
 have b0:W3.heap[w.heap.size]? = some (.cells cs 26 (0,0)):=(hb3.block _ (by omega)).trans ((hb2.block _ (by omega)).trans k1)
 have b1:W3.heap[w.heap.size+1]? = some (.cells (insRow i).toArray 40 (0,0)):=(hb3.block _ (by omega)).trans (by rw [hW2,←e1];exact heap_alloc_new W1 _)
 have b2:W3.heap[w.heap.size+1+1]? = some (.cells zs 26 (0,0)):=by rw [hW3,←e2];exact heap_alloc_new W2 _
 have HB0:=Lh b0
 have HB1:=Lh b1
 have HB2:=Lh b2
 have HW:=Lh (show W3=((w.alloc (.cells cs 26)).alloc (.cells (insRow i).toArray 40)).alloc (.cells zs 26) by rw [hW3,hW2,hW1])
 have HBW:=Lh (hb1.trans ((hb2.trans (hb3.mono (by omega))).mono (by omega)))
 have HE3:=Lh e3
 clear hm hF hs hi hr hW1 hW2 hW3 hb1 hb2 hb3 hs1 hs2 hs3 k1 hn2 e1 e2 e3 hcs hzs b0 b1 b2
 go_enter Tryz.func68,Tryz.ntmps68
 go_wp2_with (rw [←HW.out];refine wpList_load_row rfl 40 _ rfl (w.heap.size+1) rfl 40 (insRow i).toArray (0,0) _ HB1.out Tryz.underlying40 rfl infoIns ?_)
 refine (HCHK.out W3).mono ?_
 rintro e w4 ⟨rfl,hb4⟩
 have C0:=Lh ((hb4.block _ (by have:=HE3.out;omega)).trans HB0.out)
 have C1:=Lh ((hb4.block _ (by have:=HE3.out;omega)).trans HB1.out)
 have C2:=Lh ((hb4.block _ (by have:=HE3.out;omega)).trans HB2.out)
 have HB4:=Lh (HBW.out.trans (hb4.mono (by have:=HE3.out;omega)))
 have HSZ4:=Lh (show w.heap.size+1+1+1≤w4.heap.size by have:=hb4.size;have:=HE3.out;omega)
 clear hb4 HB0 HB1 HB2 HW HBW hz
 have hcode:=HR.out
 unfold stepF at hcode
 rw [if_pos hgood] at hcode
 rw [Bool.and_eq_true,Bool.and_eq_true,decide_eq_true_eq,decide_eq_true_eq] at hgood
 obtain ⟨hc,hz1,hz2⟩:=hgood
 have aA:=wrap_u64 size
 have hp64:=HS.out.pc
 have w1:IntKind.u64.wrap ((s.pc:Int)+(u64 size:Int))=(((s.pc+u64 size) % 18446744073709551616:Nat):Int):=by rw [wrapU'];omega
 have hq64:(s.pc+u64 size) % 18446744073709551616 < 18446744073709551616:=Nat.mod_lt _ (by decide)
 generalize (s.pc+u64 size) % 18446744073709551616=q at *
 have HCODE:=Lh hcode
 have HC:=Lh hc
 have HQ:=Lh hq64
 have hbu:=built_stp s i bm HS.out.len
 rw [HCS.out] at hbu
 have HBU:=Lh hbu
 have d1:decide (size < 1)=false:=by simp;omega
 have d2:decide (15 < size)=false:=by simp;omega
 obtain ⟨W5,hW5,hb5,hs5,_,_⟩:=boxed w4 (stpRow ⟨s,i,.pointer (some ⟨bm,0,none⟩),.slice none 0 0,0⟩).toArray 158
 have hrun:Run W5 w4.heap.size w4.heap.size ⟨s,i,.pointer (some ⟨bm,0,none⟩),.slice none 0 0,0⟩ []:=⟨by rw [hW5];exact heap_alloc_new w4 _,HS.out,Nat.le_refl _,⟨rfl,.inl ⟨rfl,rfl⟩⟩,by simp⟩
 generalize hst:(stpRow ⟨s,i,.pointer (some ⟨bm,0,none⟩),.slice none 0 0,0⟩).toArray=sa at *
 have HRUN:=Lh hrun
 have HW5:=Lh hW5
 have c16:w4.cell? ⟨w.heap.size,16,none⟩=some (.int .u64 s.pc):=by
   rw [cell_of_row w4 w.heap.size 16 cs _ _ C0.out,←HCS.out,List.getElem?_toArray,stRow,List.getElem?_append_right (by simp [HS.out.len])]
   simp [HS.out.len]
 have hlt0:w.heap.size < w4.heap.size:=by have:=HSZ4.out;omega
 have HB5:=Lh hb5
 clear hcode hc hq64 hbu hz1 hz2 hW5 hb5 hs5 hrun hst hp64
 rw [HC.out]
 unfold errOf
 go_wp2_with (first | (refine wpList_load_row rfl 26 _ rfl w.heap.size rfl 26 cs (0,0) _ C0.out Tryz.underlying26 rfl (by rw [HSZ.out];exact infoSt) ?_) | (refine wpList_load_row rfl 40 _ rfl (w.heap.size+1) rfl 40 (insRow i).toArray (0,0) _ C1.out Tryz.underlying40 rfl infoIns ?_) | (refine wpList_built rfl 158 _ rfl sa (Eq.trans (congrArg (Tryz.prog.built 158) (a₂:=[(0,.agg cs),(1,.agg (insRow i).toArray),(2,.pointer (some ⟨bm,0,none⟩))]) (by as_aux_lemma=>kernel_rfl)) HBU.out) ?_))
 rw [←HW5.out]
 refine (see_any HRUN.out 1 s.pc (by simp)).mono ?_
 rintro e w6 ⟨rfl,hb6,aE,hr6⟩
 have c16':=hr6.cells.1
 have f16:=hr6.frozen 16
 have HR6:=Lh (hr6.setPc HQ.out)
 have HB6:=Lh (HB5.out.trans hb6)
 clear hb6 hr6 c16 hlt0
 go_wp2_with fail
 clear aA w1 c16' f16
 cases ho:overF { s with pc:=q } i with
 | some s2 =>
   have HO:=Lh ho
   clear ho
   refine (over_yes HR6.out HC.out HO.out).mono ?_
   rintro e w8 ⟨rfl,hb8,hr8⟩
   have hall:StepEnd w w4.heap.size F (.pointer (some ⟨bm,0,none⟩)) i cs zs r s s2 aE 0 [⟨1,s.pc⟩] rs w8:=by
     have hb:Below w4.heap.size w4 w8:=(HB6.out.setCell (Nat.le_refl _) _).trans hb8
     have hcode:=HCODE.out
     rw [HO.out] at hcode
     refine ⟨hr8,Over.below (HB4.out.trans (hb.mono (by have:=HB4.out.size;omega))),HM.out.keep (SameOn.of_below (HB4.out.trans (hb.mono (by have:=HB4.out.size;omega))) HF.out),(hb.block _ (by have:=HSZ4.out;omega)).trans C0.out,(hb.block _ (by have:=HSZ4.out;omega)).trans C2.out,.inl ⟨rfl,hcode⟩⟩
   have HALL:=Lh hall
   have c31:=hr8.ecell
   have HOK:Hid (StOk s2):=Lh hr8.ok
   clear hall hb8 hr8
   go_wp2
   clear c31
   (refine wp_region_lines (StepLate w w4.heap.size F (.pointer (some ⟨bm,0,none⟩)) i s2 aE 0 [⟨1,s.pc⟩] rs) (by kernel_rfl) (by kernel_rfl) HALL.out.late ?_)
   (try simp only [])
   repeat (first | (refine runL_no (by rfl) ?_;(try simp only [Act.put,List.setIfInBounds_toArray,List.set_cons_zero,List.set_cons_succ])) | (refine runL_val (v:=?_) (by rfl) ?_ ?_;rotate_left;(focus (intro w_ hw_;have k30:=hw_.run.lcell;have k31:=hw_.run.ecell;go_simp;(try with_reducible rfl);done));(try simp only [Act.put,List.setIfInBounds_toArray,List.set_cons_zero,List.set_cons_succ])) | (refine runL_val (v:=.agg (stRow s2).toArray) (by rfl) (fun w_ hw_=>hw_.run.loadSt _ rfl rfl) ?_;(try simp only [Act.put,List.setIfInBounds_toArray,List.set_cons_zero,List.set_cons_succ])) | (refine runL_skip (w1:=w8.drew.setRow (w.heap.size+1+1) (stRow s2).toArray) (by rfl) (by rfl) (exec_store_row 26 _ _ rfl (w.heap.size+1+1) (stRow s2).toArray rfl rfl 26 zs HALL.out.c2 (by rw [stRow_size HOK.out];exact infoSt) (by rw [stRow_size HOK.out,←HZS.out];rfl) (stRow_one _)) (.inr (HALL.out.late.setRow (g:=w.heap.size+1+1) (by omega) (by have:=HSZ4.out;omega) HF.out _)) ?_;(try simp only [Act.put])))
   (refine runL_nil ?_)
   go_wp2
   refine bodyPost_ret (results3 (ty:=26) rfl _ _ (w.heap.size+1+1) 26 (stRow s2).toArray (0,0) _ rfl (setRow_heap w8.drew _ _ _ _ _ HALL.out.c2) Tryz.underlying26 rfl (by rw [stRow_size HOK.out];exact infoSt)) rfl ?_
   refine (HALL.out.late.setRow (g:=w.heap.size+1+1) (by omega) (by have:=HSZ4.out;omega) HF.out _).post (by have:=HSZ4.out;omega) ?_
   rcases HALL.out.code with ⟨_,h⟩ | ⟨h,_⟩
   · exact h
   · exact absurd rfl h
 | none =>
   have HO:=Lh ho
   clear ho
   have hb7:Below w4.heap.size w4 (w6.setCell ⟨w4.heap.size,16,none⟩ (.int .u64 q)):=HB6.out.setCell (Nat.le_refl _) _
   have hb9:=HB4.out.trans (hb7.mono (by have:=HB4.out.size;omega))
   have HD:=Lh (do_says HR6.out HC.out (HM.out.keep (SameOn.of_below hb9 HF.out)) (fun k hk=>by have:=HF.out k hk;have:=HB4.out.size;omega) (by simp) HO.out)
   have HB7:=Lh hb7
   have HB9:=Lh hb9
   clear hb7 hb9
   refine (over_no HR6.out HC.out HO.out).mono ?_
   rintro e w7 ⟨rfl,rfl⟩
   go_wp2_with fail
   refine HD.out.mono ?_
   rintro e w8 ⟨rfl,eA,hch,hm8,hr8⟩
   have hcode:=HCODE.out
   rw [HO.out] at hcode
   clear HCODE HD
   generalize doF { s with pc:=q } i rs 0=d at *
   obtain ⟨st8,ev8,e8,rs8⟩:=d
   have hall:StepEnd w w4.heap.size F (.pointer (some ⟨bm,0,none⟩)) i cs zs r s st8 eA e8 ([⟨1,s.pc⟩]++ev8) rs8 w8:=by
     have hz:=HSZ4.out
     have hz7:=HB7.out.size
     refine ⟨hr8,(Over.below HB9.out).trans (hch.mono fun k _ h=>h.imp id fun h=>by omega),hm8,?_,?_,?_⟩
     · rw [hch.far (by omega) (by omega) (fun h=>by have:=HF.out _ h;omega)];exact (HB7.out.block _ (by omega)).trans C0.out
     · rw [hch.far (by omega) (by omega) (fun h=>by have:=HF.out _ h;omega)];exact (HB7.out.block _ (by omega)).trans C2.out
     · by_cases he:e8=0
       · exact .inl ⟨he,by rw [hcode];simp [he]⟩
       · exact .inr ⟨he,by rw [hcode];simp [he]⟩
   have HALL:=Lh hall
   have c31:w8.cell? ⟨w4.heap.size,31,none⟩=some (.int .i64 e8):=hr8.ecell
   have HOK:Hid (StOk st8):=Lh hr8.ok
   clear hall hr8 hch hm8 hcode
   by_cases he:e8=0
   · subst he
     go_wp2
     clear c31
     (refine wp_region_lines (StepLate w w4.heap.size F (.pointer (some ⟨bm,0,none⟩)) i st8 eA 0 ([⟨1,s.pc⟩]++ev8) rs8) (by kernel_rfl) (by kernel_rfl) HALL.out.late ?_)
     (try simp only [])
     repeat (first | (refine runL_no (by rfl) ?_;(try simp only [Act.put,List.setIfInBounds_toArray,List.set_cons_zero,List.set_cons_succ])) | (refine runL_val (v:=?_) (by rfl) ?_ ?_;rotate_left;(focus (intro w_ hw_;have k30:=hw_.run.lcell;have k31:=hw_.run.ecell;go_simp;(try with_reducible rfl);done));(try simp only [Act.put,List.setIfInBounds_toArray,List.set_cons_zero,List.set_cons_succ])) | (refine runL_val (v:=.agg (stRow st8).toArray) (by rfl) (fun w_ hw_=>hw_.run.loadSt _ rfl rfl) ?_;(try simp only [Act.put,List.setIfInBounds_toArray,List.set_cons_zero,List.set_cons_succ])) | (refine runL_skip (w1:=w8.drew.setRow (w.heap.size+1+1) (stRow st8).toArray) (by rfl) (by rfl) (exec_store_row 26 _ _ rfl (w.heap.size+1+1) (stRow st8).toArray rfl rfl 26 zs HALL.out.c2 (by rw [stRow_size HOK.out];exact infoSt) (by rw [stRow_size HOK.out,←HZS.out];rfl) (stRow_one _)) (.inr (HALL.out.late.setRow (g:=w.heap.size+1+1) (by omega) (by have:=HSZ4.out;omega) HF.out _)) ?_;(try simp only [Act.put])))
     (refine runL_nil ?_)
     go_wp2
     refine bodyPost_ret (results3 (ty:=26) rfl _ _ (w.heap.size+1+1) 26 (stRow st8).toArray (0,0) _ rfl (setRow_heap w8.drew _ _ _ _ _ HALL.out.c2) Tryz.underlying26 rfl (by rw [stRow_size HOK.out];exact infoSt)) rfl ?_
     refine (HALL.out.late.setRow (g:=w.heap.size+1+1) (by omega) (by have:=HSZ4.out;omega) HF.out _).post (by have:=HSZ4.out;omega) ?_
     rcases HALL.out.code with ⟨_,h⟩ | ⟨h,_⟩
     · exact h
     · exact absurd rfl h
   · have hz:(e8 != 0)=true:=by simpa using he
     have HE:=Lh he
     clear he
     go_wp2
     clear c31 hz
     (refine wp_region_lines (fun w_=>StepLate w w4.heap.size F (.pointer (some ⟨bm,0,none⟩)) i st8 eA e8 ([⟨1,s.pc⟩]++ev8) rs8 w_∧w_.heap[w.heap.size]? = some (.cells cs 26 (0,0))) (by kernel_rfl) (by kernel_rfl) (And.intro HALL.out.late HALL.out.c0) ?_)
     (try simp only [])
     repeat (first | (refine runL_no (by rfl) ?_;(try simp only [Act.put,List.setIfInBounds_toArray,List.set_cons_zero,List.set_cons_succ])) | (refine runL_val (v:=?_) (by rfl) ?_ ?_;rotate_left;(focus (intro w_ hw_;have k30:=hw_.1.run.lcell;have k31:=hw_.1.run.ecell;go_simp;(try with_reducible rfl);done));(try simp only [Act.put,List.setIfInBounds_toArray,List.set_cons_zero,List.set_cons_succ])) | (refine runL_val (v:=.agg cs) (by rfl) (fun w_ hw_=>exec_load_row 26 _ rfl w.heap.size rfl cs 26 (0,0) hw_.2 _ Tryz.underlying26 rfl (by rw [HSZ.out];exact infoSt)) ?_;(try simp only [Act.put,List.setIfInBounds_toArray,List.set_cons_zero,List.set_cons_succ])) | (refine runL_skip (w1:=w8.drew.setRow (w.heap.size+1+1) cs) (by rfl) (by rfl) (exec_store_row 26 _ _ rfl (w.heap.size+1+1) cs rfl rfl 26 zs HALL.out.c2 (by rw [HSZ.out];exact infoSt) (by rw [HSZ.out,←HZS.out];rfl) HONE.out) (.inr ⟨HALL.out.late.setRow (g:=w.heap.size+1+1) (by omega) (by have:=HSZ4.out;omega) HF.out _,(setRow_other _ _ _ _ (by omega)).trans HALL.out.c0⟩) ?_;(try simp only [Act.put])))
     (refine runL_nil ?_)
     go_wp2
     refine bodyPost_ret (results3 (ty:=26) rfl _ _ (w.heap.size+1+1) 26 cs (0,0) _ rfl (setRow_heap w8.drew _ _ _ _ _ HALL.out.c2) Tryz.underlying26 rfl (by rw [HSZ.out];exact infoSt)) rfl ?_
     have h:=(HALL.out.late.setRow (g:=w.heap.size+1+1) (by omega) (by have:=HSZ4.out;omega) HF.out cs).bad (r:=r) (s:=s) (by
       rcases HALL.out.code with ⟨h,_⟩ | ⟨_,h⟩
       · exact absurd h HE.out
       · exact h)
     rw [HCS.out] at h
     exact h
theorem Do_any (s:St) (i:Ins) (size:Int) (m:Value) (w:World) (F:Nat→Prop) (rs:List Reg) (hs:StOk s) (hi:InsOk i) (hm:MemAt w F m rs) (hF:∀ k,F k→k < w.heap.size) :
   Calls Tryz.prog 68 #[.agg (stRow s).toArray,.agg (insRow i).toArray,.int .i64 size,m] w (DoPost w F m (stepF s i size rs)):=by
 by_cases hgood:(chkP i && (decide (1≤size) && decide (size≤15)))=true
 · exact Do_good s i size m w F rs hs hi hm hF hgood
 · exact Do_bad s i size m w F rs hs hi hm hF hgood
end Go.Proofs.YtocndimihokcmaaGreat
