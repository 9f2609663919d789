/- Part 8 of a claim; what it proves stands in its last text. -/
import Derived.Test.YtjbabpnepjhllaaGreatSx2
import Derived.Test.YtjbabpnepjhllaaGreatSx7
import Derived.ChangeKeysEq
import Derived.Laws.StructEq
import Derived.Maps.RangeWalk
import Derived.Maps.Ext
import Derived.Laws.IdiomRangeMap
import Derived.Deep.LoopGhost
namespace Go.Proofs.YtjbabpnepjhllaaGreat
open Go.RowKit
def firstIn (p:Nat→Bool) (n k:Nat):Int:=match (List.range' k (n - k)).find? p with | some i=>i | none=>-1
theorem firstIn_yes {p:Nat→Bool} {n k:Nat} (h:k < n) (hp:p k=true):firstIn p n k=k:=by
 have:n - k=(n - k - 1)+1:=by omega
 rw [firstIn,this,List.range'_succ,List.find?_cons,hp]
theorem firstIn_no {p:Nat→Bool} {n k:Nat} (h:k < n) (hp:p k=false):firstIn p n k=firstIn p n (k+1):=by
 have:n - k=(n - (k+1))+1:=by omega
 rw [firstIn,this,List.range'_succ,List.find?_cons,hp];rfl
theorem firstIn_end {p:Nat→Bool} {n:Nat}:firstIn p n n = -1:=by simp [firstIn]
theorem firstIn_any {T:Type} (p:T→Bool) (l:List T) (d:T):decide (0≤firstIn (fun k=>p (l.getD k d)) l.length 0)=l.any p:=by
 have key:∀ m k,m+k=l.length→decide (0≤firstIn (fun k=>p (l.getD k d)) l.length k)=(l.drop k).any p:=by
   intro m
   induction m with
   | zero => intro k h; obtain rfl : k = l.length := by omega
             simp [firstIn_end]
   | succ m ih =>
     intro k h
     have hk:k < l.length:=by omega
     rw [List.drop_eq_getElem_cons hk,List.any_cons]
     have hg:l.getD k d=l[k]:=by simp [List.getD,hk]
     cases hp:p l[k]
     · rw [firstIn_no hk (by simp only [hg,hp]),ih (k+1) (by omega)];simp
     · rw [firstIn_yes hk (by simp only [hg,hp])];simp
 simpa using key l.length 0 (by omega)
set_option maxHeartbeats 800000 in
theorem IndexFunc_Int (v:Value) (g:Nat) (cap:Array Value) (w:World) (F:Nat→Prop) (l:List Int) (p:Int→Bool) (hn:l.length≤9223372036854775807)
   (hg:∀ args w,(callFunc g args).run Tryz.prog w=.ok (.enter g args) w) (hl:NumsAt w F v l) (hF:∀ k,F k→k < w.heap.size)
   (hf:∀ r∈l,∀ wr,Below w.heap.size w wr→Calls Tryz.prog g (#[.int .i64 r]++cap) wr fun e w'=>e=.returned (.bool (p r))∧Below wr.heap.size wr w') :
   Calls Tryz.prog 91 #[v,.func (.func g) #[] cap] w fun e w'=>e=.returned (.int .i64 (firstIn (fun k=>p (l.getD k 0)) l.length 0))∧Below w.heap.size w w':=by
 obtain ⟨A,c,rfl,_⟩:=rows_form hl
 generalize hpp:(fun k=>p (l.getD k 0))=q
 have HPP:=Lh hpp;clear hpp
 have H:=Lh hf;clear hf
 have HL:=Lh hl;clear hl
 have HF:=Lh hF;clear hF
 generalize hnl:l.length=n at *
 have HNL:=Lh hnl;clear hnl
 go_enter Tryz.func91,Tryz.ntmps91
 go_wp2
 go_loopw [5,8] (fun _ i wr=>∃ k:Nat,k≤n∧i=.int .i64 k∧Below w.heap.size w wr∧firstIn q n 0=firstIn q n k) (fun _ i _=>n - (intOf i).toNat)
 case atStart=>exact ⟨0,by omega,rfl,Below.refl _ _,rfl⟩
 case round =>
   obtain ⟨k,hk,rfl,hbl,hfi⟩:=hrel
   have HFI:=Lh hfi;clear hfi
   by_cases hlt:k < n
   · obtain ⟨r,hr⟩:∃ r,l[k]? = some r:=⟨_,List.getElem?_eq_getElem (by have:=HNL.out;omega)⟩
     obtain ⟨b,off,rfl,hFb,h0⟩:=HL.out.at_ hr
     have g0:=(hbl.cell (p:=⟨b,off+k,none⟩) (HF.out b hFb)).trans h0
     clear h0
     have Hk:=Lh (H.out r (List.mem_of_getElem? hr) wr hbl)
     have hq:q k=p r:=by rw [←HPP.out];simp [List.getD,hr]
     clear hr H
     cases hp:p r
     · rw [hp] at Hk hq
       have HFN:=Lh ((HFI.out).trans (firstIn_no hlt hq));clear hp HFI hq
       go_wp2_with ((with_reducible refine (Hk.out).mono ?_);rintro e w1 ⟨rfl,hb1⟩)
       go_roundw
       case rel=>exact ⟨k+1,by omega,by go_num,hbl.trans (hb1.mono hbl.size),HFN.out⟩
       case measure=>simp [intOf];omega
     · rw [hp] at Hk hq
       have HFN:=Lh ((HFI.out).trans (firstIn_yes hlt hq));clear hp HFI hq
       go_wp2_with ((with_reducible refine (Hk.out).mono ?_);rintro e w1 ⟨rfl,hb1⟩)
       go_ret
       exact ⟨ret_int HFN.out.symm,hbl.trans (hb1.mono hbl.size)⟩
   · go_wp2
     go_ret
     exact ⟨ret_int (by rw [HFI.out,show k=n from by omega,firstIn_end]),hbl⟩
set_option maxHeartbeats 400000 in
theorem ContainsFunc_Int (v:Value) (g:Nat) (cap:Array Value) (w:World) (F:Nat→Prop) (l:List Int) (p:Int→Bool) (hn:l.length≤9223372036854775807)
   (hg:∀ args w,(callFunc g args).run Tryz.prog w=.ok (.enter g args) w) (hl:NumsAt w F v l) (hF:∀ k,F k→k < w.heap.size)
   (hf:∀ r∈l,∀ wr,Below w.heap.size w wr→Calls Tryz.prog g (#[.int .i64 r]++cap) wr fun e w'=>e=.returned (.bool (p r))∧Below wr.heap.size wr w') :
   Calls Tryz.prog 64 #[v,.func (.func g) #[] cap] w fun e w'=>e=.returned (.bool (l.any p))∧Below w.heap.size w w':=by
 have HI:=Lh (IndexFunc_Int v g cap w F l p hn hg hl hF hf)
 have HA:=Lh (firstIn_any p l 0)
 obtain ⟨A,c,rfl,_⟩:=rows_form hl
 clear hf hl hF hg
 go_enter Tryz.func64,Tryz.ntmps64
 go_wp2_with ((with_reducible refine (HI.out).mono ?_);rintro e w1 ⟨rfl,hb1⟩)
 go_ret
 exact ⟨ret_bool HA.out,hb1⟩
set_option maxHeartbeats 800000 in
theorem IndexFunc_Fct (v:Value) (g:Nat) (cap:Array Value) (w:World) (F:Nat→Prop) (l:List Fct) (p:Fct→Bool) (hn:l.length≤9223372036854775807)
   (hg:∀ args w,(callFunc g args).run Tryz.prog w=.ok (.enter g args) w) (hl:FactsAt w F v l) (hF:∀ k,F k→k < w.heap.size)
   (hf:∀ r∈l,∀ wr,Below w.heap.size w wr→Calls Tryz.prog g (#[.agg #[.int .i64 r.kind,.int .i64 r.a,.int .i64 r.b]]++cap) wr fun e w'=>e=.returned (.bool (p r))∧Below wr.heap.size wr w') :
   Calls Tryz.prog 67 #[v,.func (.func g) #[] cap] w fun e w'=>e=.returned (.int .i64 (firstIn (fun k=>p (l.getD k ⟨0,0,0⟩)) l.length 0))∧Below w.heap.size w w':=by
 obtain ⟨A,c,rfl,_⟩:=rows_form hl
 generalize hpp:(fun k=>p (l.getD k ⟨0,0,0⟩))=q
 have HPP:=Lh hpp;clear hpp
 have H:=Lh hf;clear hf
 have HL:=Lh hl;clear hl
 have HF:=Lh hF;clear hF
 generalize hnl:l.length=n at *
 have HNL:=Lh hnl;clear hnl
 go_enter Tryz.func67,Tryz.ntmps67
 go_wp2
 go_loopw [5,8] (fun _ i wr=>∃ k:Nat,k≤n∧i=.int .i64 k∧Below w.heap.size w wr∧firstIn q n 0=firstIn q n k) (fun _ i _=>n - (intOf i).toNat)
 case atStart=>exact ⟨0,by omega,rfl,Below.refl _ _,rfl⟩
 case round =>
   obtain ⟨k,hk,rfl,hbl,hfi⟩:=hrel
   have HFI:=Lh hfi;clear hfi
   by_cases hlt:k < n
   · obtain ⟨r,hr⟩:∃ r,l[k]? = some r:=⟨_,List.getElem?_eq_getElem (by have:=HNL.out;omega)⟩
     obtain ⟨b,off,rfl,hFb,h0,h1,h2⟩:=HL.out.at_ hr
     have g0:=(hbl.cell (p:=⟨b,off+k*3,none⟩) (HF.out b hFb)).trans h0
     have g1:=(hbl.cell (p:=⟨b,off+k*3+1,none⟩) (HF.out b hFb)).trans h1
     have g2:=(hbl.cell (p:=⟨b,off+k*3+2,none⟩) (HF.out b hFb)).trans h2
     clear h0 h1 h2
     have Hk:=Lh (H.out r (List.mem_of_getElem? hr) wr hbl)
     have hq:q k=p r:=by rw [←HPP.out];simp [List.getD,hr]
     clear hr H
     cases hp:p r
     · rw [hp] at Hk hq
       have HFN:=Lh ((HFI.out).trans (firstIn_no hlt hq));clear hp HFI hq
       go_wp2_with ((with_reducible refine (Hk.out).mono ?_);rintro e w1 ⟨rfl,hb1⟩)
       go_roundw
       case rel=>exact ⟨k+1,by omega,by go_num,hbl.trans (hb1.mono hbl.size),HFN.out⟩
       case measure=>simp [intOf];omega
     · rw [hp] at Hk hq
       have HFN:=Lh ((HFI.out).trans (firstIn_yes hlt hq));clear hp HFI hq
       go_wp2_with ((with_reducible refine (Hk.out).mono ?_);rintro e w1 ⟨rfl,hb1⟩)
       go_ret
       exact ⟨ret_int HFN.out.symm,hbl.trans (hb1.mono hbl.size)⟩
   · go_wp2
     go_ret
     exact ⟨ret_int (by rw [HFI.out,show k=n from by omega,firstIn_end]),hbl⟩
set_option maxHeartbeats 400000 in
theorem ContainsFunc_Fct (v:Value) (g:Nat) (cap:Array Value) (w:World) (F:Nat→Prop) (l:List Fct) (p:Fct→Bool) (hn:l.length≤9223372036854775807)
   (hg:∀ args w,(callFunc g args).run Tryz.prog w=.ok (.enter g args) w) (hl:FactsAt w F v l) (hF:∀ k,F k→k < w.heap.size)
   (hf:∀ r∈l,∀ wr,Below w.heap.size w wr→Calls Tryz.prog g (#[.agg #[.int .i64 r.kind,.int .i64 r.a,.int .i64 r.b]]++cap) wr fun e w'=>e=.returned (.bool (p r))∧Below wr.heap.size wr w') :
   Calls Tryz.prog 38 #[v,.func (.func g) #[] cap] w fun e w'=>e=.returned (.bool (l.any p))∧Below w.heap.size w w':=by
 have HI:=Lh (IndexFunc_Fct v g cap w F l p hn hg hl hF hf)
 have HA:=Lh (firstIn_any p l ⟨0,0,0⟩)
 obtain ⟨A,c,rfl,_⟩:=rows_form hl
 clear hf hl hF hg
 go_enter Tryz.func38,Tryz.ntmps38
 go_wp2_with ((with_reducible refine (HI.out).mono ?_);rintro e w1 ⟨rfl,hb1⟩)
 go_ret
 exact ⟨ret_bool HA.out,hb1⟩
end Go.Proofs.YtjbabpnepjhllaaGreat
namespace Go.Proofs.YtjbabpnepjhllaaGreat
open Go.RowKit
set_option maxRecDepth 100000
theorem beqF (x y:Fct):(x == y)=(x.kind == y.kind && (x.a == y.a && x.b == y.b)):=by
 rw [Bool.eq_iff_iff]
 simp only [beq_iff_eq,Bool.and_eq_true]
 exact ⟨fun e=>by subst e;exact ⟨rfl,rfl,rfl⟩,fun h=>Fct.ext_ h.1 h.2.1 h.2.2⟩
theorem eq_fact (x y:Fct) (w:World):(Op.equalIn 10000 45 (.agg #[.int .i64 x.kind,.int .i64 x.a,.int .i64 x.b]) (.agg #[.int .i64 y.kind,.int .i64 y.a,.int .i64 y.b])).run Tryz.prog w=.ok (x == y) w:=by
 have hS:Tryz.prog.underlying 45=some (.struct (Tryz.prog.fieldsOf 45)):=by kernel_rfl
 have hp:Tryz.prog.stoodInHeld 45=false:=by kernel_rfl
 rw [show (10000:Nat)=9999+1 from rfl,run_equalIn_agg w 9999 45 _ _ hS hp,beqF]
 simp only [Program.fieldsOf,Tryz.underlying45]
 go_simp
 by_cases h1:x.kind=y.kind <;> by_cases h2:x.a=y.a <;> by_cases h3:x.b=y.b <;> simp [h1,h2,h3]
set_option maxHeartbeats 4000000 in
theorem knows1_any (x f:Fct) (B:Nat) (w:World) (h0:w.cell? ⟨B,0,none⟩=some (.int .i64 f.kind)) (h1:w.cell? ⟨B,1,none⟩=some (.int .i64 f.a)) (h2:w.cell? ⟨B,2,none⟩=some (.int .i64 f.b)) (hB:B < w.heap.size) :
   Calls Tryz.prog 49 #[.agg #[.int .i64 x.kind,.int .i64 x.a,.int .i64 x.b],.pointer (some ⟨B,0,none⟩)] w fun e w'=>e=.returned (.bool (saysF x f))∧Below w.heap.size w w':=by
 have heq:=fun w=>eq_fact x f w
 have hv:saysF x f=(x == f || (f.kind == 3 && ((x.kind == 1 && x.a == f.a) || (x.kind == 2 && x.b == f.a)))):=rfl
 obtain ⟨e,he⟩:∃ e,(x == f)=e:=⟨_,rfl⟩
 rw [he] at heq hv
 cases d0:(f.kind == 3)
 · rw [d0] at hv
   cases e
   · have HV:=Lh (show saysF x f=false by rw [hv];rfl)
     clear hv he
     go_enter Tryz.func49,Tryz.ntmps49
     go_wp2
     go_ret
     exact ⟨ret_bool HV.out.symm,(Below.refl _ _).alloc (Nat.le_refl _) _⟩
   · have HV:=Lh (show saysF x f=true by rw [hv];rfl)
     clear hv he
     go_enter Tryz.func49,Tryz.ntmps49
     go_wp2
     go_ret
     exact ⟨ret_bool HV.out.symm,(Below.refl _ _).alloc (Nat.le_refl _) _⟩
 · cases e
   rotate_left
   · have HV:=Lh (show saysF x f=true by rw [hv];rfl)
     clear hv he
     go_enter Tryz.func49,Tryz.ntmps49
     go_wp2
     go_ret
     exact ⟨ret_bool HV.out.symm,(Below.refl _ _).alloc (Nat.le_refl _) _⟩
   have HD0:=Lh d0
   cases d1:(x.kind == 1)
   · cases d2:(x.kind == 2)
     · have HV:=Lh (show saysF x f=false by rw [hv,d0,d1,d2];rfl)
       clear hv he
       go_enter Tryz.func49,Tryz.ntmps49
       go_wp2
       go_ret
       exact ⟨ret_bool HV.out.symm,(Below.refl _ _).alloc (Nat.le_refl _) _⟩
     · cases d3:(x.b == f.a)
       · have HV:=Lh (show saysF x f=false by rw [hv,d0,d1,d2,d3];rfl)
         clear hv he
         go_enter Tryz.func49,Tryz.ntmps49
         go_wp2
         go_ret
         exact ⟨ret_bool HV.out.symm,(Below.refl _ _).alloc (Nat.le_refl _) _⟩
       · have HV:=Lh (show saysF x f=true by rw [hv,d0,d1,d2,d3];rfl)
         clear hv he
         go_enter Tryz.func49,Tryz.ntmps49
         go_wp2
         go_ret
         exact ⟨ret_bool HV.out.symm,(Below.refl _ _).alloc (Nat.le_refl _) _⟩
   · have d2:(x.kind == 2)=false:=by simp only [beq_iff_eq] at d1;rw [d1];rfl
     cases d3:(x.a == f.a)
     · have HV:=Lh (show saysF x f=false by rw [hv,d0,d1,d2,d3];rfl)
       clear hv he
       go_enter Tryz.func49,Tryz.ntmps49
       go_wp2
       go_ret
       exact ⟨ret_bool HV.out.symm,(Below.refl _ _).alloc (Nat.le_refl _) _⟩
     · have HV:=Lh (show saysF x f=true by rw [hv,d0,d1,d2,d3];rfl)
       clear hv he
       go_enter Tryz.func49,Tryz.ntmps49
       go_wp2
       go_ret
       exact ⟨ret_bool HV.out.symm,(Below.refl _ _).alloc (Nat.le_refl _) _⟩
set_option maxHeartbeats 1000000 in
theorem Knows_any (v:Value) (f:Fct) (l:List Fct) (w:World) (F:Nat→Prop) (hl:FactsAt w F v l) (hF:∀ k,F k→k < w.heap.size) (hn:l.length≤100000) :
   Calls Tryz.prog 19 #[v,.agg #[.int .i64 f.kind,.int .i64 f.a,.int .i64 f.b]] w fun e w'=>e=.returned (.bool (knowsF l f))∧Below w.heap.size w w':=by
 obtain ⟨W,hW⟩:∃ W,W=w.alloc (.cells #[.int .i64 f.kind,.int .i64 f.a,.int .i64 f.b] 45):=⟨_,rfl⟩
 have hb:Below w.heap.size w W:=by rw [hW];exact (Below.refl _ _).alloc (Nat.le_refl _) _
 have hz:W.heap.size=w.heap.size+1:=by rw [hW];simp
 have hc:∀ i,W.cell? ⟨w.heap.size,i,none⟩=#[Value.int .i64 f.kind,.int .i64 f.a,.int .i64 f.b][i]?:=fun i=>by rw [hW,World.cell?_alloc_at _ _ _ _ rfl]
 have HP:=Lh (ContainsFunc_Fct v 49 #[.pointer (some ⟨w.heap.size,0,none⟩)] W F l (fun x=>saysF x f) (by omega) (enters_of Tryz.func49 (by kernel_rfl) rfl) (Rows.keep hl (SameOn.of_below hb hF)) (fun k hk=>by have:=hF k hk;omega)
   (fun x _ wr hbr=>knows1_any x f w.heap.size wr ((hbr.cell (p:=⟨w.heap.size,0,none⟩) (by simp only;omega)).trans (hc 0)) ((hbr.cell (p:=⟨w.heap.size,1,none⟩) (by simp only;omega)).trans (hc 1)) ((hbr.cell (p:=⟨w.heap.size,2,none⟩) (by simp only;omega)).trans (hc 2)) (by have:=hbr.size;omega)))
 have HW:=Lh hW
 have HB:=Lh hb
 obtain ⟨A,c,rfl,_⟩:=rows_form hl
 clear hW hb hz hc hl hF hn
 go_enter Tryz.func19,Tryz.ntmps19
 go_upto_region 1 with fail
 rw [←HW.out]
 go_wp2_with ((with_reducible refine (HP.out).mono ?_);rintro e w1 ⟨rfl,hb1⟩)
 go_ret
 exact ⟨rfl,HB.out.trans (hb1.mono HB.out.size)⟩
end Go.Proofs.YtjbabpnepjhllaaGreat
namespace Go.Proofs.YtjbabpnepjhllaaGreat
open Go.RowKit
set_option maxRecDepth 100000
set_option maxHeartbeats 4000000 in
theorem has_any (f:Fct) (v:Int) (w:World):Calls Tryz.prog 79 #[.agg #[.int .i64 f.kind,.int .i64 f.a,.int .i64 f.b],.int .i64 v] w fun e w'=>e=.returned (.bool (hasF f v))∧Below w.heap.size w w':=by
 have hv:hasF f v=(f.a == v || (f.kind == 2 && f.b == v)):=rfl
 cases d0:(f.a == v)
 · cases d1:(f.kind == 2)
   · have HV:=Lh (show hasF f v=false by rw [hv,d0,d1];rfl)
     clear hv
     go_enter Tryz.func79,Tryz.ntmps79
     go_wp2
     go_ret
     exact ⟨ret_bool HV.out.symm,(Below.refl _ _).alloc (Nat.le_refl _) _⟩
   · cases d2:(f.b == v)
     · have HV:=Lh (show hasF f v=false by rw [hv,d0,d1,d2];rfl)
       clear hv
       go_enter Tryz.func79,Tryz.ntmps79
       go_wp2
       go_ret
       exact ⟨ret_bool HV.out.symm,(Below.refl _ _).alloc (Nat.le_refl _) _⟩
     · have HV:=Lh (show hasF f v=true by rw [hv,d0,d1,d2];rfl)
       clear hv
       go_enter Tryz.func79,Tryz.ntmps79
       go_wp2
       go_ret
       exact ⟨ret_bool HV.out.symm,(Below.refl _ _).alloc (Nat.le_refl _) _⟩
 · have HV:=Lh (show hasF f v=true by rw [hv,d0];rfl)
   clear hv
   go_enter Tryz.func79,Tryz.ntmps79
   go_wp2
   go_ret
   exact ⟨ret_bool HV.out.symm,(Below.refl _ _).alloc (Nat.le_refl _) _⟩
theorem alone_any (k a:Int) (w:World):Calls Tryz.prog 110 #[.int .i64 k,.int .i64 a] w fun e w'=>e=.returned (.agg #[.int .i64 k,.int .i64 a,.int .i64 (-1)])∧Below w.heap.size w w':=by
 go_enter Tryz.func110,Tryz.ntmps110
 go_wp2
 refine bodyPost_ret (results_cell_row (ty:=45) rfl _ _ w.heap.size 45 _ (0,0) _ rfl (heap_alloc_new w _) Tryz.underlying45 rfl (by kernel_rfl)) rfl ⟨rfl,(Below.refl _ _).alloc (Nat.le_refl _) _⟩
theorem dalone_any (k a:Int) (w:World):Calls Tryz.prog 68 #[.int .i64 k,.int .i64 a] w fun e w'=>e=.returned (.agg #[.int .i64 k,.int .i64 a,.int .i64 (-1)])∧Below w.heap.size w w':=by
 go_enter Tryz.func68,Tryz.ntmps68
 go_wp2
 refine bodyPost_ret (results_cell_row (ty:=45) rfl _ _ w.heap.size 45 _ (0,0) _ rfl (heap_alloc_new w _) Tryz.underlying45 rfl (by kernel_rfl)) rfl ⟨rfl,(Below.refl _ _).alloc (Nat.le_refl _) _⟩
theorem less_any (a b:Int) (w:World):Calls Tryz.prog 112 #[.int .i64 a,.int .i64 b] w fun e w'=>e=.returned (.agg #[.int .i64 2,.int .i64 a,.int .i64 b])∧Below w.heap.size w w':=by
 go_enter Tryz.func112,Tryz.ntmps112
 go_wp2
 refine bodyPost_ret (results_cell_row (ty:=45) rfl _ _ w.heap.size 45 _ (0,0) _ rfl (heap_alloc_new w _) Tryz.underlying45 rfl (by kernel_rfl)) rfl ⟨rfl,(Below.refl _ _).alloc (Nat.le_refl _) _⟩
theorem dless_any (a b:Int) (w:World):Calls Tryz.prog 69 #[.int .i64 a,.int .i64 b] w fun e w'=>e=.returned (.agg #[.int .i64 2,.int .i64 a,.int .i64 b])∧Below w.heap.size w w':=by
 go_enter Tryz.func69,Tryz.ntmps69
 go_wp2
 refine bodyPost_ret (results_cell_row (ty:=45) rfl _ _ w.heap.size 45 _ (0,0) _ rfl (heap_alloc_new w _) Tryz.underlying45 rfl (by kernel_rfl)) rfl ⟨rfl,(Below.refl _ _).alloc (Nat.le_refl _) _⟩
end Go.Proofs.YtjbabpnepjhllaaGreat
namespace Go.Proofs.YtjbabpnepjhllaaGreat
open Go.RowKit Go.Maps
set_option maxRecDepth 100000
theorem grownBy_of_below {w w':World} (h:Below w.heap.size w w'):w.grownBy w' none:=⟨h.os,h.tape,h.output,h.size,fun k hk _=>h.block k hk⟩
open Classical in
noncomputable def onKey (p:Fct→Bool) (kl:Lit) (_:DataW Unit):Bool:=decide (∃ f,FctOk f∧kl=keyL f∧p f=true)
open Classical in
theorem onKey_at (p:Fct→Bool) (f:Fct) (d:DataW Unit) (hf:FctOk f):onKey p (keyL f) d=p f:=by
 unfold onKey
 by_cases h:p f=true
 · rw [h];exact decide_eq_true ⟨f,hf,rfl,h⟩
 · have h':p f=false:=by simpa using h
   rw [h']
   refine decide_eq_false fun ⟨g,hg,e,hp⟩=>?_
   rw [←keyL_inj hf hg e] at hp
   exact h hp
set_option maxHeartbeats 4000000 in
theorem DeleteFunc_any (g:Nat) (cb:Array Value) (b n:Nat) (l:List Fct) (w:World) (p:Fct→Bool) (eg:∀ args w,(callFunc g args).run Tryz.prog w=.ok (.enter g args) w) (hset:SetAt w b n l)
   (hdel:∀ (W:World) (f:Fct),w.grownBy W (some b)→Calls Tryz.prog g (#[.agg #[.int .i64 f.kind,.int .i64 f.a,.int .i64 f.b],.agg #[]]++cb) W fun e w'=>e=.returned (.bool (p f))∧Below W.heap.size W w') :
   Calls Tryz.prog 77 #[.map (some b),.func (.func g) #[] cb] w fun e w'=>e=.returned (.tuple #[])∧SetAt w' b n (l.filter fun f=>!p f)∧w.grownBy w' (some b):=by
 obtain ⟨D,hown,hD⟩:=hset
 have HSD:=Lh hD
 obtain ⟨es0,rfl,hap,hkeys⟩:=hown.entries keyedF
 have HD:=Lh hdel
 have hpd:=onKey_at p
 generalize onKey p=pd at hpd
 have HPD:=Lh hpd
 clear hdel hD hpd
 go_enter Tryz.func77,Tryz.ntmps77
 go_wp2_with (first
   | (at_range;refine wpList_range_own _ rfl _ 85 rfl 45 106 keyedF Tryz.underlying85 (unitElem (H:=Unit)) b n _ rfl hown ?_;intro w0 hrg0 hg0 hs0)
   | go_in)
 go_frame
 go_loopw [8] (fun _ wr=>∃ (left:Lit→Bool) (cnt:Nat),wr.ranges Tryz.prog 45 (unitElem (H:=Unit)) b w.heap.size n (Fk pd es0 left) left cnt∧w.grownBy wr (some b))
   (fun _ wr=>wr.rangeLeft b w.heap.size)
 case atStart=>exact ⟨_,_,by rw [Fk_start hkeys];exact hrg0,hg0.but _⟩
 case round =>
   obtain ⟨left,cnt,hrg,hgw⟩:=hrel
   go_wp2_with (first
     | (at_next;refine wpList_next_ranges _ rfl _ rfl 45 keyedF (unitElem (H:=Unit)) factV (fun _:Unit=>Value.agg #[]) (fun key kl hk=>by obtain ⟨f,_,rfl,_⟩:=keyOf_inv hk;exact ⟨f,rfl⟩) (fun v y hv=>by obtain ⟨rfl,_⟩:=unitElem_inv hv;exact ⟨(),rfl⟩) b w.heap.size n _ _ _ rfl hrg ?_ ?_)
     | go_in)
   · intro _ hl0
     go_wp2
     go_end0
     exact ⟨rfl,⟨_,by rw [←Fk_end hl0];exact hrg.owns,HSD.out.filter p HPD.out⟩,hgw⟩
   · intro x c kl y w1 cnt1 hkey hlx hv hat hrg1 hlt hg1 hs1 hen
     obtain ⟨x',hxo,ex,rfl⟩:=keyOf_inv hkey
     obtain rfl:x=x':=encF_inj ex
     unfold factV at hen ⊢
     clear hs1
     go_upto_region 3 with (first | go_in)
     obtain ⟨WA,hWA⟩:∃ WA,(w1.alloc (.cells #[.int .i64 x.kind,.int .i64 x.a,.int .i64 x.b] 45)).alloc (.cells #[] 106)=WA:=⟨_,rfl⟩
     have hz:WA.heap.size=w1.heap.size+2:=by rw [←hWA];simp
     have hga:w1.grownBy WA none:=by rw [←hWA];exact (World.grownBy_alloc _ _ none).trans (World.grownBy_alloc _ _ none)
     have hc:∀ i,WA.cell? ⟨w1.heap.size,i,none⟩=#[Value.int .i64 x.kind,.int .i64 x.a,.int .i64 x.b][i]?:=fun i=>by rw [←hWA,((Below.refl _ (w1.alloc _)).alloc (Nat.le_refl _) _).cell (p:=⟨w1.heap.size,i,none⟩) (by simp),World.cell?_alloc_at _ _ _ _ rfl]
     have hc0:=hc 0
     have hc1:=hc 1
     have hc2:=hc 2
     simp only [List.getElem?_toArray,List.getElem?_cons_zero,List.getElem?_cons_succ] at hc0 hc1 hc2
     rw [hWA]
     have hgw1:=hgw.andThen hg1 (fun j hj=>by cases hj;exact Or.inl (Nat.le_refl _))
     have hgwA:=hgw1.andThen hga (fun j hj=>by cases hj)
     have hrgA:=hrg1.kept hga (by simp) (by simp)
     have HC:=Lh (HD.out WA x hgwA)
     have HGA:=Lh hgwA
     have hxk:=keyOf_mk hxo
     unfold factV at hxk
     have HXK:=Lh hxk
     clear hWA hc hga hgw1 hgwA hxk
     have hlA1:w1.heap.size < WA.heap.size:=by omega
     have hlA2:w1.heap.size+1 < WA.heap.size:=by omega
     clear hz
     cases hp:p x
     · rw [hp] at HC
       go_wp2_with (first
         | (go_at_fn g;refine HC.out.mono ?_;rintro e w2 ⟨rfl,hb2⟩)
         | go_in)
       have hg2:=grownBy_of_below hb2
       have hrg2:=hrgA.kept hg2 (by simp) (by simp)
       go_roundw
       case rel=>exact ⟨_,cnt1,by rw [←Fk_stays hap (keyedF.key (keyOf_mk hxo)) hlx ((HPD.out _ _ hxo).trans hp) hat];exact hrg2,HGA.out.andThen hg2 (fun j hj=>by cases hj)⟩
       case measure=>rw [hrg2.left_eq,hrg.left_eq];exact hlt
     · rw [hp] at HC
       go_wp2_with (first
         | (go_at_fn g;refine HC.out.mono ?_;rintro e w2 ⟨rfl,hb2⟩
            have hg2:=grownBy_of_below hb2
            have hrg2:=hrgA.kept hg2 (by simp) (by simp)
            have k0:=hg2.cell hc0 (by simp)
            have k1:=hg2.cell hc1 (by simp)
            have k2:=hg2.cell hc2 (by simp))
         | (at_delete;refine wpList_delete_ranges _ rfl _ _ 85 45 rfl 106 keyedF Tryz.underlying85 (unitElem (H:=Unit)) b w.heap.size n _ _ _ rfl hrg2 _ _ rfl HXK.out ?_;intro w3 cnt3 hrg3 hle hturn;go_frame)
         | go_in)
       rw [strike_twice] at hrg3
       go_roundw
       case rel=>exact ⟨_,cnt3,by rw [←Fk_struck hap (keyedF.key (keyOf_mk hxo)) hlx ((HPD.out _ _ hxo).trans hp) hat];exact hrg3,(HGA.out.andThen hg2 (fun j hj=>by cases hj)).andThen hturn.grown (fun j hj=>by cases hj;exact Or.inr rfl)⟩
       case measure=>rw [hrg3.left_eq,hrg.left_eq];omega
end Go.Proofs.YtjbabpnepjhllaaGreat
namespace Go.Proofs.YtjbabpnepjhllaaGreat
open Go.RowKit
set_option maxRecDepth 100000
set_option maxHeartbeats 4000000 in
theorem after1_any (o:KOp) (f:Fct) (B:Nat) (w:World) (h1:w.cell? ⟨B,1,none⟩=some (.int .i64 o.d)) (h2:w.cell? ⟨B,2,none⟩=some (.int .i64 o.e)) (hB:B < w.heap.size) :
   Calls Tryz.prog 78 #[.agg #[.int .i64 f.kind,.int .i64 f.a,.int .i64 f.b],.agg #[],.pointer (some ⟨B,0,none⟩)] w fun e w'=>e=.returned (.bool (goneF o f))∧Below w.heap.size w w':=by
 have hv:goneF o f=((decide (0≤o.d) && hasF f o.d) || (decide (0≤o.e) && hasF f o.e)):=rfl
 have HD:=Lh fun W=>has_any f o.d W
 have HE:=Lh fun W=>has_any f o.e W
 generalize hasF f o.d=p at HD hv
 generalize hasF f o.e=q at HE hv
 obtain ⟨W,hW⟩:∃ W,W=(w.alloc (.cells #[.int .i64 f.kind,.int .i64 f.a,.int .i64 f.b] 45)).alloc (.cells #[] 106):=⟨_,rfl⟩
 have hb:Below w.heap.size w W:=by rw [hW];exact ((Below.refl _ _).alloc (Nat.le_refl _) _).alloc (by simp) _
 have hz:W.heap.size=w.heap.size+2:=by rw [hW];simp
 have hc:∀ i,W.cell? ⟨w.heap.size,i,none⟩=#[Value.int .i64 f.kind,.int .i64 f.a,.int .i64 f.b][i]?:=fun i=>by rw [hW,((Below.refl _ (w.alloc _)).alloc (Nat.le_refl _) _).cell (p:=⟨w.heap.size,i,none⟩) (by simp),World.cell?_alloc_at _ _ _ _ rfl]
 have hc0:=hc 0
 have hc1:=hc 1
 have hc2:=hc 2
 simp only [List.getElem?_toArray,List.getElem?_cons_zero,List.getElem?_cons_succ] at hc0 hc1 hc2
 have b1:=(hb.cell (p:=⟨B,1,none⟩) hB).trans h1
 have b2:=(hb.cell (p:=⟨B,2,none⟩) hB).trans h2
 have HW:=Lh hW
 have HB:=Lh hb
 have HCE:=Lh b2
 have HF0:=Lh hc0
 have HF1:=Lh hc1
 have HF2:=Lh hc2
 have HBL:=Lh (show B < W.heap.size by omega)
 have HLW:=Lh (show w.heap.size < W.heap.size by omega)
 clear hW hb hc hz h1 h2 hB
 have HEND:=Lh (show ∀ w2:World,Below W.heap.size W w2→Below w.heap.size w w2 from fun _ h=>HB.out.trans (h.mono HB.out.size))
 by_cases d0:(0:Int)≤o.d
 · have e0:decide ((0:Int)≤o.d)=true:=decide_eq_true d0
   have e0':decide (o.d ≥ (0:Int))=true:=decide_eq_true d0
   by_cases d1:(0:Int)≤o.e
   · have e1:decide ((0:Int)≤o.e)=true:=decide_eq_true d1
     cases p
     · cases q
       · have HV:=Lh (show goneF o f=false by rw [hv,e0,e1];rfl)
         clear hv d0 d1
         go_enter Tryz.func78,Tryz.ntmps78
         go_upto_region 1 with fail
         rw [←HW.out]
         go_wp2_with (first
           | ((with_reducible refine (HD.out _).mono ?_);rintro e w1 ⟨rfl,hb1⟩
              have ce:=(hb1.cell (p:=⟨B,2,none⟩) HBL.out).trans HCE.out
              have f0:=(hb1.cell (p:=⟨w.heap.size,0,none⟩) HLW.out).trans HF0.out
              have f1:=(hb1.cell (p:=⟨w.heap.size,1,none⟩) HLW.out).trans HF1.out
              have f2:=(hb1.cell (p:=⟨w.heap.size,2,none⟩) HLW.out).trans HF2.out)
           | ((with_reducible refine (HE.out _).mono ?_);rintro e w2 ⟨rfl,hb2⟩))
         go_ret
         exact ⟨ret_bool HV.out.symm,HEND.out _ (hb1.trans (hb2.mono hb1.size))⟩
       · have HV:=Lh (show goneF o f=true by rw [hv,e0,e1];rfl)
         clear hv d0 d1
         go_enter Tryz.func78,Tryz.ntmps78
         go_upto_region 1 with fail
         rw [←HW.out]
         go_wp2_with (first
           | ((with_reducible refine (HD.out _).mono ?_);rintro e w1 ⟨rfl,hb1⟩
              have ce:=(hb1.cell (p:=⟨B,2,none⟩) HBL.out).trans HCE.out
              have f0:=(hb1.cell (p:=⟨w.heap.size,0,none⟩) HLW.out).trans HF0.out
              have f1:=(hb1.cell (p:=⟨w.heap.size,1,none⟩) HLW.out).trans HF1.out
              have f2:=(hb1.cell (p:=⟨w.heap.size,2,none⟩) HLW.out).trans HF2.out)
           | ((with_reducible refine (HE.out _).mono ?_);rintro e w2 ⟨rfl,hb2⟩))
         go_ret
         exact ⟨ret_bool HV.out.symm,HEND.out _ (hb1.trans (hb2.mono hb1.size))⟩
     · have HV:=Lh (show goneF o f=true by rw [hv,e0];rfl)
       clear hv d0 d1
       go_enter Tryz.func78,Tryz.ntmps78
       go_upto_region 1 with fail
       rw [←HW.out]
       go_wp2_with (first
         | ((with_reducible refine (HD.out _).mono ?_);rintro e w1 ⟨rfl,hb1⟩
            have ce:=(hb1.cell (p:=⟨B,2,none⟩) HBL.out).trans HCE.out
            have f0:=(hb1.cell (p:=⟨w.heap.size,0,none⟩) HLW.out).trans HF0.out
            have f1:=(hb1.cell (p:=⟨w.heap.size,1,none⟩) HLW.out).trans HF1.out
            have f2:=(hb1.cell (p:=⟨w.heap.size,2,none⟩) HLW.out).trans HF2.out)
         | ((with_reducible refine (HE.out _).mono ?_);rintro e w2 ⟨rfl,hb2⟩))
       go_ret
       exact ⟨ret_bool HV.out.symm,HEND.out _ hb1⟩
   · have e1:decide ((0:Int)≤o.e)=false:=decide_eq_false d1
     cases p
     · have HV:=Lh (show goneF o f=false by rw [hv,e0,e1];rfl)
       clear hv d0 d1
       go_enter Tryz.func78,Tryz.ntmps78
       go_upto_region 1 with fail
       rw [←HW.out]
       go_wp2_with (first
         | ((with_reducible refine (HD.out _).mono ?_);rintro e w1 ⟨rfl,hb1⟩
            have ce:=(hb1.cell (p:=⟨B,2,none⟩) HBL.out).trans HCE.out
            have f0:=(hb1.cell (p:=⟨w.heap.size,0,none⟩) HLW.out).trans HF0.out
            have f1:=(hb1.cell (p:=⟨w.heap.size,1,none⟩) HLW.out).trans HF1.out
            have f2:=(hb1.cell (p:=⟨w.heap.size,2,none⟩) HLW.out).trans HF2.out)
         | ((with_reducible refine (HE.out _).mono ?_);rintro e w2 ⟨rfl,hb2⟩))
       go_ret
       exact ⟨ret_bool HV.out.symm,HEND.out _ hb1⟩
     · have HV:=Lh (show goneF o f=true by rw [hv,e0];rfl)
       clear hv d0 d1
       go_enter Tryz.func78,Tryz.ntmps78
       go_upto_region 1 with fail
       rw [←HW.out]
       go_wp2_with (first
         | ((with_reducible refine (HD.out _).mono ?_);rintro e w1 ⟨rfl,hb1⟩
            have ce:=(hb1.cell (p:=⟨B,2,none⟩) HBL.out).trans HCE.out
            have f0:=(hb1.cell (p:=⟨w.heap.size,0,none⟩) HLW.out).trans HF0.out
            have f1:=(hb1.cell (p:=⟨w.heap.size,1,none⟩) HLW.out).trans HF1.out
            have f2:=(hb1.cell (p:=⟨w.heap.size,2,none⟩) HLW.out).trans HF2.out)
         | ((with_reducible refine (HE.out _).mono ?_);rintro e w2 ⟨rfl,hb2⟩))
       go_ret
       exact ⟨ret_bool HV.out.symm,HEND.out _ hb1⟩
 · have e0:decide ((0:Int)≤o.d)=false:=decide_eq_false d0
   by_cases d1:(0:Int)≤o.e
   · have e1:decide ((0:Int)≤o.e)=true:=decide_eq_true d1
     cases q
     · have HV:=Lh (show goneF o f=false by rw [hv,e0,e1];rfl)
       clear hv d0 d1
       go_enter Tryz.func78,Tryz.ntmps78
       go_upto_region 1 with fail
       rw [←HW.out]
       go_wp2_with (first
         | ((with_reducible refine (HD.out _).mono ?_);rintro e w1 ⟨rfl,hb1⟩
            have ce:=(hb1.cell (p:=⟨B,2,none⟩) HBL.out).trans HCE.out
            have f0:=(hb1.cell (p:=⟨w.heap.size,0,none⟩) HLW.out).trans HF0.out
            have f1:=(hb1.cell (p:=⟨w.heap.size,1,none⟩) HLW.out).trans HF1.out
            have f2:=(hb1.cell (p:=⟨w.heap.size,2,none⟩) HLW.out).trans HF2.out)
         | ((with_reducible refine (HE.out _).mono ?_);rintro e w2 ⟨rfl,hb2⟩))
       go_ret
       exact ⟨ret_bool HV.out.symm,HEND.out _ hb2⟩
     · have HV:=Lh (show goneF o f=true by rw [hv,e0,e1];rfl)
       clear hv d0 d1
       go_enter Tryz.func78,Tryz.ntmps78
       go_upto_region 1 with fail
       rw [←HW.out]
       go_wp2_with (first
         | ((with_reducible refine (HD.out _).mono ?_);rintro e w1 ⟨rfl,hb1⟩
            have ce:=(hb1.cell (p:=⟨B,2,none⟩) HBL.out).trans HCE.out
            have f0:=(hb1.cell (p:=⟨w.heap.size,0,none⟩) HLW.out).trans HF0.out
            have f1:=(hb1.cell (p:=⟨w.heap.size,1,none⟩) HLW.out).trans HF1.out
            have f2:=(hb1.cell (p:=⟨w.heap.size,2,none⟩) HLW.out).trans HF2.out)
         | ((with_reducible refine (HE.out _).mono ?_);rintro e w2 ⟨rfl,hb2⟩))
       go_ret
       exact ⟨ret_bool HV.out.symm,HEND.out _ hb2⟩
   · have e1:decide ((0:Int)≤o.e)=false:=decide_eq_false d1
     have HV:=Lh (show goneF o f=false by rw [hv,e0,e1];rfl)
     clear hv d0 d1
     go_enter Tryz.func78,Tryz.ntmps78
     go_upto_region 1 with fail
     rw [←HW.out]
     go_wp2_with (first
       | ((with_reducible refine (HD.out _).mono ?_);rintro e w1 ⟨rfl,hb1⟩
          have ce:=(hb1.cell (p:=⟨B,2,none⟩) HBL.out).trans HCE.out
          have f0:=(hb1.cell (p:=⟨w.heap.size,0,none⟩) HLW.out).trans HF0.out
          have f1:=(hb1.cell (p:=⟨w.heap.size,1,none⟩) HLW.out).trans HF1.out
          have f2:=(hb1.cell (p:=⟨w.heap.size,2,none⟩) HLW.out).trans HF2.out)
       | ((with_reducible refine (HE.out _).mono ?_);rintro e w2 ⟨rfl,hb2⟩))
     go_ret
     exact ⟨ret_bool HV.out.symm,HB.out⟩
end Go.Proofs.YtjbabpnepjhllaaGreat
namespace Go.Proofs.YtjbabpnepjhllaaGreat
open Go.RowKit
set_option maxRecDepth 100000
def copy1 (x:Fct) (u t:Int):Fct:=if x.a=u then ⟨x.kind,t,x.b⟩ else ⟨x.kind,x.a,t⟩
theorem copy_next {l:List Fct} {k:Nat} {x:Fct} (u t:Int) (h:l[k]? = some x):copyF (l.take (k+1)) u t=copyF (l.take k) u t++(if hasF x u && !hasF x t then [copy1 x u t] else []):=by
 unfold copyF
 rw [List.take_add_one,h,Option.toList_some,List.filter_append,List.map_append]
 congr 1
 cases hc:(hasF x u && !hasF x t) <;> simp [hc,copy1]
theorem cellsOf_snoc (l:List Fct) (x:Fct):cellsOfF (l++[x])=cellsOfF l++factRow x:=by unfold cellsOfF;simp
theorem grownBy_setCell (W:World) (g k:Nat) (v:Value):W.grownBy (W.setCell ⟨g,k,none⟩ v) (some g):=⟨rfl,rfl,rfl,by simp,fun j _ hne=>Below.heap_setCell _ _ _ j (fun e=>hne (by rw [e]))⟩
structure CpAt (w:World) (l:List Fct) (v:Value) (wr:World):Prop where
 own:wr.ownsRow w.heap.size 45 3 v l.length (cellsOfF l)
 below:Below w.heap.size w wr
theorem CpAt.next {w wr w':World} {l:List Fct} {v:Value} (h:CpAt w l v wr) (hb:Below wr.heap.size wr w'):CpAt w l v w' :=
 ⟨h.own.kept (grownBy_of_below hb) (by cases h:v.ownBlock <;> simp),h.below.trans (hb.mono h.below.size)⟩
set_option maxHeartbeats 4000000 in
theorem copied_any {l:List Fct} {A:Option Addr} {n c:Nat} (u t:Int) (w:World) (F:Nat→Prop) (hf:FactsAt w F (.slice A n c) l) (hF:∀ k,F k→k < w.heap.size) (hN:n≤100000) :
   Calls Tryz.prog 111 #[.slice A n c,.int .i64 u,.int .i64 t] w (SortedSays w.heap.size (copyF l u t) w):=by
 have hn:=(rows_len hf).1
 have hlen:∀ k,(copyF (l.take k) u t).length≤k:=fun k=>by
   unfold copyF
   rw [List.length_map]
   exact Nat.le_trans (List.length_filter_le _ _) (by rw [List.length_take];omega)
 have HF:=Lh hf
 have HB:=Lh hF
 have HL:=Lh hn
 have HE:=Lh hlen
 obtain ⟨i0,hi,hz0,hz1,hz2⟩:=info_parts infoFact
 clear hf hF hn hlen
 go_enter Tryz.func111,Tryz.ntmps111
 go_wp2
 go_loopw [6,11] (fun v j wr=>∃ k:Nat,k≤n∧j=.int .i64 k∧∃ (m:Nat) (A':Option Addr) (c':Nat),v=.slice A' m c'∧m=(copyF (l.take k) u t).length∧CpAt w (copyF (l.take k) u t) v wr) (fun _ j _=>n - (intOf j).toNat)
 case atStart=>exact ⟨0,by omega,rfl,0,none,0,rfl,rfl,⟨World.ownsRow_nil _ _ _ _,Below.refl _ _⟩⟩
 case round =>
   obtain ⟨k,hk,rfl,m,A',c',rfl,hm,hcp⟩:=hrel
   by_cases hlt:k < n
   · have d1:decide (k < n)=true:=decide_eq_true hlt
     obtain ⟨x,hx⟩:∃ s,l[k]? = some s:=⟨_,List.getElem?_eq_getElem (by have:=HL.out;omega)⟩
     obtain ⟨g,o,rfl,hg,c0,c1,c2⟩:=FactsAt.at_ (HF.out.keep (SameOn.of_below hcp.below HB.out)) hx
     have HN:=Lh (copy_next u t hx)
     have HM:=Lh (show m≤100000 by have:=HE.out k;omega)
     have i2:(0:Int)≤(k:Int):=by omega
     have i3:(k:Int) < (n:Int):=by omega
     have HNB:=Lh (show ∀ j,some j=(Value.slice A' m c').ownBlock→j < wr.heap.size∧w.heap.size≤j from fun j e=>own_lt hcp.own j e.symm)
     have l0:g < wr.heap.size:=by have:=HB.out g hg;have:=hcp.below.size;omega
     have HCP:=Lh hcp
     clear hx hg hcp
     go_upto_region 4 with (first | go_in)
     obtain ⟨WA,hWA⟩:∃ WA,wr.alloc (.cells #[.int .i64 x.kind,.int .i64 x.a,.int .i64 x.b] 45)=WA:=⟨_,rfl⟩
     rw [hWA]
     have hblk:WA.heap[wr.heap.size]? = some (.cells #[.int .i64 x.kind,.int .i64 x.a,.int .i64 x.b] 45 (0,0)):=by rw [←hWA];exact heap_alloc_new wr _
     have HCA:=Lh (HCP.out.next (show Below wr.heap.size wr WA by rw [←hWA];exact (Below.refl _ _).alloc (Nat.le_refl _) _))
     have HQW:=Lh HCP.out.below.size
     obtain ⟨q,hq⟩:∃ q,wr.heap.size=q:=⟨_,rfl⟩
     rw [hq] at hblk HQW ⊢
     have HQE:=Lh hq
     have h0:WA.cell? ⟨q,0,none⟩=some (.int .i64 x.kind):=by simp [World.cell?,hblk]
     have h1:WA.cell? ⟨q,1,none⟩=some (.int .i64 x.a):=by simp [World.cell?,hblk]
     have h2:WA.cell? ⟨q,2,none⟩=some (.int .i64 x.b):=by simp [World.cell?,hblk]
     have HQ:=Lh (lt_of_block hblk)
     have HBLK:=Lh hblk
     have HU:=Lh fun W=>has_any x u W
     have HT:=Lh fun W=>has_any x t W
     have HMM:=Lh hm
     have n5:n≤100000:=hN
     clear hWA hq hblk hm l0 c0 c1 c2
     cases hu:hasF x u
     · have HS:=Lh (show copyF (l.take (k+1)) u t=copyF (l.take k) u t by rw [HN.out,hu];simp)
       rw [hu] at HU
       go_wp2_with (first | ((with_reducible refine (HU.out _).mono ?_);rintro e w1 ⟨rfl,hb1⟩) | go_in)
       go_roundw
       case rel=>exact ⟨k+1,hlt,by go_num,m,A',c',rfl,by rw [HS.out];exact HMM.out,by rw [HS.out];exact HCA.out.next hb1⟩
       case measure=>simp [intOf];omega
     · rw [hu] at HU
       cases ht:hasF x t
       rotate_left
       · have HS:=Lh (show copyF (l.take (k+1)) u t=copyF (l.take k) u t by rw [HN.out,hu,ht];simp)
         rw [ht] at HT
         go_wp2_with (first
           | ((with_reducible refine (HU.out _).mono ?_);rintro e w1 ⟨rfl,hb1⟩
              have g0:=(hb1.cell (p:=⟨q,0,none⟩) HQ.out).trans h0
              have g1:=(hb1.cell (p:=⟨q,1,none⟩) HQ.out).trans h1
              have g2:=(hb1.cell (p:=⟨q,2,none⟩) HQ.out).trans h2)
           | ((with_reducible refine (HT.out _).mono ?_);rintro e w2 ⟨rfl,hb2⟩)
           | go_in)
         go_roundw
         case rel=>exact ⟨k+1,hlt,by go_num,m,A',c',rfl,by rw [HS.out];exact HMM.out,by rw [HS.out];exact (HCA.out.next hb1).next hb2⟩
         case measure=>simp [intOf];omega
       · have HS:=Lh (show copyF (l.take (k+1)) u t=copyF (l.take k) u t++[copy1 x u t] by rw [HN.out,hu,ht];simp)
         rw [ht] at HT
         cases hxa:(x.a == u)
         · have HG:=Lh (show copy1 x u t=⟨x.kind,x.a,t⟩ by unfold copy1;rw [if_neg (by simpa using hxa)])
           rw [HG.out] at HS
           go_upto_region 8 with (first
             | ((with_reducible refine (HU.out _).mono ?_);rintro e w1 ⟨rfl,hb1⟩
                have g0:=(hb1.cell (p:=⟨q,0,none⟩) HQ.out).trans h0
                have g1:=(hb1.cell (p:=⟨q,1,none⟩) HQ.out).trans h1
                have g2:=(hb1.cell (p:=⟨q,2,none⟩) HQ.out).trans h2)
             | ((with_reducible refine (HT.out _).mono ?_);rintro e w2 ⟨rfl,hb2⟩
                have hk2:=((hb1.trans (hb2.mono hb1.size)).block q HQ.out).trans HBLK.out
                have k0:w2.cell? ⟨q,0,none⟩=some (.int .i64 x.kind):=by simp [World.cell?,hk2]
                have k1:w2.cell? ⟨q,1,none⟩=some (.int .i64 x.a):=by simp [World.cell?,hk2]
                have k2:w2.cell? ⟨q,2,none⟩=some (.int .i64 x.b):=by simp [World.cell?,hk2]
                have z2:w2.frozen? ⟨q,2,none⟩=false:=by simp [World.frozen?,hk2]
                clear hk2)
             | go_in)
           have HC2:=Lh ((HCA.out.next hb1).next hb2)
           have hown5:(w2.setCell ⟨q,2,none⟩ (.int .i64 t)).ownsRow w.heap.size 45 3 (.slice A' m c') m (cellsOfF (copyF (l.take k) u t)):=by
             have h:=HC2.out.own
             rw [←HMM.out] at h
             exact h.kept (grownBy_setCell _ _ _ _) (.inr (fun e=>by have:=HNB.out q e.symm;have:=HQE.out;omega))
           have HB5:=Lh (show Below w.heap.size w (w2.setCell ⟨q,2,none⟩ (.int .i64 t)) from HC2.out.below.grown (grownBy_setCell _ _ _ _) HC2.out.below.size (fun j e=>by cases e;exact HQW.out))
           have HS5:=Lh (show (w2.setCell ⟨q,2,none⟩ (.int .i64 t)).heap.size=w2.heap.size by simp)
           go_wp2_with (first
             | (at_builtin;refine wpList_append_own_at _ rfl _ _ 39 rfl w.heap.size 45 i0 (.agg #[.int .i64 0,.int .i64 0,.int .i64 0]) 3 24 Tryz.underlying39 hi hz0 hz1 hz2 rfl (by decide) (.slice A' m c') m _ rfl (hown5.alloc _) ⟨w2.heap.size,0,none⟩ 1 1 [Value.int .i64 x.kind,.int .i64 x.a,.int .i64 t] rfl (by rfl) (by have h:=cells_new_at (w2.setCell ⟨q,2,none⟩ (.int .i64 t)) #[Value.int .i64 x.kind,.int .i64 x.a,.int .i64 t] 45;rw [HS5.out] at h;exact h) (by simp [Value.oneCell']) (by have:=HM.out;unfold maxLen;omega) (by have:=HM.out;omega) (by have:=HB5.out.size;rw [HS5.out] at this;simp;omega) ?_;intro v' w6 ho6 hg6 _ _
                have HO6:=Lh ho6
                have HG6:=Lh hg6
                obtain ⟨A6,c6,rfl⟩:=own_form ho6
                clear ho6 hg6)
             | go_in)
           go_roundw
           case rel=>exact ⟨k+1,hlt,by go_num,m+1,A6,c6,rfl,by rw [HS.out,List.length_append,←HMM.out];rfl,⟨by have:=HO6.out;rw [HS.out,List.length_append,←HMM.out,cellsOf_snoc];exact this,(HB5.out.alloc HB5.out.size _).grown HG6.out (by have:=HB5.out.size;rw [HS5.out] at this;simp;omega) (fun j e=>(HNB.out j e.symm).2)⟩⟩
           case measure=>simp [intOf];omega
         · have HG:=Lh (show copy1 x u t=⟨x.kind,t,x.b⟩ by unfold copy1;rw [if_pos (by simpa using hxa)])
           rw [HG.out] at HS
           go_upto_region 8 with (first
             | ((with_reducible refine (HU.out _).mono ?_);rintro e w1 ⟨rfl,hb1⟩
                have g0:=(hb1.cell (p:=⟨q,0,none⟩) HQ.out).trans h0
                have g1:=(hb1.cell (p:=⟨q,1,none⟩) HQ.out).trans h1
                have g2:=(hb1.cell (p:=⟨q,2,none⟩) HQ.out).trans h2)
             | ((with_reducible refine (HT.out _).mono ?_);rintro e w2 ⟨rfl,hb2⟩
                have hk2:=((hb1.trans (hb2.mono hb1.size)).block q HQ.out).trans HBLK.out
                have k0:w2.cell? ⟨q,0,none⟩=some (.int .i64 x.kind):=by simp [World.cell?,hk2]
                have k1:w2.cell? ⟨q,1,none⟩=some (.int .i64 x.a):=by simp [World.cell?,hk2]
                have k2:w2.cell? ⟨q,2,none⟩=some (.int .i64 x.b):=by simp [World.cell?,hk2]
                have z1:w2.frozen? ⟨q,1,none⟩=false:=by simp [World.frozen?,hk2]
                clear hk2)
             | go_in)
           have HC2:=Lh ((HCA.out.next hb1).next hb2)
           have hown5:(w2.setCell ⟨q,1,none⟩ (.int .i64 t)).ownsRow w.heap.size 45 3 (.slice A' m c') m (cellsOfF (copyF (l.take k) u t)):=by
             have h:=HC2.out.own
             rw [←HMM.out] at h
             exact h.kept (grownBy_setCell _ _ _ _) (.inr (fun e=>by have:=HNB.out q e.symm;have:=HQE.out;omega))
           have HB5:=Lh (show Below w.heap.size w (w2.setCell ⟨q,1,none⟩ (.int .i64 t)) from HC2.out.below.grown (grownBy_setCell _ _ _ _) HC2.out.below.size (fun j e=>by cases e;exact HQW.out))
           have HS5:=Lh (show (w2.setCell ⟨q,1,none⟩ (.int .i64 t)).heap.size=w2.heap.size by simp)
           go_wp2_with (first
             | (at_builtin;refine wpList_append_own_at _ rfl _ _ 39 rfl w.heap.size 45 i0 (.agg #[.int .i64 0,.int .i64 0,.int .i64 0]) 3 24 Tryz.underlying39 hi hz0 hz1 hz2 rfl (by decide) (.slice A' m c') m _ rfl (hown5.alloc _) ⟨w2.heap.size,0,none⟩ 1 1 [Value.int .i64 x.kind,.int .i64 t,.int .i64 x.b] rfl (by rfl) (by have h:=cells_new_at (w2.setCell ⟨q,1,none⟩ (.int .i64 t)) #[Value.int .i64 x.kind,.int .i64 t,.int .i64 x.b] 45;rw [HS5.out] at h;exact h) (by simp [Value.oneCell']) (by have:=HM.out;unfold maxLen;omega) (by have:=HM.out;omega) (by have:=HB5.out.size;rw [HS5.out] at this;simp;omega) ?_;intro v' w6 ho6 hg6 _ _
                have HO6:=Lh ho6
                have HG6:=Lh hg6
                obtain ⟨A6,c6,rfl⟩:=own_form ho6
                clear ho6 hg6)
             | go_in)
           go_roundw
           case rel=>exact ⟨k+1,hlt,by go_num,m+1,A6,c6,rfl,by rw [HS.out,List.length_append,←HMM.out];rfl,⟨by have:=HO6.out;rw [HS.out,List.length_append,←HMM.out,cellsOf_snoc];exact this,(HB5.out.alloc HB5.out.size _).grown HG6.out (by have:=HB5.out.size;rw [HS5.out] at this;simp;omega) (fun j e=>(HNB.out j e.symm).2)⟩⟩
           case measure=>simp [intOf];omega
   · have d1:decide (k < n)=false:=decide_eq_false hlt
     have e:k=n:=by omega
     subst e
     rw [List.take_of_length_le (by have:=HL.out;omega)] at hm hcp
     have HCP:=Lh hcp
     have HMM:=Lh hm
     clear hcp hm
     go_wp2
     go_ret
     exact ⟨_,rfl,HCP.out.own,HCP.out.below⟩
end Go.Proofs.YtjbabpnepjhllaaGreat
namespace Go.Proofs.YtjbabpnepjhllaaGreat
open Go.RowKit
set_option maxRecDepth 100000
theorem own_lit {w:World} {g base:Nat} {l:List Fct} (h:w.heap[g]? = some (.cells (cellsOfF l).toArray 45 (0,0))) (hb:base≤g) (hl:l.length≤100000) :
   w.ownsRow base 45 3 (.slice (some ⟨g,0,none⟩) l.length l.length) l.length (cellsOfF l):=by
 refine ⟨cellsF_len l,.inr ⟨g,l.length,_,rfl,hb,h,Nat.le_refl _,by unfold maxLen;omega,by simp [cellsF_len],?_⟩⟩
 rw [List.take_of_length_le (by simp [cellsF_len])]
theorem needsF_len (o:KOp):(needsF o).length≤3:=by
 unfold needsF
 repeat' split
 all_goals simp
theorem below_lit {w W w1:World} (h:Below w.heap.size w W) (h1:Below W.heap.size W w1) (o:Obj):Below w.heap.size w (w1.alloc o):=h.trans ((h1.trans (((Below.refl w1.heap.size w1).alloc (Nat.le_refl _) o).mono h1.size)).mono h.size)
variable {o:Oper} {a:Act} {w:World}
theorem exec_facts2 {f g:Fct} (x y:Operand) (ho:o.op=.buildSlice 39 2 #[(0,x),(1,y)]) (hx:a.eval x=.agg #[.int .i64 f.kind,.int .i64 f.a,.int .i64 f.b]) (hy:a.eval y=.agg #[.int .i64 g.kind,.int .i64 g.a,.int .i64 g.b]) :
   (execOp a.eval o).run Tryz.prog w=.ok (.value (.slice (some ⟨w.heap.size,0,none⟩) 2 2)) (w.alloc (.cells (cellsOfF [f,g]).toArray 45)):=by
 obtain ⟨j0,hie,hy0,hy1,hy2⟩:=info_parts infoFact
 have h:=run_buildSlice (P:=Tryz.prog) w 39 45 2 #[(0,.agg #[.int .i64 f.kind,.int .i64 f.a,.int .i64 f.b]),(1,.agg #[.int .i64 g.kind,.int .i64 g.a,.int .i64 g.b])] #[.int .i64 f.kind,.int .i64 f.a,.int .i64 f.b,.int .i64 g.kind,.int .i64 g.a,.int .i64 g.b] j0 _ Tryz.underlying39 hie hy0 (by rw [hy1];decide) (by rw [hy1];decide) (by rw [hy1];kernel_rfl)
 unfold execOp
 simp only [ho,hx,hy,List.map_toArray,List.map_cons,List.map_nil,Sem.run_bind,h,Result.andThen_ok,Sem.run_pure,cellsOfF,factRow,List.flatten_cons,List.flatten_nil,List.append_nil,List.cons_append,List.nil_append]
theorem exec_facts3 {f g h:Fct} (x y z:Operand) (ho:o.op=.buildSlice 39 3 #[(0,x),(1,y),(2,z)]) (hx:a.eval x=.agg #[.int .i64 f.kind,.int .i64 f.a,.int .i64 f.b]) (hy:a.eval y=.agg #[.int .i64 g.kind,.int .i64 g.a,.int .i64 g.b]) (hz:a.eval z=.agg #[.int .i64 h.kind,.int .i64 h.a,.int .i64 h.b]) :
   (execOp a.eval o).run Tryz.prog w=.ok (.value (.slice (some ⟨w.heap.size,0,none⟩) 3 3)) (w.alloc (.cells (cellsOfF [f,g,h]).toArray 45)):=by
 obtain ⟨j0,hie,hy0,hy1,hy2⟩:=info_parts infoFact
 have hr:=run_buildSlice (P:=Tryz.prog) w 39 45 3 #[(0,.agg #[.int .i64 f.kind,.int .i64 f.a,.int .i64 f.b]),(1,.agg #[.int .i64 g.kind,.int .i64 g.a,.int .i64 g.b]),(2,.agg #[.int .i64 h.kind,.int .i64 h.a,.int .i64 h.b])] #[.int .i64 f.kind,.int .i64 f.a,.int .i64 f.b,.int .i64 g.kind,.int .i64 g.a,.int .i64 g.b,.int .i64 h.kind,.int .i64 h.a,.int .i64 h.b] j0 _ Tryz.underlying39 hie hy0 (by rw [hy1];decide) (by rw [hy1];decide) (by rw [hy1];kernel_rfl)
 unfold execOp
 simp only [ho,hx,hy,hz,List.map_toArray,List.map_cons,List.map_nil,Sem.run_bind,hr,Result.andThen_ok,Sem.run_pure,cellsOfF,factRow,List.flatten_cons,List.flatten_nil,List.append_nil,List.cons_append,List.nil_append]
set_option maxHeartbeats 4000000 in
theorem Needs_any (o:KOp) (w:World):Calls Tryz.prog 39 #[.agg (kopRow o).toArray] w (SortedSays w.heap.size (needsF o) w):=by
 obtain ⟨W,hW⟩:∃ W,W=w.alloc (.cells (kopRow o).toArray 43):=⟨_,rfl⟩
 have hb:Below w.heap.size w W:=by rw [hW];exact (Below.refl _ _).alloc (Nat.le_refl _) _
 have hblk:W.heap[w.heap.size]? = some (.cells (kopRow o).toArray 43 (0,0)):=by rw [hW];exact heap_alloc_new w _
 have hc:∀ w_,Below W.heap.size W w_→w_.cell? ⟨w.heap.size,0,none⟩=some (.int .i64 o.kind)∧w_.cell? ⟨w.heap.size,3,none⟩=some (.int .i64 o.a)∧w_.cell? ⟨w.heap.size,4,none⟩=some (.int .i64 o.b)∧w_.cell? ⟨w.heap.size,5,none⟩=some (.int .i64 o.c)∧w_.cell? ⟨w.heap.size,6,none⟩=some (.int .u64 o.imm):=fun w_ h=>by
   have h1:=(h.block w.heap.size (lt_of_block hblk)).trans hblk
   refine ⟨?_,?_,?_,?_,?_⟩ <;> (simp only [World.cell?,h1];rfl)
 obtain ⟨c0,c3,c4,c5,c6⟩:=hc W (Below.refl _ _)
 have HA:=Lh dalone_any
 have HS:=Lh dless_any
 have HW:=Lh hW
 have HB:=Lh hb
 have HC:=Lh hc
 obtain ⟨k,hk⟩:∃ k,o.kind=k:=⟨_,rfl⟩
 rw [hk] at c0
 have hN:needsF o=if k=9 then [aloneF 3 o.c] else if k=10∨k=11 then [lessF o.a o.c,lessF o.b o.c] else if k=12 then [aloneF 1 o.c,lessF o.a o.c,lessF o.b o.c] else if k=13 then [aloneF 1 o.c,lessF o.a o.c] else if k=17 then (if o.imm=2 then [lessF o.a o.b] else if o.imm=1 then [aloneF 1 o.a] else if o.imm=3 then [aloneF 3 o.a] else []) else []:=by unfold needsF;rw [hk]
 clear hW hb hblk hc hk
 by_cases k9:k=9
 · subst k9
   have HN:=Lh (show needsF o=[aloneF 3 o.c] by rw [hN,if_pos rfl])
   clear hN
   go_enter Tryz.func39,Tryz.ntmps39
   go_upto_region 1 with fail
   rw [←HW.out]
   go_wp2_with (first
     | ((with_reducible refine (HA.out _ _ _).mono ?_);rintro e w1 ⟨rfl,hb1⟩;have HB1:=Lh hb1;clear hb1)
     | ((with_reducible refine (HS.out _ _ _).mono ?_);rintro e w1 ⟨rfl,hb1⟩;have HB1:=Lh hb1;clear hb1)
     | go_in)
   go_ret
   exact ⟨_,rfl,by rw [HN.out];exact own_lit (l:=[aloneF 3 o.c]) (heap_alloc_new w1 _) (by have:=HB.out.size;have:=HB1.out.size;omega) (by simp),below_lit HB.out HB1.out _⟩
 rw [if_neg k9] at hN
 by_cases k10:k=10∨k=11
 · rw [if_pos k10] at hN
   have HN:=Lh hN
   clear hN k9
   rcases k10 with rfl | rfl
   · go_enter Tryz.func39,Tryz.ntmps39
     go_upto_region 1 with fail
     rw [←HW.out]
     go_upto_region 6 with (first | go_in)
     have hS:=(Below.refl W.heap.size W).drew
     (refine wp_region_lines (Below W.heap.size W) (by kernel_rfl) (by kernel_rfl) (Below.refl W.heap.size W).drew ?_)
     (try simp only [])
     repeat (first | (refine runL_no (by rfl) ?_;(try simp only [Act.put,List.setIfInBounds_toArray,List.set_cons_zero,List.set_cons_succ])) | (refine runL_val (v:=?_) (by rfl) ?_ ?_;rotate_left;(focus (intro w_ hw_;obtain ⟨f0_,f3_,f4_,f5_,f6_⟩:=HC.out w_ hw_;go_simp;(try with_reducible rfl);done));(try simp only [Act.put,List.setIfInBounds_toArray,List.set_cons_zero,List.set_cons_succ])) | (refine runL_call (f:=?_) (args:=?_) (w1:=?_) (by rfl) (by rfl) ?_ ?_;rotate_left 3;(focus (go_simp;refine ⟨⟨?_,?_⟩,?_⟩ <;> with_reducible rfl));(first | with_reducible refine (HA.out _ _ _).mono ?_ | with_reducible refine (HS.out _ _ _).mono ?_);rintro e w1 ⟨rfl,hb1⟩;replace hS:=hS.trans (hb1.mono hS.size);clear hb1;refine ⟨_,rfl,.inr hS,?_⟩;(try simp only [Act.put,List.setIfInBounds_toArray,List.set_cons_zero,List.set_cons_succ])) | (refine runL_op (by rfl) (by rfl) (exec_facts2 (f:=lessF o.a o.c) (g:=lessF o.b o.c) _ _ rfl rfl rfl) (.inr (below_lit (Below.refl _ _) hS _)) ?_;(try simp only [Act.put,List.setIfInBounds_toArray,List.set_cons_zero,List.set_cons_succ])))
     (refine runL_nil ?_)
     have HB1:=Lh hS
     clear hS
     go_wp2
     go_ret
     exact ⟨_,rfl,by rw [HN.out];exact own_lit (l:=[lessF o.a o.c,lessF o.b o.c]) (heap_alloc_new w1 _) (by have:=HB.out.size;have:=HB1.out.size;omega) (by simp),below_lit HB.out HB1.out _⟩
   · go_enter Tryz.func39,Tryz.ntmps39
     go_upto_region 1 with fail
     rw [←HW.out]
     go_upto_region 6 with (first | go_in)
     have hS:=(Below.refl W.heap.size W).drew
     (refine wp_region_lines (Below W.heap.size W) (by kernel_rfl) (by kernel_rfl) (Below.refl W.heap.size W).drew ?_)
     (try simp only [])
     repeat (first | (refine runL_no (by rfl) ?_;(try simp only [Act.put,List.setIfInBounds_toArray,List.set_cons_zero,List.set_cons_succ])) | (refine runL_val (v:=?_) (by rfl) ?_ ?_;rotate_left;(focus (intro w_ hw_;obtain ⟨f0_,f3_,f4_,f5_,f6_⟩:=HC.out w_ hw_;go_simp;(try with_reducible rfl);done));(try simp only [Act.put,List.setIfInBounds_toArray,List.set_cons_zero,List.set_cons_succ])) | (refine runL_call (f:=?_) (args:=?_) (w1:=?_) (by rfl) (by rfl) ?_ ?_;rotate_left 3;(focus (go_simp;refine ⟨⟨?_,?_⟩,?_⟩ <;> with_reducible rfl));(first | with_reducible refine (HA.out _ _ _).mono ?_ | with_reducible refine (HS.out _ _ _).mono ?_);rintro e w1 ⟨rfl,hb1⟩;replace hS:=hS.trans (hb1.mono hS.size);clear hb1;refine ⟨_,rfl,.inr hS,?_⟩;(try simp only [Act.put,List.setIfInBounds_toArray,List.set_cons_zero,List.set_cons_succ])) | (refine runL_op (by rfl) (by rfl) (exec_facts2 (f:=lessF o.a o.c) (g:=lessF o.b o.c) _ _ rfl rfl rfl) (.inr (below_lit (Below.refl _ _) hS _)) ?_;(try simp only [Act.put,List.setIfInBounds_toArray,List.set_cons_zero,List.set_cons_succ])))
     (refine runL_nil ?_)
     have HB1:=Lh hS
     clear hS
     go_wp2
     go_ret
     exact ⟨_,rfl,by rw [HN.out];exact own_lit (l:=[lessF o.a o.c,lessF o.b o.c]) (heap_alloc_new w1 _) (by have:=HB.out.size;have:=HB1.out.size;omega) (by simp),below_lit HB.out HB1.out _⟩
 rw [if_neg k10] at hN
 have e9:(k == 9)=false:=beq_eq_false_iff_ne.2 k9
 have e10:(k == 10)=false:=beq_eq_false_iff_ne.2 fun e=>k10 (.inl e)
 have e11:(k == 11)=false:=beq_eq_false_iff_ne.2 fun e=>k10 (.inr e)
 clear k9 k10
 by_cases k12:k=12
 · rw [if_pos k12] at hN
   have HN:=Lh hN
   subst k12
   clear hN
   go_enter Tryz.func39,Tryz.ntmps39
   go_upto_region 1 with fail
   rw [←HW.out]
   go_upto_region 8 with (first | go_in)
   have hS:=(Below.refl W.heap.size W).drew
   (refine wp_region_lines (Below W.heap.size W) (by kernel_rfl) (by kernel_rfl) (Below.refl W.heap.size W).drew ?_)
   (try simp only [])
   repeat (first | (refine runL_no (by rfl) ?_;(try simp only [Act.put,List.setIfInBounds_toArray,List.set_cons_zero,List.set_cons_succ])) | (refine runL_val (v:=?_) (by rfl) ?_ ?_;rotate_left;(focus (intro w_ hw_;obtain ⟨f0_,f3_,f4_,f5_,f6_⟩:=HC.out w_ hw_;go_simp;(try with_reducible rfl);done));(try simp only [Act.put,List.setIfInBounds_toArray,List.set_cons_zero,List.set_cons_succ])) | (refine runL_call (f:=?_) (args:=?_) (w1:=?_) (by rfl) (by rfl) ?_ ?_;rotate_left 3;(focus (go_simp;refine ⟨⟨?_,?_⟩,?_⟩ <;> with_reducible rfl));(first | with_reducible refine (HA.out _ _ _).mono ?_ | with_reducible refine (HS.out _ _ _).mono ?_);rintro e w1 ⟨rfl,hb1⟩;replace hS:=hS.trans (hb1.mono hS.size);clear hb1;refine ⟨_,rfl,.inr hS,?_⟩;(try simp only [Act.put,List.setIfInBounds_toArray,List.set_cons_zero,List.set_cons_succ])) | (refine runL_op (by rfl) (by rfl) (exec_facts3 (f:=aloneF 1 o.c) (g:=lessF o.a o.c) (h:=lessF o.b o.c) _ _ _ rfl rfl rfl rfl) (.inr (below_lit (Below.refl _ _) hS _)) ?_;(try simp only [Act.put,List.setIfInBounds_toArray,List.set_cons_zero,List.set_cons_succ])))
   (refine runL_nil ?_)
   have HB1:=Lh hS
   clear hS
   go_wp2
   go_ret
   exact ⟨_,rfl,by rw [HN.out];exact own_lit (l:=[aloneF 1 o.c,lessF o.a o.c,lessF o.b o.c]) (heap_alloc_new w1 _) (by have:=HB.out.size;have:=HB1.out.size;omega) (by simp),below_lit HB.out HB1.out _⟩
 rw [if_neg k12] at hN
 have e12:(k == 12)=false:=beq_eq_false_iff_ne.2 k12
 clear k12
 by_cases k13:k=13
 · rw [if_pos k13] at hN
   have HN:=Lh hN
   subst k13
   clear hN
   go_enter Tryz.func39,Tryz.ntmps39
   go_upto_region 1 with fail
   rw [←HW.out]
   go_upto_region 10 with (first | go_in)
   have hS:=(Below.refl W.heap.size W).drew
   (refine wp_region_lines (Below W.heap.size W) (by kernel_rfl) (by kernel_rfl) (Below.refl W.heap.size W).drew ?_)
   (try simp only [])
   repeat (first | (refine runL_no (by rfl) ?_;(try simp only [Act.put,List.setIfInBounds_toArray,List.set_cons_zero,List.set_cons_succ])) | (refine runL_val (v:=?_) (by rfl) ?_ ?_;rotate_left;(focus (intro w_ hw_;obtain ⟨f0_,f3_,f4_,f5_,f6_⟩:=HC.out w_ hw_;go_simp;(try with_reducible rfl);done));(try simp only [Act.put,List.setIfInBounds_toArray,List.set_cons_zero,List.set_cons_succ])) | (refine runL_call (f:=?_) (args:=?_) (w1:=?_) (by rfl) (by rfl) ?_ ?_;rotate_left 3;(focus (go_simp;refine ⟨⟨?_,?_⟩,?_⟩ <;> with_reducible rfl));(first | with_reducible refine (HA.out _ _ _).mono ?_ | with_reducible refine (HS.out _ _ _).mono ?_);rintro e w1 ⟨rfl,hb1⟩;replace hS:=hS.trans (hb1.mono hS.size);clear hb1;refine ⟨_,rfl,.inr hS,?_⟩;(try simp only [Act.put,List.setIfInBounds_toArray,List.set_cons_zero,List.set_cons_succ])) | (refine runL_op (by rfl) (by rfl) (exec_facts2 (f:=aloneF 1 o.c) (g:=lessF o.a o.c) _ _ rfl rfl rfl) (.inr (below_lit (Below.refl _ _) hS _)) ?_;(try simp only [Act.put,List.setIfInBounds_toArray,List.set_cons_zero,List.set_cons_succ])))
   (refine runL_nil ?_)
   have HB1:=Lh hS
   clear hS
   go_wp2
   go_ret
   exact ⟨_,rfl,by rw [HN.out];exact own_lit (l:=[aloneF 1 o.c,lessF o.a o.c]) (heap_alloc_new w1 _) (by have:=HB.out.size;have:=HB1.out.size;omega) (by simp),below_lit HB.out HB1.out _⟩
 rw [if_neg k13] at hN
 have e13:(k == 13)=false:=beq_eq_false_iff_ne.2 k13
 clear k13
 by_cases k17:k=17
 · rw [if_pos k17] at hN
   subst k17
   obtain ⟨m,hm⟩:∃ m,o.imm=m:=⟨_,rfl⟩
   rw [hm] at hN c6
   by_cases m2:m=2
   · rw [if_pos m2] at hN
     have HN:=Lh hN
     subst m2
     clear hN hm
     go_enter Tryz.func39,Tryz.ntmps39
     go_upto_region 1 with fail
     rw [←HW.out]
     go_wp2_with (first
       | ((with_reducible refine (HA.out _ _ _).mono ?_);rintro e w1 ⟨rfl,hb1⟩;have HB1:=Lh hb1;clear hb1)
       | ((with_reducible refine (HS.out _ _ _).mono ?_);rintro e w1 ⟨rfl,hb1⟩;have HB1:=Lh hb1;clear hb1)
       | go_in)
     go_ret
     exact ⟨_,rfl,by rw [HN.out];exact own_lit (l:=[lessF o.a o.b]) (heap_alloc_new w1 _) (by have:=HB.out.size;have:=HB1.out.size;omega) (by simp),below_lit HB.out HB1.out _⟩
   rw [if_neg m2] at hN
   have d2:((m:Int) == 2)=false:=beq_eq_false_iff_ne.2 (by omega)
   by_cases m1:m=1
   · rw [if_pos m1] at hN
     have HN:=Lh hN
     subst m1
     clear hN hm m2
     go_enter Tryz.func39,Tryz.ntmps39
     go_upto_region 1 with fail
     rw [←HW.out]
     go_wp2_with (first
       | ((with_reducible refine (HA.out _ _ _).mono ?_);rintro e w1 ⟨rfl,hb1⟩;have HB1:=Lh hb1;clear hb1)
       | ((with_reducible refine (HS.out _ _ _).mono ?_);rintro e w1 ⟨rfl,hb1⟩;have HB1:=Lh hb1;clear hb1)
       | go_in)
     go_ret
     exact ⟨_,rfl,by rw [HN.out];exact own_lit (l:=[aloneF 1 o.a]) (heap_alloc_new w1 _) (by have:=HB.out.size;have:=HB1.out.size;omega) (by simp),below_lit HB.out HB1.out _⟩
   rw [if_neg m1] at hN
   have d1:((m:Int) == 1)=false:=beq_eq_false_iff_ne.2 (by omega)
   by_cases m3:m=3
   · rw [if_pos m3] at hN
     have HN:=Lh hN
     subst m3
     clear hN hm m2 m1
     go_enter Tryz.func39,Tryz.ntmps39
     go_upto_region 1 with fail
     rw [←HW.out]
     go_wp2_with (first
       | ((with_reducible refine (HA.out _ _ _).mono ?_);rintro e w1 ⟨rfl,hb1⟩;have HB1:=Lh hb1;clear hb1)
       | ((with_reducible refine (HS.out _ _ _).mono ?_);rintro e w1 ⟨rfl,hb1⟩;have HB1:=Lh hb1;clear hb1)
       | go_in)
     go_ret
     exact ⟨_,rfl,by rw [HN.out];exact own_lit (l:=[aloneF 3 o.a]) (heap_alloc_new w1 _) (by have:=HB.out.size;have:=HB1.out.size;omega) (by simp),below_lit HB.out HB1.out _⟩
   rw [if_neg m3] at hN
   have d3:((m:Int) == 3)=false:=beq_eq_false_iff_ne.2 (by omega)
   have HN:=Lh hN
   clear hN hm m1 m2 m3
   go_enter Tryz.func39,Tryz.ntmps39
   go_upto_region 1 with fail
   rw [←HW.out]
   go_wp2
   go_ret
   exact ⟨_,rfl,by rw [HN.out];exact World.ownsRow_nil _ _ _ _,HB.out⟩
 rw [if_neg k17] at hN
 have e17:(k == 17)=false:=beq_eq_false_iff_ne.2 k17
 have HN:=Lh hN
 clear hN k17
 go_enter Tryz.func39,Tryz.ntmps39
 go_upto_region 1 with fail
 rw [←HW.out]
 go_wp2
 go_ret
 exact ⟨_,rfl,by rw [HN.out];exact World.ownsRow_nil _ _ _ _,HB.out⟩
end Go.Proofs.YtjbabpnepjhllaaGreat
