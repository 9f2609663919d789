/- Part 17 of a claim; what it proves stands in its last text. -/
import Derived.Test.YtocndimihokcmaaGreatAm16
import Derived.DeepKeys4
namespace Go.Proofs.YtocndimihokcmaaGreat
open Go.RowKit
set_option maxRecDepth 100000
open Go.Maps (Keyed)
open Go.Maps
theorem laid9:laidOutB Tryz.prog=true:=by kernel_rfl
theorem rowG:173 < Tryz.prog.types.size:=of_decide_eq_true (by kernel_rfl)
theorem lawG:Keyed Tryz.prog 173:=Keyed.of_law (deep_law_laid laid9 (m:=2) (by omega) rowG (by kernel_rfl) (by kernel_rfl))
def keyG (b m:Nat):Value:=.agg #[.int .i64 b,.int .i64 m]
noncomputable def klG (b m:Nat):Lit:=(keyOf Tryz.prog 173 (keyG b m)).getD (.bool false)
theorem keyG_is:∀ b:Fin 256,∀ m:Fin 8,(keyOf Tryz.prog 173 (keyG b m)).isSome=true:=by decide +kernel
theorem keyG_ok {b m:Nat} (hb:b < 256) (hm:m < 8):keyOf Tryz.prog 173 (keyG b m)=some (klG b m):=by
 have h:=keyG_is ⟨b,hb⟩ ⟨m,hm⟩
 obtain ⟨l,hl⟩:=Option.isSome_iff_exists.1 h
 have hl2:keyOf Tryz.prog 173 (keyG b m)=some l:=hl
 unfold klG
 rw [hl2]
 rfl
attribute [irreducible] klG
def keyEq (b m kb km:Nat):Bool:=b == kb && m == km
theorem keyEq_yes {b m kb km:Nat} (h:keyEq b m kb km=true):b=kb∧m=km:=by
 unfold keyEq at h
 rw [Bool.and_eq_true] at h
 exact ⟨eq_of_beq h.1,eq_of_beq h.2⟩
theorem klG_ne {b m kb km:Nat} (hb:b < 256) (hm:m < 8) (hkb:kb < 256) (hkm:km < 8) (h:keyEq b m kb km=false):klG b m≠klG kb km:=by
 intro e
 have e2:=lawG.inj (keyG_ok hb hm) (by rw [keyG_ok hkb hkm,e])
 unfold keyG at e2
 simp only [Value.agg.injEq,Array.mk.injEq,List.cons.injEq,Value.int.injEq,true_and,and_true] at e2
 have e3:b=kb:=by omega
 have e4:m=km:=by omega
 rw [e3,e4] at h
 unfold keyEq at h
 simp at h
def grpE (v:Value):Option (DataW Unit×List MemPlace):=match v with
 | .agg cs=>match cs.toList with
   | [.int .i64 o,.int .i64 k]=>if (0≤o∧o < 1000)∧0≤k∧k < 100 then some (tkL (o*100+k),[]) else none
   | _=>none
 | _=>none
theorem grpE_mk (o k:Int) (ho:0≤o∧o < 1000) (hk:0≤k∧k < 100):grpE (.agg #[.int .i64 o,.int .i64 k])=some (tkL (o*100+k),[]):=by
 unfold grpE
 simp only
 rw [if_pos ⟨ho,hk⟩]
theorem grpE_inv {v:Value} {o k:Int} {ps:List MemPlace} (ho:0≤o∧o < 1000) (hk:0≤k∧k < 100) (h:grpE v=some (tkL (o*100+k),ps)):v=.agg #[.int .i64 o,.int .i64 k]:=by
 unfold grpE at h
 split at h
 · rename_i cs
   split at h
   · rename_i o' k' hcs
     split at h
     · rename_i hx
       have e:=tkL_inj h
       have e1:o'=o:=by omega
       have e2:k'=k:=by omega
       subst e1 e2
       rw [←Array.toArray_toList (xs:=cs),hcs]
     · cases h
   · cases h
 · cases h
def doneF (l:List Nat) (b m:Nat):Int:=if 3 ∉ l∧keyEq b m 129 0=true then 1504 else if 6 ∉ l∧keyEq b m 129 4=true then 1604 else if 9 ∉ l∧keyEq b m 129 5=true then 1704 else if 12 ∉ l∧keyEq b m 129 7=true then 1804 else if 15 ∉ l∧keyEq b m 247 3=true then 2200 else if 18 ∉ l∧keyEq b m 247 2=true then 2300 else if 21 ∉ l∧keyEq b m 193 4=true then 2401 else if 24 ∉ l∧keyEq b m 193 5=true then 2501 else 0
theorem done_none (b m:Nat):doneF [3,6,9,12,15,18,21,24] b m=0:=by
 unfold doneF
 simp
theorem done_all:∀ b:Fin 256,∀ m:Fin 8,doneF [] b m=(groupC b m).1*100+(groupC b m).2:=by decide +kernel
theorem done_3 {l:List Nat} (hn:l.Nodup) (hl:3∈l) (b m:Nat):doneF (l.erase 3) b m=if keyEq b m 129 0=true then 1504 else doneF l b m:=by
 cases h:keyEq b m 129 0 with
 | true =>
   obtain ⟨rfl,rfl⟩:=keyEq_yes h
   rw [if_pos rfl]
   unfold doneF
   simp [hn.mem_erase_iff,keyEq]
 | false =>
   rw [if_neg (by decide)]
   unfold doneF
   simp [hn.mem_erase_iff,hl,h]
theorem done_6 {l:List Nat} (hn:l.Nodup) (hl:6∈l) (b m:Nat):doneF (l.erase 6) b m=if keyEq b m 129 4=true then 1604 else doneF l b m:=by
 cases h:keyEq b m 129 4 with
 | true =>
   obtain ⟨rfl,rfl⟩:=keyEq_yes h
   rw [if_pos rfl]
   unfold doneF
   simp [hn.mem_erase_iff,keyEq]
 | false =>
   rw [if_neg (by decide)]
   unfold doneF
   simp [hn.mem_erase_iff,hl,h]
theorem done_9 {l:List Nat} (hn:l.Nodup) (hl:9∈l) (b m:Nat):doneF (l.erase 9) b m=if keyEq b m 129 5=true then 1704 else doneF l b m:=by
 cases h:keyEq b m 129 5 with
 | true =>
   obtain ⟨rfl,rfl⟩:=keyEq_yes h
   rw [if_pos rfl]
   unfold doneF
   simp [hn.mem_erase_iff,keyEq]
 | false =>
   rw [if_neg (by decide)]
   unfold doneF
   simp [hn.mem_erase_iff,hl,h]
theorem done_12 {l:List Nat} (hn:l.Nodup) (hl:12∈l) (b m:Nat):doneF (l.erase 12) b m=if keyEq b m 129 7=true then 1804 else doneF l b m:=by
 cases h:keyEq b m 129 7 with
 | true =>
   obtain ⟨rfl,rfl⟩:=keyEq_yes h
   rw [if_pos rfl]
   unfold doneF
   simp [hn.mem_erase_iff,keyEq]
 | false =>
   rw [if_neg (by decide)]
   unfold doneF
   simp [hn.mem_erase_iff,hl,h]
theorem done_15 {l:List Nat} (hn:l.Nodup) (hl:15∈l) (b m:Nat):doneF (l.erase 15) b m=if keyEq b m 247 3=true then 2200 else doneF l b m:=by
 cases h:keyEq b m 247 3 with
 | true =>
   obtain ⟨rfl,rfl⟩:=keyEq_yes h
   rw [if_pos rfl]
   unfold doneF
   simp [hn.mem_erase_iff,keyEq]
 | false =>
   rw [if_neg (by decide)]
   unfold doneF
   simp [hn.mem_erase_iff,hl,h]
theorem done_18 {l:List Nat} (hn:l.Nodup) (hl:18∈l) (b m:Nat):doneF (l.erase 18) b m=if keyEq b m 247 2=true then 2300 else doneF l b m:=by
 cases h:keyEq b m 247 2 with
 | true =>
   obtain ⟨rfl,rfl⟩:=keyEq_yes h
   rw [if_pos rfl]
   unfold doneF
   simp [hn.mem_erase_iff,keyEq]
 | false =>
   rw [if_neg (by decide)]
   unfold doneF
   simp [hn.mem_erase_iff,hl,h]
theorem done_21 {l:List Nat} (hn:l.Nodup) (hl:21∈l) (b m:Nat):doneF (l.erase 21) b m=if keyEq b m 193 4=true then 2401 else doneF l b m:=by
 cases h:keyEq b m 193 4 with
 | true =>
   obtain ⟨rfl,rfl⟩:=keyEq_yes h
   rw [if_pos rfl]
   unfold doneF
   simp [hn.mem_erase_iff,keyEq]
 | false =>
   rw [if_neg (by decide)]
   unfold doneF
   simp [hn.mem_erase_iff,hl,h]
theorem done_24 {l:List Nat} (hn:l.Nodup) (hl:24∈l) (b m:Nat):doneF (l.erase 24) b m=if keyEq b m 193 5=true then 2501 else doneF l b m:=by
 cases h:keyEq b m 193 5 with
 | true =>
   obtain ⟨rfl,rfl⟩:=keyEq_yes h
   rw [if_pos rfl]
   unfold doneF
   simp [hn.mem_erase_iff,keyEq]
 | false =>
   rw [if_neg (by decide)]
   unfold doneF
   simp [hn.mem_erase_iff,hl,h]
def GrpInv (w0:World) (g:Nat) (l:List Nat) (w:World):Prop:=∃ n D,n+l.length=8∧w.ownsMap Tryz.prog 173 grpE g n D∧IsMap D∧Below w0.heap.size w0 w∧∀ b m,b < 256→m < 8→D.atKey (klG b m) (tkL 0)=tkL (doneF l b m)
theorem tdoes_insert {o:Oper} {a:Act} {w:World} {K:Value→World→Prop} {m x v:Operand} {g n:Nat} {D:DataW Unit} (hop:o.op=.insert 170 m x v) (hm:a.eval m=.map (some g)) (hown:w.ownsMap Tryz.prog 173 grpE g n D) (hn:n < maxLen) (key val:Value) (kl:Lit) (hx:a.eval x=key) (hv:a.eval v=val) (hkey:keyOf Tryz.prog 173 key=some kl)
   (d:DataW Unit) (ps:List MemPlace) (hval:grpE val=some (d,ps)) (hK:∀ w',w'.ownsMap Tryz.prog 173 grpE g (n+1) (D.put kl d)→w.mapTurned w' g→K undef w'):TDoes Tryz.prog o a w K:=by
 obtain ⟨w',hrun,r1,r2⟩:=hown.store lawG Tryz.underlying170 hn hkey hval
 unfold TDoes
 simp [execOp,hop,hm,hx,hv,hrun,Result.andThen]
 exact hK w' r1 r2
theorem grp_step {w0 w w':World} {g n:Nat} {D:DataW Unit} {l:List Nat} (i kb km:Nat) (c:Int) (hi:i∈l) (hg:w0.heap.size≤g) (hn:n+l.length=8) (hD:IsMap D) (hb:Below w0.heap.size w0 w) (hk:∀ b m,b < 256→m < 8→D.atKey (klG b m) (tkL 0)=tkL (doneF l b m)) (hkb:kb < 256) (hkm:km < 8)
   (hdone:∀ b m,doneF (l.erase i) b m=if keyEq b m kb km=true then c else doneF l b m) (h1:w'.ownsMap Tryz.prog 173 grpE g (n+1) (D.put (klG kb km) (tkL c))) (h2:w.mapTurned w' g):GrpInv w0 g (l.erase i) w':=by
 refine ⟨n+1,_,?_,h1,hD.put _ _,hb.grown h2.grown hb.size (fun j e=>by cases e;exact hg),fun b m hb hm=>?_⟩
 · have:=List.length_erase_of_mem hi
   have:=List.length_pos_of_mem hi
   omega
 · rw [hdone]
   have hkl:WideAt.IsKeyLit (klG b m):=lawG.key (v:=keyG b m) (keyG_ok hb hm)
   cases h:keyEq b m kb km with
   | true =>
     obtain ⟨e1,e2⟩:=keyEq_yes h
     rw [if_pos rfl,←e1,←e2]
     exact atKey_put_same hD hkl _ _
   | false =>
     rw [if_neg (by decide),atKey_put_other (klG_ne hb hm hkb hkm h)]
     exact hk b m hb hm
theorem erase_app {l t:List Nat} {j:Nat} (h:j∈l):(l++t).erase j=l.erase j++t:=List.erase_append_left _ h
set_option maxHeartbeats 2000000 in
theorem grp_all {ops:Array Oper} {S:World→Prop} {Q:Act→World→Prop} {w0:World} {g:Nat} {a:Act} (hg:w0.heap.size≤g) (hS:∀ w,S w)
   (hT:([3,6,9,12,15,18,21,24].all fun j=>tIn ops j)=true) (hT5:tIn ops 25=false) (hT6:tIn ops 26=false) (hre:([3,6,9,12,15,18,21,24].all fun k=>reaches ops ops.size 25 k && reaches ops ops.size 26 k)=true)
   (hm:a.eval (.tmp 1)=.map (some g))
   (ho3:∃ o,oAt ops.toList 3=some o∧o.op=.insert 170 (.tmp 1) (.tmp 2) (.tmp 3)∧o.guard=none∧o.dst=none) (hk3:a.eval (.tmp 2)=keyG 129 0) (hv3:a.eval (.tmp 3)=.agg #[.int .i64 15,.int .i64 4])
   (ho6:∃ o,oAt ops.toList 6=some o∧o.op=.insert 170 (.tmp 1) (.tmp 4) (.tmp 5)∧o.guard=none∧o.dst=none) (hk6:a.eval (.tmp 4)=keyG 129 4) (hv6:a.eval (.tmp 5)=.agg #[.int .i64 16,.int .i64 4])
   (ho9:∃ o,oAt ops.toList 9=some o∧o.op=.insert 170 (.tmp 1) (.tmp 6) (.tmp 7)∧o.guard=none∧o.dst=none) (hk9:a.eval (.tmp 6)=keyG 129 5) (hv9:a.eval (.tmp 7)=.agg #[.int .i64 17,.int .i64 4])
   (ho12:∃ o,oAt ops.toList 12=some o∧o.op=.insert 170 (.tmp 1) (.tmp 8) (.tmp 9)∧o.guard=none∧o.dst=none) (hk12:a.eval (.tmp 8)=keyG 129 7) (hv12:a.eval (.tmp 9)=.agg #[.int .i64 18,.int .i64 4])
   (ho15:∃ o,oAt ops.toList 15=some o∧o.op=.insert 170 (.tmp 1) (.tmp 10) (.tmp 11)∧o.guard=none∧o.dst=none) (hk15:a.eval (.tmp 10)=keyG 247 3) (hv15:a.eval (.tmp 11)=.agg #[.int .i64 22,.int .i64 0])
   (ho18:∃ o,oAt ops.toList 18=some o∧o.op=.insert 170 (.tmp 1) (.tmp 12) (.tmp 13)∧o.guard=none∧o.dst=none) (hk18:a.eval (.tmp 12)=keyG 247 2) (hv18:a.eval (.tmp 13)=.agg #[.int .i64 23,.int .i64 0])
   (ho21:∃ o,oAt ops.toList 21=some o∧o.op=.insert 170 (.tmp 1) (.tmp 14) (.tmp 15)∧o.guard=none∧o.dst=none) (hk21:a.eval (.tmp 14)=keyG 193 4) (hv21:a.eval (.tmp 15)=.agg #[.int .i64 24,.int .i64 1])
   (ho24:∃ o,oAt ops.toList 24=some o∧o.op=.insert 170 (.tmp 1) (.tmp 16) (.tmp 17)∧o.guard=none∧o.dst=none) (hk24:a.eval (.tmp 16)=keyG 193 5) (hv24:a.eval (.tmp 17)=.agg #[.int .i64 25,.int .i64 1])
   (hQ:∀ w,GrpInv w0 g [] w→runC Tryz.prog ops Q 2 S [25,26] a w):∀ (n:Nat) (l:List Nat),l.length=n→l.Nodup→(∀ i∈l,i∈[3,6,9,12,15,18,21,24])→∀ w,GrpInv w0 g l w→runC Tryz.prog ops Q (n+2) S (l++[25,26]) a w:=by
 intro n
 induction n with
 | zero =>
   intro l hl _ _ w hI
   obtain rfl:=List.eq_nil_of_length_eq_zero hl
   exact hQ w hI
 | succ n ih =>
   intro l hl hnd hsub w hI
   obtain ⟨c,t,rfl⟩:∃ c t,l=c :: t:=by cases l with
     | nil=>cases hl
     | cons c t=>exact ⟨c,t,rfl⟩
   have hc:c∈[3,6,9,12,15,18,21,24]:=hsub c (List.mem_cons_self ..)
   have hrc:=List.all_eq_true.1 hre c hc
   rw [Bool.and_eq_true] at hrc
   generalize hL:c :: t=l at *
   have hcl:c∈l:=by rw [←hL];exact List.mem_cons_self ..
   clear hL
   have step:∀ i∈l,∀ w',GrpInv w0 g (l.erase i) w'→runC Tryz.prog ops Q (n+2) S ((l++[25,26]).erase i) a w':=by
     intro i hi w' hI'
     rw [erase_app hi]
     exact ih _ (by rw [List.length_erase_of_mem hi];omega) (hnd.erase _) (fun k hk=>hsub k (List.mem_of_mem_erase hk)) w' hI'
   refine .inr ⟨fun j hj hjT=>⟨c,List.mem_append_left _ hcl,?_⟩,fun j hj hjT _=>?_⟩
   · rcases List.mem_append.1 hj with h | h
     · have:=List.all_eq_true.1 hT j (hsub j h)
       rw [hjT] at this
       cases this
     · rcases List.mem_cons.1 h with rfl | h
       · exact hrc.1
       · rw [List.mem_singleton] at h
         subst h
         exact hrc.2
   · have hjl:j∈l:=by
       rcases List.mem_append.1 hj with h | h
       · exact h
       · rcases List.mem_cons.1 h with rfl | h
         · rw [hT5] at hjT;cases hjT
         · rw [List.mem_singleton] at h
           subst h
           rw [hT6] at hjT;cases hjT
     have hst:=step j hjl
     obtain ⟨nn,D,hn,hown,hD,hbl,hk⟩:=hI
     have hmem:=hsub j hjl
     simp only [List.mem_cons,List.not_mem_nil,or_false] at hmem
     rcases hmem with rfl | rfl | rfl | rfl | rfl | rfl | rfl | rfl
     · obtain ⟨o,ho,hop,hgd,hds⟩:=ho3
       refine ⟨o,oAt_get ho,by unfold Region.wanted;rw [hgd],tdoes_insert hop hm hown (by unfold maxLen;omega) _ _ _ hk3 hv3 (keyG_ok (by decide) (by decide)) _ _ (grpE_mk 15 4 (by decide) (by decide)) fun w' h1 h2=>⟨S,fun _ h=>h,hS w',?_⟩⟩
       rw [hds]
       exact hst w' (grp_step 3 129 0 1504 hjl hg hn hD hbl hk (by decide) (by decide) (done_3 hnd hjl) h1 h2)
     · obtain ⟨o,ho,hop,hgd,hds⟩:=ho6
       refine ⟨o,oAt_get ho,by unfold Region.wanted;rw [hgd],tdoes_insert hop hm hown (by unfold maxLen;omega) _ _ _ hk6 hv6 (keyG_ok (by decide) (by decide)) _ _ (grpE_mk 16 4 (by decide) (by decide)) fun w' h1 h2=>⟨S,fun _ h=>h,hS w',?_⟩⟩
       rw [hds]
       exact hst w' (grp_step 6 129 4 1604 hjl hg hn hD hbl hk (by decide) (by decide) (done_6 hnd hjl) h1 h2)
     · obtain ⟨o,ho,hop,hgd,hds⟩:=ho9
       refine ⟨o,oAt_get ho,by unfold Region.wanted;rw [hgd],tdoes_insert hop hm hown (by unfold maxLen;omega) _ _ _ hk9 hv9 (keyG_ok (by decide) (by decide)) _ _ (grpE_mk 17 4 (by decide) (by decide)) fun w' h1 h2=>⟨S,fun _ h=>h,hS w',?_⟩⟩
       rw [hds]
       exact hst w' (grp_step 9 129 5 1704 hjl hg hn hD hbl hk (by decide) (by decide) (done_9 hnd hjl) h1 h2)
     · obtain ⟨o,ho,hop,hgd,hds⟩:=ho12
       refine ⟨o,oAt_get ho,by unfold Region.wanted;rw [hgd],tdoes_insert hop hm hown (by unfold maxLen;omega) _ _ _ hk12 hv12 (keyG_ok (by decide) (by decide)) _ _ (grpE_mk 18 4 (by decide) (by decide)) fun w' h1 h2=>⟨S,fun _ h=>h,hS w',?_⟩⟩
       rw [hds]
       exact hst w' (grp_step 12 129 7 1804 hjl hg hn hD hbl hk (by decide) (by decide) (done_12 hnd hjl) h1 h2)
     · obtain ⟨o,ho,hop,hgd,hds⟩:=ho15
       refine ⟨o,oAt_get ho,by unfold Region.wanted;rw [hgd],tdoes_insert hop hm hown (by unfold maxLen;omega) _ _ _ hk15 hv15 (keyG_ok (by decide) (by decide)) _ _ (grpE_mk 22 0 (by decide) (by decide)) fun w' h1 h2=>⟨S,fun _ h=>h,hS w',?_⟩⟩
       rw [hds]
       exact hst w' (grp_step 15 247 3 2200 hjl hg hn hD hbl hk (by decide) (by decide) (done_15 hnd hjl) h1 h2)
     · obtain ⟨o,ho,hop,hgd,hds⟩:=ho18
       refine ⟨o,oAt_get ho,by unfold Region.wanted;rw [hgd],tdoes_insert hop hm hown (by unfold maxLen;omega) _ _ _ hk18 hv18 (keyG_ok (by decide) (by decide)) _ _ (grpE_mk 23 0 (by decide) (by decide)) fun w' h1 h2=>⟨S,fun _ h=>h,hS w',?_⟩⟩
       rw [hds]
       exact hst w' (grp_step 18 247 2 2300 hjl hg hn hD hbl hk (by decide) (by decide) (done_18 hnd hjl) h1 h2)
     · obtain ⟨o,ho,hop,hgd,hds⟩:=ho21
       refine ⟨o,oAt_get ho,by unfold Region.wanted;rw [hgd],tdoes_insert hop hm hown (by unfold maxLen;omega) _ _ _ hk21 hv21 (keyG_ok (by decide) (by decide)) _ _ (grpE_mk 24 1 (by decide) (by decide)) fun w' h1 h2=>⟨S,fun _ h=>h,hS w',?_⟩⟩
       rw [hds]
       exact hst w' (grp_step 21 193 4 2401 hjl hg hn hD hbl hk (by decide) (by decide) (done_21 hnd hjl) h1 h2)
     · obtain ⟨o,ho,hop,hgd,hds⟩:=ho24
       refine ⟨o,oAt_get ho,by unfold Region.wanted;rw [hgd],tdoes_insert hop hm hown (by unfold maxLen;omega) _ _ _ hk24 hv24 (keyG_ok (by decide) (by decide)) _ _ (grpE_mk 25 1 (by decide) (by decide)) fun w' h1 h2=>⟨S,fun _ h=>h,hS w',?_⟩⟩
       rw [hds]
       exact hst w' (grp_step 24 193 5 2501 hjl hg hn hD hbl hk (by decide) (by decide) (done_24 hnd hjl) h1 h2)
end Go.Proofs.YtocndimihokcmaaGreat
namespace Go.Proofs.YtocndimihokcmaaGreat
open Go.RowKit
set_option maxRecDepth 100000
open Go.Maps (Keyed)
open Go.Maps
theorem make_grp (w:World):(Instr.makeMap 170 none).run Tryz.prog w=.ok (.map (some w.heap.size)) (w.alloc (.map #[] 0)):=by kernel_rfl
theorem exec_makeMap {P:Program} {o:Oper} {a:Act} {w w':World} {t:TypeId} {v:Value} (ho:o.op=.makeMap t none) (h:(Instr.makeMap t none).run P w=.ok v w'):(execOp a.eval o).run P w=.ok (.value v) w':=by
 unfold execOp
 simp only [ho,Option.map_none,Sem.run_bind,Sem.run_pure,h,Result.andThen_ok]
def GrpMap (w:World) (g:Nat):Prop:=∃ D,w.ownsMap Tryz.prog 173 grpE g 8 D∧∀ b m,b < 256→m < 8→D.atKey (klG b m) (tkL 0)=tkL ((groupC b m).1*100+(groupC b m).2)
set_option maxHeartbeats 8000000 in
theorem groups_any (w:World):Calls Tryz.prog 95 #[] w fun e w'=>∃ g,e=.returned (.map (some g))∧w.heap.size≤g∧GrpMap w' g∧Below w.heap.size w w':=by
 go_enter Tryz.func95,Tryz.ntmps95
 go_wp2
 refine wp_region_grow (fun _=>True) (by kernel_rfl) (by kernel_rfl) trivial ?_
 obtain ⟨x0,hx0⟩:∃ x0,x0=w.drew:=⟨_,rfl⟩
 have hb0:Below w.heap.size w x0:=by rw [hx0];exact (Below.refl _ _).drew
 rw [←hx0]
 clear hx0
 show runC _ _ _ 27 _ [0,1,2,3,4,5,6,7,8,9,10,11,12,13,14,15,16,17,18,19,20,21,22,23,24,25,26] _ _
 refine runC_at 1 (v:=?_) (by rfl) (by rfl) (by rfl) (by kernel_rfl) (by rfl) ?_ ?_
 rotate_left
 focus (intro w_ hw_;clear hw_;go_simp;(try with_reducible rfl);done)
 (try dsimp only [Act.put])
 show runC _ _ _ 26 _ [0,2,3,4,5,6,7,8,9,10,11,12,13,14,15,16,17,18,19,20,21,22,23,24,25,26] _ _
 try simp only [List.setIfInBounds_toArray,List.set_cons_zero,List.set_cons_succ]
 refine runC_at 2 (v:=?_) (by rfl) (by rfl) (by rfl) (by kernel_rfl) (by rfl) ?_ ?_
 rotate_left
 focus (intro w_ hw_;clear hw_;go_simp;(try with_reducible rfl);done)
 (try dsimp only [Act.put])
 show runC _ _ _ 25 _ [0,3,4,5,6,7,8,9,10,11,12,13,14,15,16,17,18,19,20,21,22,23,24,25,26] _ _
 try simp only [List.setIfInBounds_toArray,List.set_cons_zero,List.set_cons_succ]
 refine runC_at 4 (v:=?_) (by rfl) (by rfl) (by rfl) (by kernel_rfl) (by rfl) ?_ ?_
 rotate_left
 focus (intro w_ hw_;clear hw_;go_simp;(try with_reducible rfl);done)
 (try dsimp only [Act.put])
 show runC _ _ _ 24 _ [0,3,5,6,7,8,9,10,11,12,13,14,15,16,17,18,19,20,21,22,23,24,25,26] _ _
 try simp only [List.setIfInBounds_toArray,List.set_cons_zero,List.set_cons_succ]
 refine runC_at 5 (v:=?_) (by rfl) (by rfl) (by rfl) (by kernel_rfl) (by rfl) ?_ ?_
 rotate_left
 focus (intro w_ hw_;clear hw_;go_simp;(try with_reducible rfl);done)
 (try dsimp only [Act.put])
 show runC _ _ _ 23 _ [0,3,6,7,8,9,10,11,12,13,14,15,16,17,18,19,20,21,22,23,24,25,26] _ _
 try simp only [List.setIfInBounds_toArray,List.set_cons_zero,List.set_cons_succ]
 refine runC_at 7 (v:=?_) (by rfl) (by rfl) (by rfl) (by kernel_rfl) (by rfl) ?_ ?_
 rotate_left
 focus (intro w_ hw_;clear hw_;go_simp;(try with_reducible rfl);done)
 (try dsimp only [Act.put])
 show runC _ _ _ 22 _ [0,3,6,8,9,10,11,12,13,14,15,16,17,18,19,20,21,22,23,24,25,26] _ _
 try simp only [List.setIfInBounds_toArray,List.set_cons_zero,List.set_cons_succ]
 refine runC_at 8 (v:=?_) (by rfl) (by rfl) (by rfl) (by kernel_rfl) (by rfl) ?_ ?_
 rotate_left
 focus (intro w_ hw_;clear hw_;go_simp;(try with_reducible rfl);done)
 (try dsimp only [Act.put])
 show runC _ _ _ 21 _ [0,3,6,9,10,11,12,13,14,15,16,17,18,19,20,21,22,23,24,25,26] _ _
 try simp only [List.setIfInBounds_toArray,List.set_cons_zero,List.set_cons_succ]
 refine runC_at 10 (v:=?_) (by rfl) (by rfl) (by rfl) (by kernel_rfl) (by rfl) ?_ ?_
 rotate_left
 focus (intro w_ hw_;clear hw_;go_simp;(try with_reducible rfl);done)
 (try dsimp only [Act.put])
 show runC _ _ _ 20 _ [0,3,6,9,11,12,13,14,15,16,17,18,19,20,21,22,23,24,25,26] _ _
 try simp only [List.setIfInBounds_toArray,List.set_cons_zero,List.set_cons_succ]
 refine runC_at 11 (v:=?_) (by rfl) (by rfl) (by rfl) (by kernel_rfl) (by rfl) ?_ ?_
 rotate_left
 focus (intro w_ hw_;clear hw_;go_simp;(try with_reducible rfl);done)
 (try dsimp only [Act.put])
 show runC _ _ _ 19 _ [0,3,6,9,12,13,14,15,16,17,18,19,20,21,22,23,24,25,26] _ _
 try simp only [List.setIfInBounds_toArray,List.set_cons_zero,List.set_cons_succ]
 refine runC_at 13 (v:=?_) (by rfl) (by rfl) (by rfl) (by kernel_rfl) (by rfl) ?_ ?_
 rotate_left
 focus (intro w_ hw_;clear hw_;go_simp;(try with_reducible rfl);done)
 (try dsimp only [Act.put])
 show runC _ _ _ 18 _ [0,3,6,9,12,14,15,16,17,18,19,20,21,22,23,24,25,26] _ _
 try simp only [List.setIfInBounds_toArray,List.set_cons_zero,List.set_cons_succ]
 refine runC_at 14 (v:=?_) (by rfl) (by rfl) (by rfl) (by kernel_rfl) (by rfl) ?_ ?_
 rotate_left
 focus (intro w_ hw_;clear hw_;go_simp;(try with_reducible rfl);done)
 (try dsimp only [Act.put])
 show runC _ _ _ 17 _ [0,3,6,9,12,15,16,17,18,19,20,21,22,23,24,25,26] _ _
 try simp only [List.setIfInBounds_toArray,List.set_cons_zero,List.set_cons_succ]
 refine runC_at 16 (v:=?_) (by rfl) (by rfl) (by rfl) (by kernel_rfl) (by rfl) ?_ ?_
 rotate_left
 focus (intro w_ hw_;clear hw_;go_simp;(try with_reducible rfl);done)
 (try dsimp only [Act.put])
 show runC _ _ _ 16 _ [0,3,6,9,12,15,17,18,19,20,21,22,23,24,25,26] _ _
 try simp only [List.setIfInBounds_toArray,List.set_cons_zero,List.set_cons_succ]
 refine runC_at 17 (v:=?_) (by rfl) (by rfl) (by rfl) (by kernel_rfl) (by rfl) ?_ ?_
 rotate_left
 focus (intro w_ hw_;clear hw_;go_simp;(try with_reducible rfl);done)
 (try dsimp only [Act.put])
 show runC _ _ _ 15 _ [0,3,6,9,12,15,18,19,20,21,22,23,24,25,26] _ _
 try simp only [List.setIfInBounds_toArray,List.set_cons_zero,List.set_cons_succ]
 refine runC_at 19 (v:=?_) (by rfl) (by rfl) (by rfl) (by kernel_rfl) (by rfl) ?_ ?_
 rotate_left
 focus (intro w_ hw_;clear hw_;go_simp;(try with_reducible rfl);done)
 (try dsimp only [Act.put])
 show runC _ _ _ 14 _ [0,3,6,9,12,15,18,20,21,22,23,24,25,26] _ _
 try simp only [List.setIfInBounds_toArray,List.set_cons_zero,List.set_cons_succ]
 refine runC_at 20 (v:=?_) (by rfl) (by rfl) (by rfl) (by kernel_rfl) (by rfl) ?_ ?_
 rotate_left
 focus (intro w_ hw_;clear hw_;go_simp;(try with_reducible rfl);done)
 (try dsimp only [Act.put])
 show runC _ _ _ 13 _ [0,3,6,9,12,15,18,21,22,23,24,25,26] _ _
 try simp only [List.setIfInBounds_toArray,List.set_cons_zero,List.set_cons_succ]
 refine runC_at 22 (v:=?_) (by rfl) (by rfl) (by rfl) (by kernel_rfl) (by rfl) ?_ ?_
 rotate_left
 focus (intro w_ hw_;clear hw_;go_simp;(try with_reducible rfl);done)
 (try dsimp only [Act.put])
 show runC _ _ _ 12 _ [0,3,6,9,12,15,18,21,23,24,25,26] _ _
 try simp only [List.setIfInBounds_toArray,List.set_cons_zero,List.set_cons_succ]
 refine runC_at 23 (v:=?_) (by rfl) (by rfl) (by rfl) (by kernel_rfl) (by rfl) ?_ ?_
 rotate_left
 focus (intro w_ hw_;clear hw_;go_simp;(try with_reducible rfl);done)
 (try dsimp only [Act.put])
 show runC _ _ _ 11 _ [0,3,6,9,12,15,18,21,24,25,26] _ _
 try simp only [List.setIfInBounds_toArray,List.set_cons_zero,List.set_cons_succ]
 refine runC_one 0 (by kernel_rfl) (by kernel_rfl) (by rfl) (by rfl) ?_
 obtain ⟨x1,hx1⟩:∃ x1,x1=x0.alloc (.map #[] 0):=⟨_,rfl⟩
 obtain ⟨g,hg⟩:∃ g,g=x0.heap.size:=⟨_,rfl⟩
 refine tdoes_op (w1:=x1) (v:=.map (some g)) (by rw [hx1,hg];exact exec_makeMap rfl (make_grp x0)) (sameS trivial ?_)
 (try dsimp only [Act.put])
 try simp only [List.setIfInBounds_toArray,List.set_cons_zero,List.set_cons_succ]
 have hgw:w.heap.size≤g:=by rw [hg];exact hb0.size
 have hI:GrpInv w g [3,6,9,12,15,18,21,24] x1:=⟨0,.map [],rfl,by rw [hx1,hg];exact World.ownsMap_made x0 _ _ _,isMap_empty,by rw [hx1];exact hb0.alloc hb0.size _,fun b m _ _=>by rw [done_none];rfl⟩
 clear hx1 hg
 show runC _ _ _ (8+2) _ ([3,6,9,12,15,18,21,24]++[25,26]) _ _
 refine grp_all hgw (fun _=>trivial) (by kernel_rfl) (by kernel_rfl) (by kernel_rfl) (by kernel_rfl) rfl ⟨_,rfl,rfl,rfl,rfl⟩ rfl rfl ⟨_,rfl,rfl,rfl,rfl⟩ rfl rfl ⟨_,rfl,rfl,rfl,rfl⟩ rfl rfl ⟨_,rfl,rfl,rfl,rfl⟩ rfl rfl ⟨_,rfl,rfl,rfl,rfl⟩ rfl rfl ⟨_,rfl,rfl,rfl,rfl⟩ rfl rfl ⟨_,rfl,rfl,rfl,rfl⟩ rfl rfl ⟨_,rfl,rfl,rfl,rfl⟩ rfl rfl ?_ 8 [3,6,9,12,15,18,21,24] rfl (by decide) (fun _ h=>h) x1 hI
 clear hI
 intro x2 hI
 refine runC_at 25 (v:=?_) (by rfl) (by rfl) (by rfl) (by kernel_rfl) (by rfl) ?_ ?_
 rotate_left
 focus (intro w_ hw_;clear hw_;go_simp;(try with_reducible rfl);done)
 (try dsimp only [Act.put])
 show runC _ _ _ 1 _ [26] _ _
 try simp only [List.setIfInBounds_toArray,List.set_cons_zero,List.set_cons_succ]
 refine runC_at 26 (v:=?_) (by rfl) (by rfl) (by rfl) (by kernel_rfl) (by rfl) ?_ ?_
 rotate_left
 focus (intro w_ hw_;clear hw_;go_simp;(try with_reducible rfl);done)
 (try dsimp only [Act.put])
 show runC _ _ _ 0 _ [] _ _
 try simp only [List.setIfInBounds_toArray,List.set_cons_zero]
 refine runC_nil ?_
 obtain ⟨n,D,hn,ho,_,hb,hk⟩:=hI
 have HF:=Lh (show GrpMap x2 g∧Below w.heap.size w x2 from ⟨⟨D,ho.mono (by rw [List.length_nil] at hn;omega),fun b m h1 h2=>by rw [hk b m h1 h2];exact congrArg tkL (done_all ⟨b,h1⟩ ⟨m,h2⟩)⟩,hb⟩)
 clear ho hb hk hn
 go_wp2
 go_ret
 exact ⟨g,rfl,hgw,HF.out.1,HF.out.2⟩
theorem infoGrp:(Tryz.prog.info? 169).map (fun i=>i.zero)=some (some (.agg #[.int .i64 0,.int .i64 0])):=by kernel_rfl
theorem groupC_in (b m:Nat):(0≤(groupC b m).1∧(groupC b m).1 < 1000)∧(0:Int)≤(groupC b m).2∧((groupC b m).2:Int) < 100:=by
 unfold groupC
 repeat' split
 all_goals decide
theorem grp_look {w:World} {g b m:Nat} (h:GrpMap w g) (hb:b < 256) (hm:m < 8):(Instr.lookup 170 (.map (some g)) (.agg #[.int .i64 b,.int .i64 m]) false).run Tryz.prog w=.ok (.agg #[.int .i64 (groupC b m).1,.int .i64 (groupC b m).2]) w:=by
 obtain ⟨D,hown,hk⟩:=h
 have hz:(zeroValue 169).run Tryz.prog w=.ok (.agg #[.int .i64 0,.int .i64 0]) w:=by
   obtain ⟨i0,hi,hz0⟩:=Option.map_eq_some_iff.1 infoGrp
   simp [zeroValue,typeInfo,hi,hz0]
 obtain ⟨v,ps,hrun,hv⟩:=hown.lookup lawG Tryz.underlying170 hz (zd:=tkL 0) (zp:=[]) rfl (keyG_ok hb hm)
 rw [hk b m hb hm] at hv
 rw [grpE_inv (groupC_in b m).1 (groupC_in b m).2 hv] at hrun
 exact hrun
end Go.Proofs.YtocndimihokcmaaGreat
namespace Go.Proofs.YtocndimihokcmaaGreat
open Go.RowKit
set_option maxRecDepth 100000
open Go.Maps (Keyed)
open Go.Maps
theorem chg_grown {F:Nat→Prop} {w w':World} {r:Option Nat} (h:w.grownBy w' r) (hr:∀ j,r=some j→F j):Chg F w w':=⟨h.os,h.tape,h.output,h.size,fun j hj hF=>h.block j hj fun e=>hF (hr j e.symm)⟩
theorem own_chg {P:Program} {k:TypeId} {R:Value→Option (DataW Unit×List MemPlace)} {w w':World} {g n:Nat} {D:DataW Unit} {F:Nat→Prop} (h:w.ownsMap P k R g n D) (hc:Chg F w w') (hF:¬ F g):w'.ownsMap P k R g n D:=by
 have hl:=h.lt
 obtain ⟨es,clock,hb,rest⟩:=h
 exact ⟨es,clock,(hc.block _ hl hF).trans hb,rest⟩
def intE (v:Value):Option (DataW Unit×List MemPlace):=match v with
 | .int .i64 n=>some (tkL n,[])
 | _=>none
theorem intE_inv {v:Value} {n:Int} {ps:List MemPlace} (h:intE v=some (tkL n,ps)):v=.int .i64 n:=by
 unfold intE at h
 split at h
 · rw [tkL_inj h]
 · cases h
theorem infoInt:(Tryz.prog.info? 3).map (fun i=>i.zero)=some (some (.int .i64 0)):=by kernel_rfl
theorem int_look {w:World} {g n:Nat} {D:DataW Unit} {k:Nat} {c:Int} (hown:w.ownsMap Tryz.prog 3 intE g n D) (hk:k < 256) (he:D.atKey (.int .i64 k) (tkL 0)=tkL c):(Instr.lookup 133 (.map (some g)) (.int .i64 k) false).run Tryz.prog w=.ok (.int .i64 c) w:=by
 have hz:(zeroValue 3).run Tryz.prog w=.ok (.int .i64 0) w:=by
   obtain ⟨i0,hi,hz0⟩:=Option.map_eq_some_iff.1 infoInt
   simp [zeroValue,typeInfo,hi,hz0]
 obtain ⟨v,ps,hrun,hv⟩:=hown.lookup keyedI Tryz.underlying133 hz (zd:=tkL 0) (zp:=[]) rfl (Go.Maps.keyOf_int_mk Tryz.underlying3 (byte_wf ⟨k,hk⟩))
 rw [he] at hv
 rw [intE_inv hv] at hrun
 exact hrun
def cmovD:DataW Unit:=((DataW.map []).put (.int .i64 66) (tkL 26)).put (.int .i64 69) (tkL 27)
theorem cmov_at:∀ k:Fin 256,(match cmovD.atKey (.int .i64 (k:Nat)) (tkL 0) with | .lit (.int .i64 n)=>n ==(if (k:Nat)=66 then 26 else if (k:Nat)=69 then 27 else 0) | _=>false)=true:=by decide +kernel
theorem pair_in (b:Nat):0≤pairC b∧pairC b < 100:=by
 unfold pairC
 repeat' split
 all_goals decide
theorem meth_pair (p : Int) (w : World) : (method 342 166 (.int .i64 p) "keysmith/decode.take").run Tryz.prog w = .ok (199, .int .i64 p) w := by kernel_rfl
theorem meth_moves (p : Int) (q : Bool) (w : World) : (method 342 168 (.agg #[.int .i64 p, .bool q]) "keysmith/decode.take").run Tryz.prog w = .ok (200, .agg #[.int .i64 p, .bool q]) w := by kernel_rfl
theorem ta_pp (p:Int) (w:World):(Instr.typeAssert (.iface 166 (.int .i64 p)) 161 166 true).run Tryz.prog w=.ok (.tuple #[.int .i64 p,.bool true]) w:=by kernel_rfl
theorem ta_pm (p:Int) (w:World):(Instr.typeAssert (.iface 166 (.int .i64 p)) 161 168 true).run Tryz.prog w=.ok (.tuple #[.agg #[.int .i64 0,.bool false],.bool false]) w:=by kernel_rfl
theorem ta_mp (p:Int) (q:Bool) (w:World):(Instr.typeAssert (.iface 168 (.agg #[.int .i64 p,.bool q])) 161 166 true).run Tryz.prog w=.ok (.tuple #[.int .i64 0,.bool false]) w:=by kernel_rfl
theorem ta_mm (p:Int) (q:Bool) (w:World):(Instr.typeAssert (.iface 168 (.agg #[.int .i64 p,.bool q])) 161 168 true).run Tryz.prog w=.ok (.tuple #[.agg #[.int .i64 p,.bool q],.bool true]) w:=by kernel_rfl
theorem and248 {b:Nat} (hb:b < 256):Go.bits .and .i64 (b:Int) 248=(b / 8*8:Nat):=i64_and248 ⟨b,hb⟩
set_option maxHeartbeats 8000000 in
theorem dwide_pair {L:List UInt8} {b:Nat} {c:Cur} {w:World} (r:Nat) (hL:L.length≤1000000000) (h:CurAt 104 false L b w c) (hp:pairC (byteC c).1≠0):Calls Tryz.prog 74 #[.pointer (some ⟨b,0,none⟩),.int .i64 r] w (CurSay 104 false L b w (wideC r c).2 (.agg (insRow (wideC r c).1).toArray)):=by
 have HLT:=Lh h.lt
 have hb256:(byteC c).1 < 256:=(bok h.ok).2
 have HB:=Lh (fun (w_:World) (h_:CurAt 104 false L b w_ c)=>byte_any hL h_)
 have HC:=Lh (show CurAt 104 false L b (w.alloc (.cells #[.int .i64 0,.int .i64 0,.int .i64 0,.int .i64 0,.int .i64 0,.int .i64 0,.int .i64 0,.int .i64 0,.int .i64 0] 40)) c from h.alloc _)
 have HR:=Lh (show (w.alloc (.cells #[.int .i64 0,.int .i64 0,.int .i64 0,.int .i64 0,.int .i64 0,.int .i64 0,.int .i64 0,.int .i64 0,.int .i64 0] 40)).heap[w.heap.size]? = some (.cells #[.int .i64 0,.int .i64 0,.int .i64 0,.int .i64 0,.int .i64 0,.int .i64 0,.int .i64 0,.int .i64 0,.int .i64 0] 40 (0,0)) from heap_alloc_new w _)
 have HG:=Lh ((Chg.refl (fun j=>j=b) w).alloc (.cells #[.int .i64 0,.int .i64 0,.int .i64 0,.int .i64 0,.int .i64 0,.int .i64 0,.int .i64 0,.int .i64 0,.int .i64 0] 40))
 have HCODE:=Lh (show tkV (codeC (byteC c).1)=.iface 166 (.int .i64 (pairC (byteC c).1)) from by
   have:=pair_in (byteC c).1
   unfold codeC
   rw [if_pos hp]
   unfold tkV
   rw [if_neg (by omega),if_pos (by omega)])
 have HCODE2:=Lh (show (codeC (byteC c).1 != -1)=true from by
   have:=pair_in (byteC c).1
   unfold codeC
   rw [if_pos hp]
   exact bne_iff_ne.2 (by omega))
 have he:wideC r c=(insR (pairC (byteC c).1) (lastC r (byteC (byteC c).2).1) (midC r (byteC (byteC c).2).1) 0 0,(byteC (byteC c).2).2):=by
   unfold wideC
   rw [if_pos hp]
 rw [he]
 dsimp only
 have HT:=Lh (fun (w_:World) (h_:CurAt 104 false L b w_ (byteC c).2)=>ptake_any (pairC (byteC c).1) r hL h_)
 clear he hp h hL
 generalize insR (pairC (byteC c).1) (lastC r (byteC (byteC c).2).1) (midC r (byteC (byteC c).2).1) 0 0=I at *
 generalize (byteC (byteC c).2).2=c2 at *
 generalize pairC (byteC c).1=p at *
 generalize (byteC c).2=c1 at *
 generalize (byteC c).1=bb at *
 have hmeth:=meth_pair p
 have hta1:=ta_pp p
 have hta2:=ta_pm p
 go_enter Tryz.func74,Tryz.ntmps74
 go_wp2_with (first | (refine wpList_load_row rfl 40 _ rfl w.heap.size rfl 40 _ (0,0) _ (setRow_heap _ _ _ _ _ _ (HR.out)) Tryz.underlying40 rfl (by kernel_rfl) ?_) | (refine wpList_store_row rfl 40 _ _ rfl w.heap.size _ rfl rfl 40 _ (HR.out) (by kernel_rfl) (by rfl) (by kernel_rfl) ?_) | (refine wpList_store_row rfl 40 _ _ rfl w.heap.size _ rfl rfl 40 _ (setRow_heap _ _ _ _ _ _ (HR.out)) (by kernel_rfl) (by rfl) (by kernel_rfl) ?_) | ((with_reducible refine (HB.out _ HC.out).mono ?_);rintro e_ w1 ⟨rfl,hc1,hg1⟩;have HR:=Lh (keepS hg1 (by have:=HLT.out;omega) HR.out);have HG:=Lh (HG.out.trans hg1);have HC:=Lh hc1;clear hc1 hg1) | ((with_reducible refine (takers_any _).mono ?_);rintro e_ w2 ⟨rfl,ho2,hb2⟩;have hlk:=tk_look ho2 hb256;rw [HCODE.out] at hlk;have HR:=Lh ((hb2.block _ (lt_of_block HR.out)).trans HR.out);have HC:=Lh (HC.out.chg (Chg.of_below (F:=fun _=>False) hb2) (fun h=>h));have HG:=Lh (HG.out.trans (Chg.of_below hb2));clear hb2 ho2;rw [HCODE2.out] at hlk) | ((with_reducible refine (HT.out _ HC.out).mono ?_);rintro e_ w3 ⟨rfl,hc3,hg3⟩;have HR:=Lh (keepS hg3 (by have:=HLT.out;omega) HR.out);have HG:=Lh (HG.out.trans hg3);have HC:=Lh hc3;clear hc3 hg3))
 refine bodyPost_ret (results_cell_row (ty:=40) rfl _ _ w.heap.size 40 _ (0,0) _ rfl (setRow_heap _ _ _ _ _ _ (setRow_heap _ _ _ _ _ _ (HR.out))) Tryz.underlying40 rfl (by kernel_rfl)) rfl ⟨rfl,?_⟩
 exact ⟨(HC.out.setRow (by have:=HLT.out;omega) _).setRow (by have:=HLT.out;omega) _,(HG.out.setRow (.inr (Nat.le_refl _)) _).setRow (.inr (Nat.le_refl _)) _⟩
set_option maxHeartbeats 8000000 in
theorem dwide_moves {L:List UInt8} {b:Nat} {c:Cur} {w:World} (r:Nat) (hL:L.length≤1000000000) (h:CurAt 104 false L b w c) (op:Int) (sto:Bool) (hcode:tkV (codeC (byteC c).1)=.iface 168 (.agg #[.int .i64 op,.bool sto])) (hne:(codeC (byteC c).1 != -1)=true) (he:wideC r c=mtakeC op sto r (byteC c).2):Calls Tryz.prog 74 #[.pointer (some ⟨b,0,none⟩),.int .i64 r] w (CurSay 104 false L b w (wideC r c).2 (.agg (insRow (wideC r c).1).toArray)):=by
 have HLT:=Lh h.lt
 have hb256:(byteC c).1 < 256:=(bok h.ok).2
 have HB:=Lh (fun (w_:World) (h_:CurAt 104 false L b w_ c)=>byte_any hL h_)
 have HC:=Lh (show CurAt 104 false L b (w.alloc (.cells #[.int .i64 0,.int .i64 0,.int .i64 0,.int .i64 0,.int .i64 0,.int .i64 0,.int .i64 0,.int .i64 0,.int .i64 0] 40)) c from h.alloc _)
 have HR:=Lh (show (w.alloc (.cells #[.int .i64 0,.int .i64 0,.int .i64 0,.int .i64 0,.int .i64 0,.int .i64 0,.int .i64 0,.int .i64 0,.int .i64 0] 40)).heap[w.heap.size]? = some (.cells #[.int .i64 0,.int .i64 0,.int .i64 0,.int .i64 0,.int .i64 0,.int .i64 0,.int .i64 0,.int .i64 0,.int .i64 0] 40 (0,0)) from heap_alloc_new w _)
 have HG:=Lh ((Chg.refl (fun j=>j=b) w).alloc (.cells #[.int .i64 0,.int .i64 0,.int .i64 0,.int .i64 0,.int .i64 0,.int .i64 0,.int .i64 0,.int .i64 0,.int .i64 0] 40))
 have HCODE:=Lh hcode
 have HCODE2:=Lh hne
 rw [he]
 have HT:=Lh (fun (w_:World) (h_:CurAt 104 false L b w_ (byteC c).2)=>mtake_any op sto r hL h_)
 clear he hcode hne h hL
 generalize (mtakeC op sto r (byteC c).2).1=I at *
 generalize (mtakeC op sto r (byteC c).2).2=c2 at *
 generalize (byteC c).2=c1 at *
 generalize (byteC c).1=bb at *
 have hmeth:=meth_moves op sto
 have hta1:=ta_mp op sto
 have hta2:=ta_mm op sto
 go_enter Tryz.func74,Tryz.ntmps74
 go_wp2_with (first | (refine wpList_load_row rfl 40 _ rfl w.heap.size rfl 40 _ (0,0) _ (setRow_heap _ _ _ _ _ _ (HR.out)) Tryz.underlying40 rfl (by kernel_rfl) ?_) | (refine wpList_store_row rfl 40 _ _ rfl w.heap.size _ rfl rfl 40 _ (HR.out) (by kernel_rfl) (by rfl) (by kernel_rfl) ?_) | (refine wpList_store_row rfl 40 _ _ rfl w.heap.size _ rfl rfl 40 _ (setRow_heap _ _ _ _ _ _ (HR.out)) (by kernel_rfl) (by rfl) (by kernel_rfl) ?_) | ((with_reducible refine (HB.out _ HC.out).mono ?_);rintro e_ w1 ⟨rfl,hc1,hg1⟩;have HR:=Lh (keepS hg1 (by have:=HLT.out;omega) HR.out);have HG:=Lh (HG.out.trans hg1);have HC:=Lh hc1;clear hc1 hg1) | ((with_reducible refine (takers_any _).mono ?_);rintro e_ w2 ⟨rfl,ho2,hb2⟩;have hlk:=tk_look ho2 hb256;rw [HCODE.out] at hlk;have HR:=Lh ((hb2.block _ (lt_of_block HR.out)).trans HR.out);have HC:=Lh (HC.out.chg (Chg.of_below (F:=fun _=>False) hb2) (fun h=>h));have HG:=Lh (HG.out.trans (Chg.of_below hb2));clear hb2 ho2;rw [HCODE2.out] at hlk) | ((with_reducible refine (HT.out _ HC.out).mono ?_);rintro e_ w3 ⟨rfl,hc3,hg3⟩;have HR:=Lh (keepS hg3 (by have:=HLT.out;omega) HR.out);have HG:=Lh (HG.out.trans hg3);have HC:=Lh hc3;clear hc3 hg3))
 refine bodyPost_ret (results_cell_row (ty:=40) rfl _ _ w.heap.size 40 _ (0,0) _ rfl (setRow_heap _ _ _ _ _ _ (setRow_heap _ _ _ _ _ _ (HR.out))) Tryz.underlying40 rfl (by kernel_rfl)) rfl ⟨rfl,?_⟩
 exact ⟨(HC.out.setRow (by have:=HLT.out;omega) _).setRow (by have:=HLT.out;omega) _,(HG.out.setRow (.inr (Nat.le_refl _)) _).setRow (.inr (Nat.le_refl _)) _⟩
set_option maxHeartbeats 8000000 in
theorem dwide_imm {L:List UInt8} {b:Nat} {c:Cur} {w:World} (r:Nat) (hL:L.length≤1000000000) (h:CurAt 104 false L b w c) (hn:codeC (byteC c).1 = -1) (h8:(byteC c).1 / 8=23) (he:wideC r c=(insR 2 (lastC r (byteC c).1) 0 0 (numC 8 (byteC c).2).1,(numC 8 (byteC c).2).2)):Calls Tryz.prog 74 #[.pointer (some ⟨b,0,none⟩),.int .i64 r] w (CurSay 104 false L b w (wideC r c).2 (.agg (insRow (wideC r c).1).toArray)):=by
 have HLT:=Lh h.lt
 have hb256:(byteC c).1 < 256:=(bok h.ok).2
 have HB:=Lh (fun (w_:World) (h_:CurAt 104 false L b w_ c)=>byte_any hL h_)
 have HC:=Lh (show CurAt 104 false L b (w.alloc (.cells #[.int .i64 0,.int .i64 0,.int .i64 0,.int .i64 0,.int .i64 0,.int .i64 0,.int .i64 0,.int .i64 0,.int .i64 0] 40)) c from h.alloc _)
 have HR:=Lh (show (w.alloc (.cells #[.int .i64 0,.int .i64 0,.int .i64 0,.int .i64 0,.int .i64 0,.int .i64 0,.int .i64 0,.int .i64 0,.int .i64 0] 40)).heap[w.heap.size]? = some (.cells #[.int .i64 0,.int .i64 0,.int .i64 0,.int .i64 0,.int .i64 0,.int .i64 0,.int .i64 0,.int .i64 0,.int .i64 0] 40 (0,0)) from heap_alloc_new w _)
 have HG:=Lh ((Chg.refl (fun j=>j=b) w).alloc (.cells #[.int .i64 0,.int .i64 0,.int .i64 0,.int .i64 0,.int .i64 0,.int .i64 0,.int .i64 0,.int .i64 0,.int .i64 0] 40))
 have HCODE:=Lh (show tkV (codeC (byteC c).1)=.nilIface from by rw [hn];rfl)
 have HCODE2:=Lh (show (codeC (byteC c).1 != -1)=false from by rw [hn];rfl)
 clear hn
 rw [he]
 dsimp only
 have HLA:=Lh (fun w_=>dlast_any r (byteC c).1 w_)
 have HN:=Lh (fun (w_:World) (h_:CurAt 104 false L b w_ (byteC c).2)=>dnum8_any hL h_)
 have f1:Go.bits .and .i64 ((byteC c).1:Int) 248=((184:Nat):Int):=by rw [and248 hb256,h8]
 clear he h hL h8
 generalize (numC 8 (byteC c).2).1=v at *
 generalize (numC 8 (byteC c).2).2=c2 at *
 generalize (byteC c).2=c1 at *
 generalize lastC r (byteC c).1=y at *
 generalize (byteC c).1=bb at *
 go_enter Tryz.func74,Tryz.ntmps74
 go_wp2_with (first | (refine wpList_load_row rfl 40 _ rfl w.heap.size rfl 40 _ (0,0) _ (setRow_heap _ _ _ _ _ _ (HR.out)) Tryz.underlying40 rfl (by kernel_rfl) ?_) | (refine wpList_store_row rfl 40 _ _ rfl w.heap.size _ rfl rfl 40 _ (HR.out) (by kernel_rfl) (by rfl) (by kernel_rfl) ?_) | (refine wpList_store_row rfl 40 _ _ rfl w.heap.size _ rfl rfl 40 _ (setRow_heap _ _ _ _ _ _ (HR.out)) (by kernel_rfl) (by rfl) (by kernel_rfl) ?_) | ((with_reducible refine (HB.out _ HC.out).mono ?_);rintro e_ w1 ⟨rfl,hc1,hg1⟩;have HR:=Lh (keepS hg1 (by have:=HLT.out;omega) HR.out);have HG:=Lh (HG.out.trans hg1);have HC:=Lh hc1;clear hc1 hg1) | ((with_reducible refine (takers_any _).mono ?_);rintro e_ w2 ⟨rfl,ho2,hb2⟩;have hlk:=tk_look ho2 hb256;rw [HCODE.out] at hlk;have HR:=Lh ((hb2.block _ (lt_of_block HR.out)).trans HR.out);have HC:=Lh (HC.out.chg (Chg.of_below (F:=fun _=>False) hb2) (fun h=>h));have HG:=Lh (HG.out.trans (Chg.of_below hb2));clear hb2 ho2;rw [HCODE2.out] at hlk) | ((with_reducible refine (HN.out _ HC.out).mono ?_);rintro e_ w3 ⟨rfl,hc3,hg3⟩;have HR:=Lh (keepS hg3 (by have:=HLT.out;omega) HR.out);have HG:=Lh (HG.out.trans hg3);have HC:=Lh hc3;clear hc3 hg3) | ((with_reducible refine (HLA.out _).mono ?_);rintro e wp_ ⟨rfl,hw1⟩;subst wp_))
 refine bodyPost_ret (results_cell_row (ty:=40) rfl _ _ w.heap.size 40 _ (0,0) _ rfl (setRow_heap _ _ _ _ _ _ (setRow_heap _ _ _ _ _ _ (HR.out))) Tryz.underlying40 rfl (by kernel_rfl)) rfl ⟨rfl,?_⟩
 exact ⟨(HC.out.setRow (by have:=HLT.out;omega) _).setRow (by have:=HLT.out;omega) _,(HG.out.setRow (.inr (Nat.le_refl _)) _).setRow (.inr (Nat.le_refl _)) _⟩
set_option maxHeartbeats 8000000 in
theorem dwide_cmov {L:List UInt8} {b:Nat} {c:Cur} {w:World} (r:Nat) (hL:L.length≤1000000000) (h:CurAt 104 false L b w c) (hn:codeC (byteC c).1 = -1) (h15:(byteC c).1=15) (he:wideC r c=(insR (if (byteC (byteC c).2).1=66 then 26 else if (byteC (byteC c).2).1=69 then 27 else 0) (midC r (byteC (byteC (byteC c).2).2).1) (lastC r (byteC (byteC (byteC c).2).2).1) 0 0,(byteC (byteC (byteC c).2).2).2)):Calls Tryz.prog 74 #[.pointer (some ⟨b,0,none⟩),.int .i64 r] w (CurSay 104 false L b w (wideC r c).2 (.agg (insRow (wideC r c).1).toArray)):=by
 have HLT:=Lh h.lt
 have hb256:(byteC c).1 < 256:=(bok h.ok).2
 have HB:=Lh (fun (w_:World) (h_:CurAt 104 false L b w_ c)=>byte_any hL h_)
 have HC:=Lh (show CurAt 104 false L b (w.alloc (.cells #[.int .i64 0,.int .i64 0,.int .i64 0,.int .i64 0,.int .i64 0,.int .i64 0,.int .i64 0,.int .i64 0,.int .i64 0] 40)) c from h.alloc _)
 have HR:=Lh (show (w.alloc (.cells #[.int .i64 0,.int .i64 0,.int .i64 0,.int .i64 0,.int .i64 0,.int .i64 0,.int .i64 0,.int .i64 0,.int .i64 0] 40)).heap[w.heap.size]? = some (.cells #[.int .i64 0,.int .i64 0,.int .i64 0,.int .i64 0,.int .i64 0,.int .i64 0,.int .i64 0,.int .i64 0,.int .i64 0] 40 (0,0)) from heap_alloc_new w _)
 have HG:=Lh ((Chg.refl (fun j=>j=b) w).alloc (.cells #[.int .i64 0,.int .i64 0,.int .i64 0,.int .i64 0,.int .i64 0,.int .i64 0,.int .i64 0,.int .i64 0,.int .i64 0] 40))
 have HCODE:=Lh (show tkV (codeC (byteC c).1)=.nilIface from by rw [hn];rfl)
 have HCODE2:=Lh (show (codeC (byteC c).1 != -1)=false from by rw [hn];rfl)
 clear hn
 rw [he]
 dsimp only
 have HM_:=Lh (fun w_=>dmid_any r (byteC (byteC (byteC c).2).2).1 w_)
 have HLA:=Lh (fun w_=>dlast_any r (byteC (byteC (byteC c).2).2).1 w_)
 have hkok:CurOk (byteC c).2:=(bok h.ok).1
 have hk256:(byteC (byteC c).2).1 < 256:=(bok hkok).2
 have HBK:=Lh (fun (w_:World) (h_:CurAt 104 false L b w_ (byteC c).2)=>byte_any hL h_)
 have HBX:=Lh (fun (w_:World) (h_:CurAt 104 false L b w_ (byteC (byteC c).2).2)=>byte_any hL h_)
 have HAT:=Lh (show cmovD.atKey (.int .i64 ((byteC (byteC c).2).1:Nat)) (tkL 0)=tkL (if (byteC (byteC c).2).1=66 then 26 else if (byteC (byteC c).2).1=69 then 27 else 0) from lit_is (cmov_at ⟨(byteC (byteC c).2).1,hk256⟩))
 have f1:Go.bits .and .i64 ((byteC c).1:Int) 248=((8:Nat):Int):=by rw [and248 hb256,h15]
 have d1:(((byteC c).1:Int) == 15)=true:=beq_iff_eq.2 (by omega)
 clear he h hL h15 hkok
 generalize (if (byteC (byteC c).2).1=66 then 26 else if (byteC (byteC c).2).1=69 then 27 else 0)=ok at *
 generalize (midC r (byteC (byteC (byteC c).2).2).1)=x at *
 generalize (lastC r (byteC (byteC (byteC c).2).2).1)=y at *
 generalize (byteC (byteC (byteC c).2).2).1=rm at *
 generalize (byteC (byteC (byteC c).2).2).2=c3 at *
 generalize (byteC (byteC c).2).1=k at *
 generalize (byteC (byteC c).2).2=c2 at *
 generalize (byteC c).2=c1 at *
 generalize (byteC c).1=bb at *
 have hmm:=@run_makeMap Tryz.prog
 go_enter Tryz.func74,Tryz.ntmps74
 go_wp2_with (first | (refine wpList_load_row rfl 40 _ rfl w.heap.size rfl 40 _ (0,0) _ (setRow_heap _ _ _ _ _ _ (HR.out)) Tryz.underlying40 rfl (by kernel_rfl) ?_) | (refine wpList_store_row rfl 40 _ _ rfl w.heap.size _ rfl rfl 40 _ (HR.out) (by kernel_rfl) (by rfl) (by kernel_rfl) ?_) | (refine wpList_store_row rfl 40 _ _ rfl w.heap.size _ rfl rfl 40 _ (setRow_heap _ _ _ _ _ _ (HR.out)) (by kernel_rfl) (by rfl) (by kernel_rfl) ?_) | (refine wpList_insert_in _ rfl _ _ _ 133 rfl 3 3 keyedI Tryz.underlying133 intE w2.heap.size _ _ rfl HMP.out (by unfold maxLen;decide) _ _ _ rfl rfl (Go.Maps.keyOf_int_mk Tryz.underlying3 (by decide)) _ _ (show intE (.int .i64 _)=some (tkL _,[]) from rfl) ?_;intro w4 hm4 ht4;have HMP:=Lh hm4;have hcg:=chg_grown (F:=fun j=>j=w2.heap.size) ht4.grown (fun j e=>by cases e;rfl);have HCm:=Lh (HCm.out.chg hcg (by have:=HML.out;omega));have HRm:=Lh ((hcg.block _ (lt_of_block HRm.out) (by have:=HML.out;omega)).trans HRm.out);have HGm:=Lh (HGm.out.trans' hcg (fun q hq1 hq2=>by have:=HML.out;omega));clear hm4 ht4 hcg) | ((with_reducible refine (HB.out _ HC.out).mono ?_);rintro e_ w1 ⟨rfl,hc1,hg1⟩;have HR:=Lh (keepS hg1 (by have:=HLT.out;omega) HR.out);have HG:=Lh (HG.out.trans hg1);have HC:=Lh hc1;clear hc1 hg1) | ((with_reducible refine (takers_any _).mono ?_);rintro e_ w2 ⟨rfl,ho2,hb2⟩;have hlk:=tk_look ho2 hb256;rw [HCODE.out] at hlk;have HR:=Lh ((hb2.block _ (lt_of_block HR.out)).trans HR.out);have HC:=Lh (HC.out.chg (Chg.of_below (F:=fun _=>False) hb2) (fun h=>h));have HG:=Lh (HG.out.trans (Chg.of_below hb2));clear hb2 ho2;rw [HCODE2.out] at hlk;have HMP:=Lh (World.ownsMap_made w2 Tryz.prog 3 intE);have HML:=Lh (show b < w2.heap.size∧w.heap.size < w2.heap.size from ⟨HC.out.lt,lt_of_block HR.out⟩);have HCm:=Lh (HC.out.alloc (.map #[] 0));have HRm:=Lh (show (w2.alloc (.map #[] 0)).heap[w.heap.size]? = _ from (heap_alloc_old w2 _ (lt_of_block HR.out)).trans HR.out);have HGm:=Lh (HG.out.alloc (.map #[] 0))) | ((with_reducible refine (HBK.out _ HCm.out).mono ?_);rintro e_ w5 ⟨rfl,hc5,hg5⟩;have hlk2:=int_look (own_chg HMP.out hg5 (by have:=HML.out;omega)) hk256 HAT.out;have HR:=Lh (keepS hg5 (by have:=HLT.out;omega) HRm.out);have HG:=Lh (HGm.out.trans hg5);have HC:=Lh hc5;clear hc5 hg5) | ((with_reducible refine (HBX.out _ HC.out).mono ?_);rintro e_ w6 ⟨rfl,hc6,hg6⟩;have HR:=Lh (keepS hg6 (by have:=HLT.out;omega) HR.out);have HG:=Lh (HG.out.trans hg6);have HC:=Lh hc6;clear hc6 hg6) | ((with_reducible refine (HM_.out _).mono ?_);rintro e wp_ ⟨rfl,hw1⟩;subst wp_) | ((with_reducible refine (HLA.out _).mono ?_);rintro e wp_ ⟨rfl,hw1⟩;subst wp_))
 all_goals (refine bodyPost_ret (results_cell_row (ty:=40) rfl _ _ w.heap.size 40 _ (0,0) _ rfl (setRow_heap _ _ _ _ _ _ (setRow_heap _ _ _ _ _ _ (HR.out))) Tryz.underlying40 rfl (by kernel_rfl)) rfl ⟨rfl,?_⟩)
 all_goals (exact ⟨(HC.out.setRow (by have:=HLT.out;omega) _).setRow (by have:=HLT.out;omega) _,(HG.out.setRow (.inr (Nat.le_refl _)) _).setRow (.inr (Nat.le_refl _)) _⟩)
end Go.Proofs.YtocndimihokcmaaGreat
