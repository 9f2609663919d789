/- Part 1 of a claim; what it proves stands in its last text. -/
import Derived.OrdersHeld
import Derived.WalkKit
import Derived.Lib.Hide
import Derived.Deep.QuietTactic
import Derived.BigQuiet
import Derived.Deep.RegionHeld3
import Derived.Deep.AppendLies
import Derived.WalkSpells
import Derived.Test.YtppoiahhaclleaaDoorRows
namespace Go.Proofs.YtppoiahhaclleaaDoor
open Go
def TDoes (P:Program) (o:Oper) (a:Act) (w:World) (K:Value→World→Prop):Prop :=
 match (execOp a.eval o).run P w with
 | .ok (.value v) w'=>K v w'
 | .ok .skip w'=>K undef w'
 | .ok (.enter f args) w'=>Calls P f args w' fun e w''=>∃ v,e=.returned v∧K v w''
 | .ok (.row r args) w'=>Rows P r args w' K
 | _=>False
theorem TDoes.mono {P:Program} {o:Oper} {a:Act} {w:World} {K K':Value→World→Prop} (h:TDoes P o a w K) (hk:∀ v w',K v w'→K' v w'):TDoes P o a w K':=by
 unfold TDoes at *
 generalize (execOp a.eval o).run P w=r at *
 cases r with
 | ok n w' =>
   cases n <;> simp only at h ⊢
   case value v=>exact hk _ _ h
   case skip=>exact hk _ _ h
   case enter f args=>exact h.mono fun e w'' ⟨v,hv,h'⟩=>⟨v,hv,hk _ _ h'⟩
   case row row args=>exact h.mono fun v w'' h'=>hk _ _ h'
 | halt x w'=>exact h
theorem TDoes.some {P:Program} {o:Oper} {a:Act} {w:World} {K:Value→World→Prop} (h:TDoes P o a w K):∃ v w',K v w':=by
 unfold TDoes at *
 generalize (execOp a.eval o).run P w=r at *
 cases r with
 | ok n w' =>
   cases n <;> simp only at h
   case value v=>exact ⟨_,_,h⟩
   case skip=>exact ⟨_,_,h⟩
   case enter f args=>obtain ⟨e,w1,fr,⟨v,_,hk⟩,_⟩:=h [];exact ⟨_,_,hk⟩
   case row row args=>obtain ⟨v,w1,hk,_⟩:=h (Frame.enter P 0 #[] .normal) [];exact ⟨_,_,hk⟩
 | halt x w'=>exact h.elim
theorem TDoes.wp {P:Program} {o:Oper} {a:Act} {w:World} {K:Value→World→Prop} {K':Act→World→Prop} {Q:Exit→Act→World→Prop} (h:TDoes P o a w K) (hk:∀ v w',K v w'→K' (a.put o.dst v) w') :
   Oper.wp P o a w K' Q:=by
 unfold TDoes at h
 unfold Oper.wp
 generalize (execOp a.eval o).run P w=r at *
 cases r with
 | ok n w' =>
   cases n <;> simp only at h
   case value v=>exact hk _ _ h
   case skip=>exact hk _ _ h
   case enter f args=>exact Calls.mono h fun e w'' ⟨v,hv,h'⟩=>by subst hv;exact hk _ _ h'
   case row row args=>exact Rows.mono h fun v w'' h'=>hk _ _ h'
 | halt x w'=>exact h.elim
theorem TDoes.congr {P:Program} {o:Oper} {a a':Act} {w:World} {K:Value→World→Prop} (h:TDoes P o a w K) (he:execOp a'.eval o=execOp a.eval o):TDoes P o a' w K:=by
 unfold TDoes at *
 rw [he]
 exact h
def direct (ops:Array Oper) (j i:Nat):Bool:=match ops[j]? with
 | some o=>o.after.any fun e=>Region.binds .any e && e.on == i
 | none=>false
def reaches (ops:Array Oper):Nat→Nat→Nat→Bool
 | 0,_,_=>false
 | f+1,j,i=>direct ops j i || match ops[j]? with
   | some o=>o.after.any fun e=>Region.binds .any e && decide (i < e.on) && reaches ops f e.on i
   | none=>false
def lastOk (ops:Array Oper):Bool:=(List.range (ops.size - 1)).all fun i=>reaches ops ops.size (ops.size - 1) i
def freeOf (ops:Array Oper) (i k:Nat):Bool:=decide (k < ops.size) && !(k == i) && !reaches ops ops.size i k
def chainOk (ops:Array Oper):List Nat→Bool
 | x :: y :: r=>decide (x < y) && reaches ops ops.size y x && chainOk ops (y :: r)
 | _=>true
def pairOk (ops:Array Oper) (T:List Nat) (i j:Nat):Bool:=direct ops j i || (T.contains i && T.contains j) || match ops[i]?,ops[j]? with
 | some x,some y=>x.apart ops y
 | _,_=>false
def textOk (ops:Array Oper) (T:List Nat):Bool :=
 Region.noSelect ops && chainOk ops T && (List.range ops.size).all fun j=>(match ops[j]? with | some o=>o.after.all fun e=>!Region.binds .any e || decide (e.on < j) | none=>false) &&
   (List.range j).all fun i=>pairOk ops T i j
def runT (P:Program) (ops:Array Oper) (T:List Nat) (S:Nat→World→Prop) (Q:Act→World→Prop):List Nat→Act→World→Prop
 | [],a,w=>Q a w
 | i :: l,a,w=>∃ o,ops[i]? = some o ∧
   ((∃ v,YieldsIf P ops (S i) o v a∧runT P ops T S Q l (a.put o.dst v) w) ∨
    (T.contains i=true∧Region.wanted o (yielded ops a.tmps)=true∧TDoes P o a w fun v w'=>(∀ k,freeOf ops i k=true→S k w')∧runT P ops T S Q l (a.put o.dst v) w'))
section
variable {P:Program} {ops:Array Oper} {T:List Nat} {S:Nat→World→Prop} {Q:Act→World→Prop}
theorem YieldsIf.same {S:World→Prop} {o:Oper} {v u:Value} {a:Act} (h:YieldsIf P ops S o v a) (h':YieldsIf P ops S o u a) {w:World} (hS:S w):v=u:=by
 rcases h with ⟨h1,h2⟩ | ⟨h1,h2⟩ <;> rcases h' with ⟨h3,h4⟩ | ⟨h3,h4⟩
 · have:=(h2 w hS).symm.trans (h4 w hS);cases this;rfl
 · rw [h1] at h3;cases h3
 · rw [h1] at h3;cases h3
 · rw [h2,h4]
theorem runT_pull {j:Nat} {oj:Oper} (hre:∀ i k,reaches ops ops.size i k=true→k < i) (hj:ops[j]? = some oj) (hjT:T.contains j=false) (hns:∀ (j:Nat) (o:Oper) cs b,ops[j]? = some o→o.op≠.select cs b) :
   ∀ (l:List Nat) (a:Act) (w:World),l.Pairwise (· < ·)→(∀ i∈l,i < ops.size)→j∈l→(∀ i∈l,i < j→∀ oi,ops[i]? = some oi→oi.apart ops oj=true)→runT P ops T S Q l a w→S j w →
     ∃ v,YieldsIf P ops (S j) oj v a∧runT P ops T S Q (l.erase j) (a.put oj.dst v) w:=by
 intro l
 induction l with
 | nil=>intro a w _ _ h;cases h
 | cons i l ih =>
   intro a w hp hsz hjl hap h hS
   obtain ⟨oi,hoi,h⟩:=h
   by_cases hij:i=j
   · subst hij
     rw [hj] at hoi
     cases hoi
     rw [List.erase_cons_head]
     rcases h with ⟨v,hy,hr⟩ | ⟨hT,_⟩
     · exact ⟨v,hy,hr⟩
     · rw [hT] at hjT;cases hjT
   · have hjl' : j ∈ l := by rcases List.mem_cons.1 hjl with h | h
                             · exact absurd h.symm hij
                             · exact h
     have hlt:i < j:=(List.pairwise_cons.1 hp).1 j hjl'
     have hapij:=hap i (List.mem_cons_self ..) hlt oi hoi
     obtain ⟨h1,h2,h3⟩:=Oper.apart_spec hapij
     have hsel:∀ cs b,oj.op≠.select cs b:=fun cs b=>hns j oj cs b hj
     have hseli:∀ cs b,oi.op≠.select cs b:=fun cs b=>hns i oi cs b hoi
     have ih':=fun a w=>ih a w (List.pairwise_cons.1 hp).2 (fun k hk=>hsz k (List.mem_cons_of_mem _ hk)) hjl' (fun k hk=>hap k (List.mem_cons_of_mem _ hk))
     have back:∀ u v,YieldsIf P ops (S j) oj v (a.put oi.dst u)→YieldsIf P ops (S j) oj v a:=fun u v hy =>
       hy.of_same (execOp_put oj hsel a oi.dst u h1).symm (wanted_put oj a oi.dst u h1).symm
     have forth:∀ u v,YieldsIf P ops (S j) oj v a→YieldsIf P ops (S j) oj v (a.put oi.dst u):=fun u v hy =>
       hy.of_same (execOp_put oj hsel a oi.dst u h1) (wanted_put oj a oi.dst u h1)
     rw [List.erase_cons_tail (by simpa using hij)]
     rcases h with ⟨u,hy,hr⟩ | ⟨hT,hw,hd⟩
     · obtain ⟨v,hv,hr'⟩:=ih' _ w hr hS
       refine ⟨v,back u v hv,oi,hoi,.inl ⟨u,hy.of_same (execOp_put oi hseli a oj.dst v h3) (wanted_put oi a oj.dst v h3),?_⟩⟩
       rw [←Act.put_comm a u v h2]
       exact hr'
     · have hfr:freeOf ops i j=true:=by
         have h1:=hsz j hjl
         have h2:reaches ops ops.size i j=false:=by
           cases hr:reaches ops ops.size i j
           · rfl
           · have:=hre i j hr;omega
         simp [freeOf,h1,h2];omega
       obtain ⟨aA,w1,hS1,hr1⟩:=hd.some
       have hS1:S j w1:=hS1 j hfr
       obtain ⟨v,hv,_⟩:=ih' _ w1 hr1 hS1
       have hva:=back aA v hv
       refine ⟨v,hva,oi,hoi,.inr ⟨hT,by rw [wanted_put oi a oj.dst v h3];exact hw,?_⟩⟩
       refine (hd.congr (execOp_put oi hseli a oj.dst v h3)).mono fun u w' ⟨hS',hr'⟩=>⟨hS',?_⟩
       have hS'':S j w':=hS' j hfr
       obtain ⟨v',hv',hr''⟩:=ih' _ w' hr' hS''
       obtain rfl:=YieldsIf.same hva (back u v' hv') hS
       rw [←Act.put_comm a u v h2]
       exact hr''
theorem runT_pullT {j:Nat} {oj:Oper} (hj:ops[j]? = some oj) (hns:∀ (j:Nat) (o:Oper) cs b,ops[j]? = some o→o.op≠.select cs b) :
   ∀ (l:List Nat) (a:Act) (w:World),l.Pairwise (· < ·)→j∈l→(∀ i∈l,i < j→T.contains i=false∧∀ oi,ops[i]? = some oi→oi.apart ops oj=true)→runT P ops T S Q l a w→S j w→∀ L:List Nat,(∀ k∈L,k≠j→freeOf ops j k=true)→(∀ k∈L,S k w) →
     wpOp P ops (fun _ _ _=>False) j (fun a' w'=>(∀ k∈L,k≠j→S k w')∧runT P ops T S Q (l.erase j) a' w') a w:=by
 intro l
 induction l with
 | nil=>intro a w _ h;cases h
 | cons i l ih =>
   intro a w hp hjl hap h hS L hL hSL
   obtain ⟨oi,hoi,h⟩:=h
   by_cases hij:i=j
   · subst hij
     rw [hj] at hoi
     cases hoi
     rw [List.erase_cons_head]
     rcases h with ⟨v,hy,hr⟩ | ⟨hT,hw,hd⟩
     · exact hy.wpOp hj hS ⟨fun k hk _=>hSL k hk,hr⟩
     · unfold wpOp
       simp only [hj,hw,if_true]
       exact .inl (hd.wp fun v w' h=>⟨fun k hk hne=>h.1 k (hL k hk hne),h.2⟩)
   · have hjl' : j ∈ l := by rcases List.mem_cons.1 hjl with h | h
                             · exact absurd h.symm hij
                             · exact h
     have hlt:i < j:=(List.pairwise_cons.1 hp).1 j hjl'
     obtain ⟨hiT,hapij⟩:=hap i (List.mem_cons_self ..) hlt
     have hapij:=hapij oi hoi
     have hsel:∀ cs b,oj.op≠.select cs b:=fun cs b=>hns j oj cs b hj
     have hseli:∀ cs b,oi.op≠.select cs b:=fun cs b=>hns i oi cs b hoi
     rw [List.erase_cons_tail (by simpa using hij)]
     rcases h with ⟨u,hy,hr⟩ | ⟨hT,_⟩
     · have h1:=ih _ w (List.pairwise_cons.1 hp).2 hjl' (fun k hk=>hap k (List.mem_cons_of_mem _ hk)) hr hS L hL hSL
       have h2:=wpOp_putIf hj hapij hseli hsel (fun _ _ _ h=>h) hy h1
       exact wpOp_mono (fun a' w' ⟨hy',hS',hr'⟩=>⟨hS',oi,hoi,.inl ⟨u,hy',hr'⟩⟩) h2
     · rw [hT] at hiT;cases hiT
theorem wpOp_weaken {Q':Exit→Act→World→Prop} {j:Nat} {K:Act→World→Prop} {a:Act} {w:World} (h:wpOp P ops (fun _ _ _=>False) j K a w):wpOp P ops Q' j K a w:=by
 unfold wpOp at *
 split
 · rename_i hn;simpa [hn] using h
 · rename_i o ho
   simp only [ho] at h
   split
   · rename_i hw
     simp only [hw,if_true] at h
     rcases h with h | ⟨_,a0,w0,hf⟩
     · refine .inl ?_
       unfold Oper.wp at *
       generalize (execOp a.eval o).run P w=r at *
       cases r with
       | ok n w' =>
         cases n <;> simp only [Oper.upon] at h ⊢
         case value=>exact h
         case skip=>exact h
         case defer=>exact h
         case enter f args =>
           exact Calls.mono h fun e w'' he=>by
             cases e with
             | returned u=>exact he
             | panicked c=>exact he.elim
             | outgrown=>obtain ⟨_,_,h⟩:=he;exact h.elim
         case row=>exact h
       | halt x w'=>cases x <;> simp only [Oper.upon] at h
     · exact hf.elim
   · rename_i hw;simpa [hw] using h
def Closed (ops:Array Oper) (listed:Array Bool):Prop:=∀ j o,ops[j]? = some o→listed.getD j false=true→∀ e∈o.after,Region.binds .any e=true→listed.getD e.on false=true
theorem direct_iff {j i:Nat} {o:Oper} (ho:ops[j]? = some o):direct ops j i=true↔∃ e∈o.after,Region.binds .any e=true∧e.on=i:=by
 unfold direct
 simp only [ho,Array.any_eq_true',Bool.and_eq_true,beq_iff_eq]
theorem reaches_listed {listed:Array Bool} (hc:Closed ops listed):∀ (f j i:Nat),reaches ops f j i=true→(∀ k,direct ops j k=true→listed.getD k false=true)→listed.getD i false=true
 | 0,_,_,h,_=>by cases h
 | f+1,j,i,h,hd=>by
   simp only [reaches,Bool.or_eq_true] at h
   rcases h with h | h
   · exact hd i h
   · cases ho:ops[j]? with
     | none=>simp [ho] at h
     | some o =>
       simp only [ho,Array.any_eq_true',Bool.and_eq_true,decide_eq_true_eq] at h
       obtain ⟨e,he,⟨hb,_⟩,hr⟩:=h
       have hl:=hd e.on ((direct_iff ho).2 ⟨e,he,hb,rfl⟩)
       refine reaches_listed hc f e.on i hr fun k hk=>?_
       cases ho':ops[e.on]? with
       | none=>simp [direct,ho'] at hk
       | some o' =>
         obtain ⟨e',he',hb',rfl⟩:=(direct_iff ho').1 hk
         exact hc e.on o' ho' hl e' he' hb'
theorem chain_listed {listed:Array Bool} (hc:Closed ops listed):∀ (T:List Nat),chainOk ops T=true→∀ j∈T,(∀ i,direct ops j i=true→listed.getD i false=true)→∀ i∈T,i < j→listed.getD i false=true
 | [],_,j,hj=>by cases hj
 | [x],_,j,hj=>fun _ i hi hlt=>by simp at hj hi;omega
 | x :: y :: r,hch,j,hj=>fun hd i hi hlt=>by
   have sorted:∀ (l:List Nat) (x:Nat),chainOk ops (x :: l)=true→∀ z∈l,x < z:=by
     intro l
     induction l with
     | nil=>intro x _ z hz;cases hz
     | cons q l ihl =>
       intro x hx z hz
       simp only [chainOk,Bool.and_eq_true,decide_eq_true_eq] at hx
       rcases List.mem_cons.1 hz with rfl | hz
       · exact hx.1.1
       · have:=ihl q hx.2 z hz;omega
   have hall:=hch
   simp only [chainOk,Bool.and_eq_true,decide_eq_true_eq] at hch
   have ih:=chain_listed hc (y :: r) hch.2
   rcases List.mem_cons.1 hj with rfl | hj'
   · rcases List.mem_cons.1 hi with rfl | hi
     · omega
     · have:=sorted _ _ hall i hi;omega
   · rcases List.mem_cons.1 hi with rfl | hi
     · have hpre:∀ k,direct ops y k=true→listed.getD k false=true:=by
         rcases List.mem_cons.1 hj' with h | h
         · rw [←h];exact hd
         · have hy:=ih j hj' hd y (List.mem_cons_self ..) (sorted _ _ hch.2 j h)
           intro k hk
           cases ho:ops[y]? with
           | none=>simp [direct,ho] at hk
           | some o =>
             obtain ⟨e,he,hb,rfl⟩:=(direct_iff ho).1 hk
             exact hc y o ho hy e he hb
       exact reaches_listed hc _ _ _ hch.1.2 hpre
     · exact ih j hj' hd i hi hlt
theorem reaches_lt (hlt:∀ (j:Nat) (o:Oper),ops[j]? = some o→∀ e∈o.after,Region.binds .any e=true→e.on < j):∀ (f i k:Nat),reaches ops f i k=true→k < i
 | 0,_,_,h=>by cases h
 | f+1,i,k,h=>by
   simp only [reaches,Bool.or_eq_true] at h
   cases ho:ops[i]? with
   | none=>simp [ho,direct] at h
   | some o =>
     rcases h with h | h
     · obtain ⟨e,he,hb,rfl⟩:=(direct_iff ho).1 h
       exact hlt i o ho e he hb
     · simp only [ho,Array.any_eq_true',Bool.and_eq_true,decide_eq_true_eq] at h
       obtain ⟨e,he,⟨hb,hk⟩,_⟩:=h
       have:=hlt i o ho e he hb
       omega
theorem all_orders (hok:textOk ops T=true) {Q':Exit→Act→World→Prop} (hQ:∀ a w,Q a w→Q' .normal a w) :
   ∀ (l:List Nat) (listed:Array Bool) (a:Act) (w:World),listed.size=ops.size→Closed ops listed→l.Pairwise (· < ·)→(∀ k,k∈l↔k < ops.size∧listed.getD k true=false) →
     runT P ops T S Q l a w→(∀ k∈l,S k w)→wpAny P .any ops Q' l.length listed a w:=by
 simp only [textOk,Bool.and_eq_true,List.all_eq_true,List.mem_range] at hok
 obtain ⟨⟨hns,hch⟩,hall⟩:=hok
 have hsel:=Region.noSelect_spec hns
 have hre:∀ i k,reaches ops ops.size i k=true→k < i:=reaches_lt (fun j o ho e he hb=>by
   have hjs:j < ops.size:=by
     rcases Nat.lt_or_ge j ops.size with h | h
     · exact h
     · rw [Array.getElem?_eq_none h] at ho;cases ho
   have hb':=(hall j hjs).1
   rw [ho] at hb'
   have:=(Array.all_eq_true_iff_forall_mem.1 hb') e he
   rw [hb] at this
   simpa using this) _
 intro l
 generalize hn:l.length=n
 induction n generalizing l with
 | zero =>
   intro listed a w hsz hc hp hl h _
   obtain rfl:=List.eq_nil_of_length_eq_zero hn
   refine ⟨?_,hQ _ _ h⟩
   refine List.eq_nil_iff_forall_not_mem.2 fun k hk=>?_
   obtain ⟨h1,o,ho,_⟩:=mem_ready.1 hk
   have:k < ops.size:=by
     rcases Nat.lt_or_ge k ops.size with h | h
     · exact h
     · rw [Array.getElem?_eq_none h] at ho;cases ho
   exact absurd ((hl k).2 ⟨this,h1⟩) (by simp)
 | succ n ih =>
   intro listed a w hsz hc hp hl h hS
   have hne:l≠[]:=by intro e;rw [e] at hn;cases hn
   refine ⟨fun hr=>?_,fun j hj=>?_⟩
   · exfalso
     obtain ⟨x,l',rfl⟩:=List.exists_cons_of_ne_nil hne
     have hx:=(hl x).1 (List.mem_cons_self ..)
     have:x∈Region.ready .any ops listed:=by
       have ho:ops[x]? = some (ops[x]'hx.1):=Array.getElem?_eq_getElem hx.1
       refine mem_ready.2 ⟨hx.2,_,ho,fun e he hb=>?_⟩
       have hb':=(hall x hx.1).1
       rw [ho] at hb'
       have hlt:e.on < x:=by
         have:=(Array.all_eq_true_iff_forall_mem.1 hb') e he
         rw [hb] at this
         simpa using this
       cases hg:listed.getD e.on false
       · have hm:e.on∈x :: l':=(hl e.on).2 ⟨by omega,by
           have hlt':e.on < listed.size:=by omega
           simp [hlt'] at hg ⊢;exact hg⟩
         rcases List.mem_cons.1 hm with h | h
         · omega
         · have:=(List.pairwise_cons.1 hp).1 _ h;omega
       · rfl
     rw [hr] at this
     cases this
   · obtain ⟨hjun,oj,hoj,hall'⟩:=mem_ready.1 hj
     have hjs:j < ops.size:=by
       rcases Nat.lt_or_ge j ops.size with h | h
       · exact h
       · rw [Array.getElem?_eq_none h] at hoj;cases hoj
     have hjl:j∈l:=(hl j).2 ⟨hjs,hjun⟩
     have unl:∀ i∈l,listed.getD i false=false:=fun i hi=>by
       have:=(hl i).1 hi
       have hlt':i < listed.size:=by omega
       simpa [hlt'] using this.2
     have hdir:∀ i,direct ops j i=true→listed.getD i false=true:=fun i hi=>by
       obtain ⟨e,he,hb,rfl⟩:=(direct_iff hoj).1 hi
       exact hall' e he hb
     have hpair:∀ i∈l,i < j→direct ops j i=false:=fun i hi _=>by
       cases hd:direct ops j i
       · rfl
       · have:=hdir i hd;rw [unl i hi] at this;cases this
     have hTT:∀ i∈l,i < j→T.contains j=true→T.contains i=false:=fun i hi hlt hT=>by
       cases hTi:T.contains i
       · rfl
       · have:=chain_listed hc T hch j (by simpa using hT) hdir i (by simpa using hTi) hlt
         rw [unl i hi] at this;cases this
     have hap:∀ i∈l,i < j→∀ oi,ops[i]? = some oi→oi.apart ops oj=true:=fun i hi hlt oi hoi=>by
       have:=(hall j hjs).2 i hlt
       simp only [pairOk,hpair i hi hlt,hoi,hoj,Bool.false_or,Bool.or_eq_true,Bool.and_eq_true] at this
       rcases this with ⟨h1,h2⟩ | h
       · rw [hTT i hi hlt h2] at h1;cases h1
       · exact h
     have hfree:∀ k∈l,k≠j→freeOf ops j k=true:=fun k hk hne=>by
       have h1:=((hl k).1 hk).1
       have h2:reaches ops ops.size j k=false:=by
         cases hr:reaches ops ops.size j k
         · rfl
         · have h3:=reaches_listed hc _ _ _ hr hdir
           rw [unl k hk] at h3;cases h3
       simp [freeOf,h1,h2,hne]
     have main:wpOp P ops (fun _ _ _=>False) j (fun a' w'=>(∀ k∈l,k≠j→S k w')∧runT P ops T S Q (l.erase j) a' w') a w:=by
       cases hjT:T.contains j
       · obtain ⟨v,hy,hr⟩:=runT_pull hre hoj hjT hsel l a w hp (fun i hi=>((hl i).1 hi).1) hjl hap h (hS j hjl)
         exact hy.wpOp hoj (hS j hjl) ⟨fun k hk _=>hS k hk,hr⟩
       · exact runT_pullT hoj hsel l a w hp hjl (fun i hi hlt=>⟨hTT i hi hlt hjT,hap i hi hlt⟩) h (hS j hjl) l hfree hS
     refine wpOp_mono (fun a' w' ⟨hS',hr'⟩=>?_) (wpOp_weaken main)
     have hnd:=hp.imp (fun h=>Nat.ne_of_lt h)
     refine ih (l.erase j) (by rw [List.length_erase_of_mem hjl];omega) (listed.setIfInBounds j true) a' w' (by simpa using hsz) ?_ (hp.sublist (List.erase_sublist ..)) ?_ hr' ?_
     · intro k o hk hlk e he hb
       by_cases hkj:j=k
       · subst hkj
         rw [hoj] at hk
         cases hk
         exact getD_set_true (hall' e he hb)
       · rw [getD_set_ne false hkj] at hlk
         exact getD_set_true (hc k o hk hlk e he hb)
     · intro k
       rw [List.Nodup.mem_erase_iff hnd,hl k]
       by_cases hkj:j=k
       · subst hkj
         have hlt':j < listed.size:=by omega
         simp [hlt']
       · rw [getD_set_ne true hkj]
         constructor
         · rintro ⟨_,h⟩;exact h
         · intro h;exact ⟨Ne.symm hkj,h⟩
     · intro k hk
       have hx:=(List.Nodup.mem_erase_iff hnd).1 hk
       exact hS' k hx.2 hx.1
theorem wp_region_text {id:Nat} {a:Act} {w:World} {Q':Exit→Act→World→Prop} (T:List Nat) (S:Nat→World→Prop) (hm:P.follows .mixedOrders=true) (hok:textOk ops T=true) (hS:∀ k,k < ops.size→S k w.drew)
   (h:runT P ops T S (Q' .normal) (List.range ops.size) a w.drew):(Code.region id ops true).wp P Q' a w:=by
 refine wp_region_any hm ?_
 have:=all_orders hok (Q':=Q') (fun _ _ h=>h) (List.range ops.size) (Array.replicate ops.size false) a w.drew (by simp) ?_ List.pairwise_lt_range ?_ h (fun k hk=>hS k (by simpa using hk))
 · simpa using this
 · intro j o ho hl
   have hlt:j < ops.size:=by
     rcases Nat.lt_or_ge j ops.size with h | h
     · exact h
     · rw [Array.getElem?_eq_none h] at ho;cases ho
   simp [hlt] at hl
 · intro k
   simp only [List.mem_range]
   constructor
   · intro h;exact ⟨h,by simp [h]⟩
   · exact fun h=>h.1
def isT (o:Oper):Bool:=match o.op with
 | .call c=>match c.callee with
   | .builtin .len=>false
   | .builtin .cap=>false
   | _=>true
 | .store .. | .alloc .. | .box .. | .buildSlice .. | .mapUpdate .. | .makeMap .. | .makeSlice .. | .insert .. | .makeChan .. | .next .. | .range .. => true
 | .convert .. => false
 | _=>false
def tOps (ops:Array Oper):List Nat:=(List.range ops.size).filter fun i=>match ops[i]? with | some o=>isT o | none=>false
def runL (P:Program) (ops:Array Oper) (S:World→Prop) (Q:Act→World→Prop):List Oper→Act→World→Prop
 | [],a,w=>Q a w
 | o :: l,a,w =>
   (∃ v,YieldsIf P ops S o v a∧runL P ops S Q l (a.put o.dst v) w) ∨
    (isT o=true∧Region.wanted o (yielded ops a.tmps)=true∧TDoes P o a w fun v w'=>((l=[]∧lastOk ops=true)∨S w')∧runL P ops S Q l (a.put o.dst v) w')
theorem runT_of_L {S:World→Prop}:∀ (l:List Oper) (i:Nat) (a:Act) (w:World),i+l.length=ops.size→(∀ k,l[k]? = ops[i+k]?)→runL P ops S Q l a w→runT P ops (tOps ops) (fun _=>S) Q (List.range' i l.length) a w
 | [],i,a,w,_,_,h=>h
 | o :: l,i,a,w,hn,hk,h=>by
   have ho:ops[i]? = some o:=by have:=hk 0;simpa using this.symm
   have ih:=fun a w=>runT_of_L (S:=S) l (i+1) a w (by simp at hn;omega) (fun k=>by have:=hk (k+1);simpa [Nat.add_assoc,Nat.add_comm 1 k] using this)
   rw [List.length_cons,List.range'_succ]
   refine ⟨o,ho,?_⟩
   rcases h with ⟨v,hy,hr⟩ | ⟨hT,hw,hd⟩
   · exact .inl ⟨v,hy,ih _ _ hr⟩
   · refine .inr ⟨?_,hw,hd.mono fun v w' ⟨h1,h2⟩=>⟨fun k hk=>?_,ih _ _ h2⟩⟩
     rotate_left
     · rcases h1 with ⟨hl,hlo⟩ | h1
       · exfalso
         rw [hl] at hn
         simp only [List.length_cons,List.length_nil] at hn
         simp only [freeOf,Bool.and_eq_true,decide_eq_true_eq,Bool.not_eq_true',beq_eq_false_iff_ne] at hk
         simp only [lastOk,List.all_eq_true,List.mem_range] at hlo
         have:=hlo k (by omega)
         rw [show ops.size - 1=i from by omega,hk.2] at this
         cases this
       · exact h1
     simp only [tOps,List.contains_eq_mem,List.mem_filter,List.mem_range,decide_eq_true_eq]
     exact ⟨by simp at hn;omega,by rw [ho];exact hT⟩
theorem wp_region_lines {id:Nat} {a:Act} {w:World} {Q':Exit→Act→World→Prop} (S:World→Prop) (hm:P.follows .mixedOrders=true) (hok:textOk ops (tOps ops)=true) (hS:S w.drew)
   (h:runL P ops S (Q' .normal) ops.toList a w.drew):(Code.region id ops true).wp P Q' a w:=by
 refine wp_region_text (tOps ops) (fun _=>S) hm hok (fun _ _=>hS) ?_
 have:=runT_of_L (S:=S) ops.toList 0 a w.drew (by simp) (fun k=>by simp) h
 rw [List.range_eq_range']
 simpa using this
theorem runL_nil {S:World→Prop} {a:Act} {w:World} (h:Q a w):runL P ops S Q [] a w:=h
theorem runL_no {S:World→Prop} {o:Oper} {l:List Oper} {a:Act} {w:World} (hw:Region.wanted o (yielded ops a.tmps)=false) (h:runL P ops S Q l (a.put o.dst undef) w):runL P ops S Q (o :: l) a w :=
 .inl ⟨undef,.inr ⟨hw,rfl⟩,h⟩
theorem runL_val {S:World→Prop} {o:Oper} {l:List Oper} {a:Act} {w:World} {v:Value} (hw:Region.wanted o (yielded ops a.tmps)=true) (hv:∀ w,S w→(execOp a.eval o).run P w=.ok (.value v) w)
   (h:runL P ops S Q l (a.put o.dst v) w):runL P ops S Q (o :: l) a w :=
 .inl ⟨v,.inl ⟨hw,hv⟩,h⟩
theorem runL_call {S:World→Prop} {o:Oper} {l:List Oper} {a:Act} {w w1:World} {f:FuncId} {args:Array Value} (hT:isT o=true) (hw:Region.wanted o (yielded ops a.tmps)=true)
   (hr:(execOp a.eval o).run P w=.ok (.enter f args) w1)
   (h:Calls P f args w1 fun e w'=>∃ v,e=.returned v∧((l=[]∧lastOk ops=true)∨S w')∧runL P ops S Q l (a.put o.dst v) w'):runL P ops S Q (o :: l) a w:=by
 refine .inr ⟨hT,hw,?_⟩
 unfold TDoes
 rw [hr]
 exact h
theorem runL_op {S:World→Prop} {o:Oper} {l:List Oper} {a:Act} {w w1:World} {v:Value} (hT:isT o=true) (hw:Region.wanted o (yielded ops a.tmps)=true)
   (hr:(execOp a.eval o).run P w=.ok (.value v) w1) (hS:(l=[]∧lastOk ops=true)∨S w1) (h:runL P ops S Q l (a.put o.dst v) w1):runL P ops S Q (o :: l) a w:=by
 refine .inr ⟨hT,hw,?_⟩
 unfold TDoes
 rw [hr]
 exact ⟨hS,h⟩
theorem runL_skip {S:World→Prop} {o:Oper} {l:List Oper} {a:Act} {w w1:World} (hT:isT o=true) (hw:Region.wanted o (yielded ops a.tmps)=true)
   (hr:(execOp a.eval o).run P w=.ok .skip w1) (hS:(l=[]∧lastOk ops=true)∨S w1) (h:runL P ops S Q l (a.put o.dst undef) w1):runL P ops S Q (o :: l) a w:=by
 refine .inr ⟨hT,hw,?_⟩
 unfold TDoes
 rw [hr]
 exact ⟨hS,h⟩
def runK (P:Program) (ops:Array Oper) (S:Nat→World→Prop) (Q:Act→World→Prop):Nat→List Oper→Act→World→Prop
 | _,[],a,w=>Q a w
 | i,o :: l,a,w =>
   (∃ v,YieldsIf P ops (S i) o v a∧runK P ops S Q (i+1) l (a.put o.dst v) w) ∨
    (isT o=true∧Region.wanted o (yielded ops a.tmps)=true∧TDoes P o a w fun v w'=>(∀ k,freeOf ops i k=true→S k w')∧runK P ops S Q (i+1) l (a.put o.dst v) w')
theorem runT_of_K:∀ (l:List Oper) (i:Nat) (a:Act) (w:World),i+l.length=ops.size→(∀ k,l[k]? = ops[i+k]?)→runK P ops S Q i l a w→runT P ops (tOps ops) S Q (List.range' i l.length) a w
 | [],i,a,w,_,_,h=>h
 | o :: l,i,a,w,hn,hk,h=>by
   have ho:ops[i]? = some o:=by have:=hk 0;simpa using this.symm
   have ih:=fun a w=>runT_of_K l (i+1) a w (by simp at hn;omega) (fun k=>by have:=hk (k+1);simpa [Nat.add_assoc,Nat.add_comm 1 k] using this)
   rw [List.length_cons,List.range'_succ]
   refine ⟨o,ho,?_⟩
   rcases h with ⟨v,hy,hr⟩ | ⟨hT,hw,hd⟩
   · exact .inl ⟨v,hy,ih _ _ hr⟩
   · refine .inr ⟨?_,hw,hd.mono fun v w' ⟨h1,h2⟩=>⟨h1,ih _ _ h2⟩⟩
     simp only [tOps,List.contains_eq_mem,List.mem_filter,List.mem_range,decide_eq_true_eq]
     exact ⟨by simp at hn;omega,by rw [ho];exact hT⟩
theorem wp_region_stages {id:Nat} {a:Act} {w:World} {Q':Exit→Act→World→Prop} (S:Nat→World→Prop) (hm:P.follows .mixedOrders=true) (hok:textOk ops (tOps ops)=true) (hS:∀ k,S k w.drew)
   (h:runK P ops S (Q' .normal) 0 ops.toList a w.drew):(Code.region id ops true).wp P Q' a w:=by
 refine wp_region_text (tOps ops) S hm hok (fun k _=>hS k) ?_
 have:=runT_of_K ops.toList 0 a w.drew (by simp) (fun k=>by simp) h
 rw [List.range_eq_range']
 simpa using this
theorem runK_nil {i:Nat} {a:Act} {w:World} (h:Q a w):runK P ops S Q i [] a w:=h
theorem runK_no {i:Nat} {o:Oper} {l:List Oper} {a:Act} {w:World} (hw:Region.wanted o (yielded ops a.tmps)=false) (h:runK P ops S Q (i+1) l (a.put o.dst undef) w):runK P ops S Q i (o :: l) a w :=
 .inl ⟨undef,.inr ⟨hw,rfl⟩,h⟩
theorem runK_val {i:Nat} {o:Oper} {l:List Oper} {a:Act} {w:World} {v:Value} (hw:Region.wanted o (yielded ops a.tmps)=true) (hv:∀ w,S i w→(execOp a.eval o).run P w=.ok (.value v) w)
   (h:runK P ops S Q (i+1) l (a.put o.dst v) w):runK P ops S Q i (o :: l) a w :=
 .inl ⟨v,.inl ⟨hw,hv⟩,h⟩
theorem runK_call {i:Nat} {o:Oper} {l:List Oper} {a:Act} {w w1:World} {f:FuncId} {args:Array Value} (hT:isT o=true) (hw:Region.wanted o (yielded ops a.tmps)=true)
   (hr:(execOp a.eval o).run P w=.ok (.enter f args) w1)
   (h:Calls P f args w1 fun e w'=>∃ v,e=.returned v∧(∀ k,freeOf ops i k=true→S k w')∧runK P ops S Q (i+1) l (a.put o.dst v) w'):runK P ops S Q i (o :: l) a w:=by
 refine .inr ⟨hT,hw,?_⟩
 unfold TDoes
 rw [hr]
 exact h
theorem runK_skip {i:Nat} {o:Oper} {l:List Oper} {a:Act} {w w1:World} (hT:isT o=true) (hw:Region.wanted o (yielded ops a.tmps)=true)
   (hr:(execOp a.eval o).run P w=.ok .skip w1) (hS:∀ k,freeOf ops i k=true→S k w1) (h:runK P ops S Q (i+1) l (a.put o.dst undef) w1):runK P ops S Q i (o :: l) a w:=by
 refine .inr ⟨hT,hw,?_⟩
 unfold TDoes
 rw [hr]
 exact ⟨hS,h⟩
theorem free_crit {i:Nat} {C:Nat→Bool} (h:((List.range ops.size).all fun k=>!freeOf ops i k || !C k)=true):∀ k,freeOf ops i k=true→C k=true→False:=by
 intro k hk hc
 have hks:k < ops.size:=by simp only [freeOf,Bool.and_eq_true,decide_eq_true_eq] at hk;exact hk.1.1
 have:=(List.all_eq_true.1 h) k (List.mem_range.2 hks)
 rw [hk,hc] at this
 cases this
end
end Go.Proofs.YtppoiahhaclleaaDoor
namespace Go.Proofs.YtppoiahhaclleaaDoor
open Go.RowKit
theorem Lh{p:Prop}(h:p):Hid p:=Lib.hid h
theorem ret_int {k:IntKind} {a b:Int} (h:a=b):Ending.returned (.int k a)=.returned (.int k b):=by rw [h]
theorem ret_bool {a b:Bool} (h:a=b):Ending.returned (.bool a)=.returned (.bool b):=by rw [h]
theorem bcell {W w:World} (h:Below W.heap.size W w):∀ b o,b < W.heap.size→w.cell? ⟨b,o,none⟩=W.cell? ⟨b,o,none⟩:=fun _ _ hb=>h.cell hb
theorem boxed (w:World) (cs:Array Value) (t:Nat):∃ W,W=w.alloc (.cells cs t)∧Below w.heap.size w W∧W.heap.size=w.heap.size+1∧(∀ i,W.cell? ⟨w.heap.size,i,none⟩=cs[i]?)∧(∀ b o,b < w.heap.size→W.cell? ⟨b,o,none⟩=w.cell? ⟨b,o,none⟩) :=
 ⟨_,rfl,(Below.refl _ _).alloc (Nat.le_refl _) _,by simp,fun i=>by rw [World.cell?_alloc_at _ _ _ _ rfl],fun b o h=>((Below.refl w.heap.size w).alloc (Nat.le_refl _) _).cell h⟩
def SameOn (F:Nat→Prop) (w w':World):Prop:=∀ k,F k→w'.heap[k]? = w.heap[k]?
theorem SameOn.refl (F:Nat→Prop) (w:World):SameOn F w w:=fun _ _=>rfl
theorem SameOn.trans {F:Nat→Prop} {a b c:World} (h:SameOn F a b) (h':SameOn F b c):SameOn F a c:=fun k hk=>(h' k hk).trans (h k hk)
theorem SameOn.mono {F G:Nat→Prop} {a b:World} (h:SameOn F a b) (hg:∀ k,G k→F k):SameOn G a b:=fun k hk=>h k (hg k hk)
theorem SameOn.of_below {F:Nat→Prop} {B:Nat} {a b:World} (h:Below B a b) (hF:∀ k,F k→k < B):SameOn F a b:=fun k hk=>h.block k (hF k hk)
def Rows (w:World) (F:Nat→Prop) (sz:Nat) (v:Value) (rows:List (List Value)):Prop :=
 ∃ A c,v=.slice A rows.length c∧rows.length≤c∧(∀ r∈rows,r.length=sz) ∧
   (rows≠[]→∃ b off,A=some ⟨b,off,none⟩∧F b∧∀ (i j:Nat) (r:List Value) (u:Value),rows[i]? = some r→r[j]? = some u→w.cell? ⟨b,off+i*sz+j,none⟩=some u)
theorem Rows.keep {w w':World} {F:Nat→Prop} {sz:Nat} {v:Value} {rows:List (List Value)} (h:Rows w F sz v rows) (hk:SameOn F w w'):Rows w' F sz v rows:=by
 obtain ⟨A,c,hv,hc,hl,hh⟩:=h
 refine ⟨A,c,hv,hc,hl,fun hne=>?_⟩
 obtain ⟨b,off,hA,hb,hcell⟩:=hh hne
 exact ⟨b,off,hA,hb,fun i j r u hr hu=>(World.cell?_of_block (w:=w) (hk b hb)).trans (hcell i j r u hr hu)⟩
theorem Rows.mono {w:World} {F G:Nat→Prop} {sz:Nat} {v:Value} {rows:List (List Value)} (h:Rows w F sz v rows) (hk:∀ k,F k→G k):Rows w G sz v rows:=by
 obtain ⟨A,c,hv,hc,hl,hh⟩:=h
 refine ⟨A,c,hv,hc,hl,fun hne=>?_⟩
 obtain ⟨b,off,hA,hb,hcell⟩:=hh hne
 exact ⟨b,off,hA,hk _ hb,hcell⟩
def byteV (x:UInt8):Value:=.int .u8 x.toNat
def BytesAt (w:World) (F:Nat→Prop) (v:Value) (l:List UInt8):Prop:=Rows w F 1 v (l.map fun x=>[byteV x])
theorem BytesAt.keep {w w':World} {F:Nat→Prop} {v:Value} {l:List UInt8} (h:BytesAt w F v l) (hk:SameOn F w w'):BytesAt w' F v l:=Rows.keep h hk
theorem BytesAt.mono {w:World} {F G:Nat→Prop} {v:Value} {l:List UInt8} (h:BytesAt w F v l) (hk:∀ k,F k→G k):BytesAt w G v l:=Rows.mono h hk
structure Reg where
 base:Nat
 bytes:List UInt8
 write:Bool
structure Ent where
 key:Nat
 ad:Option Addr
 n:Nat
 c:Nat
 wr:Bool
def entRow (x:Ent):List Value:=[.int .u64 x.key,.slice x.ad x.n x.c,.bool x.wr]
structure EntSrc (w:World) (F:Nat→Prop) (r:Reg) (e:Ent):Prop where
 key:e.key=r.base
 n:e.n=r.bytes.length
 wr:e.wr=r.write
 bytes:BytesAt w F (.slice e.ad e.n e.c) r.bytes
 base64:r.base < 18446744073709551616
 len:r.bytes.length≤9223372036854775807
theorem EntSrc.keep {w w':World} {F:Nat→Prop} {r:Reg} {e:Ent} (h:EntSrc w F r e) (hk:SameOn F w w'):EntSrc w' F r e:=⟨h.key,h.n,h.wr,h.bytes.keep hk,h.base64,h.len⟩
theorem EntSrc.mono {w:World} {F G:Nat→Prop} {r:Reg} {e:Ent} (h:EntSrc w F r e) (hk:∀ k,F k→G k):EntSrc w G r e:=⟨h.key,h.n,h.wr,h.bytes.mono hk,h.base64,h.len⟩
def RegsAt (w:World) (F:Nat→Prop) (v:Value) (l:List Reg):Prop :=
 ∃ P:List (Reg×Ent),P.map (·.1)=l∧Rows w F 3 v (P.map fun x=>entRow x.2)∧∀ x∈P,EntSrc w F x.1 x.2
theorem RegsAt.take {w:World} {F:Nat→Prop} {A:Option Addr} {n c:Nat} {l:List Reg} (h:RegsAt w F (.slice A n c) l) {k:Nat} (hk:k≤n):RegsAt w F (.slice A k c) (l.take k):=by
 obtain ⟨P,hP,⟨A1,c1,hv,hc1,hl,hne⟩,hs⟩:=h
 cases hv
 simp only [List.length_map] at hk hc1
 have hkl:(P.take k).length=k:=by simp;omega
 refine ⟨P.take k,by rw [←hP,List.map_take],⟨A,c,by simp [hk],by simp;omega,fun r hr=>hl r ?_,fun hne'=>?_⟩,fun x hx=>hs x (List.mem_of_mem_take hx)⟩
 · rw [List.map_take] at hr;exact List.mem_of_mem_take hr
 · obtain ⟨b,off,hA,hF,hc⟩:=hne (fun e=>hne' (by rw [List.map_take,e];simp))
   refine ⟨b,off,hA,hF,fun i j r u hr hu=>hc i j r u ?_ hu⟩
   rw [List.map_take,List.getElem?_take] at hr
   split at hr
   · exact hr
   · cases hr
theorem RegsAt.len {w:World} {F:Nat→Prop} {A:Option Addr} {n c:Nat} {l:List Reg} (h:RegsAt w F (.slice A n c) l):n=l.length∧n≤c:=by
 obtain ⟨P,hP,⟨A1,c1,hv,hc1,hl,hne⟩,hs⟩:=h
 cases hv
 rw [←hP]
 exact ⟨by simp,hc1⟩
theorem RegsAt.form {w:World} {F:Nat→Prop} {v:Value} {l:List Reg} (h:RegsAt w F v l):∃ A c,v=.slice A l.length c∧l.length≤c:=by
 obtain ⟨P,hP,⟨A1,c1,hv,hc1,hl,hne⟩,hs⟩:=h
 rw [←hP]
 exact ⟨A1,c1,by rw [hv];simp,by simpa using hc1⟩
theorem RegsAt.at_ {w:World} {F:Nat→Prop} {A:Option Addr} {n c:Nat} {l:List Reg} (h:RegsAt w F (.slice A n c) l) {k:Nat} {r:Reg} (hk:l[k]? = some r) :
   ∃ b off A' c',A=some ⟨b,off,none⟩∧F b∧w.cell? ⟨b,off+k*3,none⟩=some (.int .u64 r.base)∧w.cell? ⟨b,off+k*3+1,none⟩=some (.slice A' r.bytes.length c') ∧
     w.cell? ⟨b,off+k*3+2,none⟩=some (.bool r.write)∧BytesAt w F (.slice A' r.bytes.length c') r.bytes∧r.base < 18446744073709551616∧r.bytes.length≤9223372036854775807:=by
 obtain ⟨P,hP,⟨A1,c1,hv,hc1,hl,hne⟩,hs⟩:=h
 cases hv
 rw [←hP,List.getElem?_map] at hk
 cases hpk:P[k]? with
 | none=>rw [hpk] at hk;cases hk
 | some x =>
   rw [hpk] at hk
   cases hk
   have hx:=hs x (List.mem_of_getElem? hpk)
   have hr:(P.map fun x=>entRow x.2)[k]? = some (entRow x.2):=by rw [List.getElem?_map,hpk];rfl
   obtain ⟨b,off,hA,hF,hcell⟩:=hne (fun e=>by rw [e] at hr;cases hr)
   have hb:=hx.bytes
   have hn:=hx.n
   rw [hn] at hb
   refine ⟨b,off,x.2.ad,x.2.c,hA,hF,?_,?_,?_,hb,hx.base64,hx.len⟩
   · rw [←hx.key];exact hcell k 0 _ _ hr rfl
   · rw [←hn];exact hcell k 1 _ _ hr rfl
   · rw [←hx.wr];exact hcell k 2 _ _ hr rfl
theorem RegsAt.keep {w w':World} {F:Nat→Prop} {v:Value} {l:List Reg} (h:RegsAt w F v l) (hk:SameOn F w w'):RegsAt w' F v l:=by
 obtain ⟨P,hP,hr,hs⟩:=h
 exact ⟨P,hP,hr.keep hk,fun x hx=>(hs x hx).keep hk⟩
theorem RegsAt.mono {w:World} {F G:Nat→Prop} {v:Value} {l:List Reg} (h:RegsAt w F v l) (hk:∀ k,F k→G k):RegsAt w G v l:=by
 obtain ⟨P,hP,hr,hs⟩:=h
 exact ⟨P,hP,hr.mono hk,fun x hx=>(hs x hx).mono hk⟩
theorem RegsAt.below {w w':World} {F:Nat→Prop} {v:Value} {l:List Reg} {B:Nat} (h:RegsAt w F v l) (hb:Below B w w') (hF:∀ k,F k→k < B):RegsAt w' F v l:=h.keep (SameOn.of_below hb hF)
theorem Rows.flat {w:World} {F:Nat→Prop} {sz:Nat} {ad:Addr} {n c:Nat} {rows:List (List Value)} (h:Rows w F sz (.slice (some ad) n c) rows) (hsz:0 < sz) :
   rows.flatten.length=n*sz∧∀ (j:Nat) (u:Value),rows.flatten[j]? = some u→w.cell? (ad.add j)=some u:=by
 obtain ⟨A,c1,hv,hc,hl,hne⟩:=h
 cases hv
 have hlen:∀ rows:List (List Value),(∀ r∈rows,r.length=sz)→rows.flatten.length=rows.length*sz:=by
   intro rows
   induction rows with
   | nil=>intro _;simp
   | cons q qs ih=>intro hq;rw [List.flatten_cons,List.length_append,ih (fun r hr=>hq r (List.mem_cons_of_mem _ hr)),hq q (List.mem_cons_self ..),List.length_cons,Nat.succ_mul];omega
 refine ⟨hlen rows hl,fun j u hu=>?_⟩
 have hjl:j < rows.length*sz:=by
   rw [←hlen rows hl]
   rcases Nat.lt_or_ge j rows.flatten.length with h | h
   · exact h
   · rw [List.getElem?_eq_none h] at hu;cases hu
 obtain ⟨b,off,hA,_,hcell⟩:=hne (fun e=>by rw [e] at hjl;simp at hjl)
 cases hA
 have key:∀ (rows:List (List Value)) (j:Nat),(∀ r∈rows,r.length=sz)→rows.flatten[j]? = some u→∃ r,rows[j / sz]? = some r∧r[j % sz]? = some u:=by
   intro rows
   induction rows with
   | nil=>intro j _ h;simp at h
   | cons q qs ih =>
     intro j hq hj
     have hql:=hq q (List.mem_cons_self ..)
     rw [List.flatten_cons] at hj
     rcases Nat.lt_or_ge j sz with h | h
     · rw [List.getElem?_append_left (by omega)] at hj
       exact ⟨q,by rw [Nat.div_eq_of_lt h];rfl,by rw [Nat.mod_eq_of_lt h];exact hj⟩
     · rw [List.getElem?_append_right (by omega),hql] at hj
       obtain ⟨r,h1,h2⟩:=ih (j - sz) (fun r hr=>hq r (List.mem_cons_of_mem _ hr)) hj
       refine ⟨r,?_,?_⟩
       · rw [show j / sz=(j - sz) / sz+1 from by rw [Nat.div_eq_sub_div hsz h]]
         simpa using h1
       · rw [Nat.mod_eq_sub_mod h];exact h2
 obtain ⟨r,h1,h2⟩:=key rows j hl hu
 have:=hcell _ _ r u h1 h2
 have hdm:j / sz*sz+j % sz=j:=by rw [Nat.mul_comm];exact Nat.div_add_mod j sz
 rw [show off+j / sz*sz+j % sz=off+j from by omega] at this
 unfold Addr.add
 split
 · rename_i h0;subst h0;simpa using this
 · exact this
end Go.Proofs.YtppoiahhaclleaaDoor
namespace Go.Proofs.YtppoiahhaclleaaDoor
structure LOp where
 kind:Int
 d:Int
 e:Int
 a:Int
 b:Int
 c:Int
 buf:Int
 imm:Nat
structure Bf where
 size:Int
 kind:Int
 secret:Bool
structure LP where
 regs:Int
 bufs:List Bf
 ops:List LOp
def endsStep (o:LOp) (i:Nat) (s:List Int×List Nat):List Int×List Nat :=
 if o.kind=16 then (s.1,i :: s.2)
 else if o.kind=17 then match s.2 with
   | []=>s
   | k :: l=>((s.1.set i (k:Nat)).set k (i:Nat),l)
 else s
def endsTo (ops:List LOp) (k:Nat):List Int×List Nat :=
 match k with
 | 0=>(List.replicate ops.length (-1),[])
 | k+1=>match ops[k]? with
   | some o=>endsStep o k (endsTo ops k)
   | none=>endsTo ops k
def endsF (ops:List LOp):List Int:=(endsTo ops ops.length).1
def noteF (s:Int×Int) (i:Int):Int×Int:=(if s.1 < 0 then i else s.1,max s.2 i)
def noteR (sp:List (Int×Int)) (r i:Int):List (Int×Int):=if 0≤r then sp.modify r.toNat (fun s=>noteF s i) else sp
def regsOf (ops:List LOp) (ends:List Int) (o:LOp) (i:Nat):List Int :=
 [o.a,o.b,o.c,o.d,o.e]++if o.kind=17 then [((ops[(ends.getD i 0).toNat]?).map (·.d)).getD (-1)] else []
def noteOp (ops:List LOp) (ends:List Int) (sp:List (Int×Int)) (o:LOp) (i:Nat):List (Int×Int):=(regsOf ops ends o i).foldl (fun sp r=>noteR sp r i) sp
def notesTo (p:LP) (ends:List Int):Nat→List (Int×Int)
 | 0=>List.replicate p.regs.toNat (-1,-1)
 | k+1=>match p.ops[k]? with
   | some o=>noteOp p.ops ends (notesTo p ends k) o k
   | none=>notesTo p ends k
def lasts (i e:Int) (s:Int×Int):Bool:=decide (0≤s.1) && (decide (s.1 < i) && (decide (i≤s.2) && decide (s.2 < e)))
def lastF (i e:Int) (s:Int×Int):Int×Int:=if lasts i e s then (s.1,e) else s
def passTo (ops:List LOp) (ends:List Int) (sp:List (Int×Int)):Nat→List (Int×Int)×Bool
 | 0=>(sp,false)
 | k+1=>let q:=passTo ops ends sp k
   match ops[k]? with
   | some o=>if o.kind=16 then (q.1.map (lastF k (ends.getD k 0)),q.2 || q.1.any (lasts k (ends.getD k 0))) else q
   | none=>q
def passF (ops:List LOp) (ends:List Int) (sp:List (Int×Int)):List (Int×Int)×Bool:=passTo ops ends sp ops.length
def moreF (ops:List LOp) (ends:List Int):Nat→List (Int×Int)→List (Int×Int)
 | 0,sp=>sp
 | n+1,sp=>let q:=passF ops ends sp
   if q.2 then moreF ops ends n q.1 else q.1
def leftF (n:Nat) (sp:List (Int×Int)):Nat:=(sp.map fun s=>((n:Int) - s.2).toNat).sum
def spansF (p:LP):List (Int×Int) :=
 let sp:=notesTo p (endsF p.ops) p.ops.length
 moreF p.ops (endsF p.ops) (leftF p.ops.length sp+1) sp
theorem pass_len (ops:List LOp) (ends:List Int) (sp:List (Int×Int)) (k:Nat):(passTo ops ends sp k).1.length=sp.length:=by
 induction k with
 | zero=>rfl
 | succ k ih =>
   simp only [passTo]
   split
   · split
     · simp [ih]
     · exact ih
   · exact ih
theorem last_same {i e:Int} {s:Int×Int} (h:lasts i e s=false):lastF i e s=s:=by unfold lastF;rw [h];rfl
theorem map_last_same {i e:Int} {sp:List (Int×Int)} (h:sp.any (lasts i e)=false):sp.map (lastF i e)=sp:=by
 refine List.ext_getElem? fun j=>?_
 rw [List.getElem?_map]
 cases hj:sp[j]? with
 | none=>rfl
 | some s =>
   rw [List.any_eq_false] at h
   have:=h s (List.mem_of_getElem? hj)
   simp only [Option.map_some,last_same (by simpa using this)]
theorem pass_still {ops:List LOp} {ends:List Int} {sp:List (Int×Int)} {k:Nat} (h:(passTo ops ends sp k).2=false) :
   (passTo ops ends sp k).1=sp∧∀ (i:Nat) (o:LOp),i < k→ops[i]? = some o→o.kind=16→sp.any (lasts i (ends.getD i 0))=false:=by
 induction k with
 | zero=>exact ⟨rfl,fun i o hi=>absurd hi (by omega)⟩
 | succ k ih =>
   simp only [passTo] at h ⊢
   cases ho:ops[k]? with
   | none =>
     rw [ho] at h
     obtain ⟨h1,h2⟩:=ih h
     refine ⟨h1,fun i o hi hio hk=>?_⟩
     by_cases e:i=k
     · subst e;rw [ho] at hio;cases hio
     · exact h2 i o (by omega) hio hk
   | some q =>
     rw [ho] at h
     simp only at h ⊢
     by_cases hk:q.kind=16
     · rw [if_pos hk] at h ⊢
       simp only [Bool.or_eq_false_iff] at h
       obtain ⟨h1,h2⟩:=ih h.1
       rw [h1] at h
       refine ⟨by simp only [h1];exact map_last_same h.2,fun i o hi hio hk'=>?_⟩
       by_cases e:i=k
       · subst e;exact h.2
       · exact h2 i o (by omega) hio hk'
     · rw [if_neg hk] at h ⊢
       obtain ⟨h1,h2⟩:=ih h
       refine ⟨h1,fun i o hi hio hk'=>?_⟩
       by_cases e:i=k
       · subst e;rw [ho] at hio;cases hio;exact absurd hk' hk
       · exact h2 i o (by omega) hio hk'
theorem pass_keeps {ops:List LOp} {ends:List Int} (I:Nat→Int×Int→Prop) (hI:∀ (r k:Nat) (o:LOp) (s:Int×Int),ops[k]? = some o→o.kind=16→lasts k (ends.getD k 0) s=true→I r s→I r (s.1,ends.getD k 0))
   {sp:List (Int×Int)} (h:∀ r s,sp[r]? = some s→I r s) (k:Nat):∀ r s,(passTo ops ends sp k).1[r]? = some s→I r s:=by
 induction k with
 | zero=>exact h
 | succ k ih =>
   intro r s hs
   simp only [passTo] at hs
   cases ho:ops[k]? with
   | none=>rw [ho] at hs;exact ih r s hs
   | some q =>
     rw [ho] at hs
     simp only at hs
     by_cases hk:q.kind=16
     · rw [if_pos hk] at hs
       simp only [List.getElem?_map] at hs
       cases hj:(passTo ops ends sp k).1[r]? with
       | none=>rw [hj] at hs;cases hs
       | some t =>
         rw [hj] at hs
         simp only [Option.map_some,Option.some.injEq] at hs
         subst hs
         unfold lastF
         split
         · exact hI r k q t ho hk ‹_› (ih r t hj)
         · exact ih r t hj
     · rw [if_neg hk] at hs;exact ih r s hs
theorem more_keeps {ops:List LOp} {ends:List Int} (I:Nat→Int×Int→Prop) (hI:∀ (r k:Nat) (o:LOp) (s:Int×Int),ops[k]? = some o→o.kind=16→lasts k (ends.getD k 0) s=true→I r s→I r (s.1,ends.getD k 0))
   (n:Nat):∀ {sp:List (Int×Int)},(∀ r s,sp[r]? = some s→I r s)→∀ r s,(moreF ops ends n sp)[r]? = some s→I r s:=by
 induction n with
 | zero=>exact fun h=>h
 | succ n ih =>
   intro sp h
   have h1:=pass_keeps I hI h ops.length
   simp only [moreF]
   split
   · exact ih h1
   · exact h1
theorem more_len (ops:List LOp) (ends:List Int) (n:Nat):∀ sp:List (Int×Int),(moreF ops ends n sp).length=sp.length:=by
 induction n with
 | zero=>exact fun _=>rfl
 | succ n ih =>
   intro sp
   simp only [moreF]
   split
   · rw [ih];exact pass_len _ _ _ _
   · exact pass_len _ _ _ _
theorem left_le {n:Nat} {f:Int×Int→Int×Int} (hf:∀ s,(f s).2 ≥ s.2):∀ sp:List (Int×Int),leftF n (sp.map f)≤leftF n sp:=by
 intro sp
 induction sp with
 | nil=>exact Nat.le_refl _
 | cons s sp ih =>
   have:=hf s
   unfold leftF at ih ⊢
   simp only [List.map_cons,List.sum_cons]
   omega
theorem last_ge (i e:Int) (s:Int×Int):(lastF i e s).2 ≥ s.2:=by
 unfold lastF lasts
 split
 · rename_i h
   simp only [Bool.and_eq_true,decide_eq_true_eq] at h
   omega
 · omega
theorem left_lt {n:Nat} {i e:Int} (he:e≤n):∀ sp:List (Int×Int),sp.any (lasts i e)=true→leftF n (sp.map (lastF i e)) < leftF n sp:=by
 intro sp
 induction sp with
 | nil=>intro h;simp at h
 | cons s sp ih =>
   intro h
   rw [List.any_cons] at h
   have h1:leftF n ((s :: sp).map (lastF i e))=(n - (lastF i e s).2).toNat+leftF n (sp.map (lastF i e)):=by unfold leftF;simp
   have h2:leftF n (s :: sp)=(n - s.2).toNat+leftF n sp:=by unfold leftF;simp
   have h3:=left_le (n:=n) (last_ge i e) sp
   rw [h1,h2]
   cases hs:lasts i e s
   · rw [hs,Bool.false_or] at h
     have:=ih h
     rw [last_same hs]
     omega
   · have hs':=hs
     unfold lasts at hs'
     simp only [Bool.and_eq_true,decide_eq_true_eq] at hs'
     have:(lastF i e s).2=e:=by unfold lastF;rw [hs];rfl
     omega
theorem pass_left {ops:List LOp} {ends:List Int} {sp:List (Int×Int)} {n:Nat} (he:∀ (k:Nat) (o:LOp),ops[k]? = some o→o.kind=16→ends.getD k 0≤n) (k:Nat) :
   leftF n (passTo ops ends sp k).1≤leftF n sp∧((passTo ops ends sp k).2=true→leftF n (passTo ops ends sp k).1 < leftF n sp):=by
 induction k with
 | zero=>exact ⟨Nat.le_refl _,fun h=>by cases h⟩
 | succ k ih =>
   simp only [passTo]
   cases ho:ops[k]? with
   | none=>exact ih
   | some q =>
     simp only
     by_cases hk:q.kind=16
     · rw [if_pos hk]
       have h1:=left_le (n:=n) (last_ge k (ends.getD k 0)) (passTo ops ends sp k).1
       refine ⟨by simp only;omega,fun h=>?_⟩
       simp only [Bool.or_eq_true] at h ⊢
       rcases h with h | h
       · have:=ih.2 h;omega
       · have:=left_lt (he k q ho hk) _ h;omega
     · rw [if_neg hk];exact ih
theorem more_still {ops:List LOp} {ends:List Int} (he:∀ (k:Nat) (o:LOp),ops[k]? = some o→o.kind=16→ends.getD k 0≤ops.length) (n:Nat):∀ sp:List (Int×Int),leftF ops.length sp < n →
   ∀ (i:Nat) (o:LOp),ops[i]? = some o→o.kind=16→(moreF ops ends n sp).any (lasts i (ends.getD i 0))=false:=by
 induction n with
 | zero=>intro sp h;omega
 | succ n ih =>
   intro sp h
   simp only [moreF]
   split
   · rename_i hq
     have:=(pass_left he ops.length (sp:=sp)).2 hq
     exact ih _ (by unfold passF at *;omega)
   · rename_i hq
     have hq':(passTo ops ends sp ops.length).2=false:=by simpa [passF] using hq
     obtain ⟨h1,h2⟩:=pass_still hq'
     intro i o hi hk
     show (passTo ops ends sp ops.length).1.any _=false
     rw [h1]
     exact h2 i o (List.getElem?_eq_some_iff.1 hi).1 hi hk
end Go.Proofs.YtppoiahhaclleaaDoor
namespace Go.Proofs.YtppoiahhaclleaaDoor
structure Bal (ops:List LOp):Prop where
 some_:∀ (k:Nat) (o:LOp),ops[k]? = some o→o.kind=17→(endsTo ops k).2≠[]
 done:(endsTo ops ops.length).2=[]
structure EndsInv (ops:List LOp) (k:Nat) (s:List Int×List Nat):Prop where
 len:s.1.length=ops.length
 open_:∀ j∈s.2,j < k∧∃ o,ops[j]? = some o∧o.kind=16
 nd:s.2.Nodup
 loop:∀ (j:Nat) (o:LOp),j < k→ops[j]? = some o→o.kind=16→j∈s.2∨∃ i:Nat,j < i∧i < k∧s.1[j]? = some (i:Int)
 end_:∀ (j:Nat) (o:LOp),j < k→ops[j]? = some o→o.kind=17→∃ (m:Nat) (q:LOp),m < j∧s.1[j]? = some (m:Int)∧ops[m]? = some q∧q.kind=16
theorem ends_inv {ops:List LOp} (h:Bal ops) (k:Nat) (hk:k≤ops.length):EndsInv ops k (endsTo ops k):=by
 induction k with
 | zero=>exact ⟨by simp [endsTo],by simp [endsTo],by simp [endsTo],fun j o hj=>absurd hj (by omega),fun j o hj=>absurd hj (by omega)⟩
 | succ k ih =>
   have ih:=ih (by omega)
   obtain ⟨o,ho⟩:∃ o,ops[k]? = some o:=⟨_,List.getElem?_eq_getElem (by omega)⟩
   have he:endsTo ops (k+1)=endsStep o k (endsTo ops k):=by simp only [endsTo,ho]
   rw [he]
   have hs:=h.some_ k o ho
   generalize endsTo ops k=s at ih hs
   obtain ⟨E,st⟩:=s
   unfold endsStep
   by_cases h16:o.kind=16
   · rw [if_pos h16]
     refine ⟨ih.len,fun j hj=>?_,List.nodup_cons.2 ⟨fun hm=>absurd (ih.open_ k hm).1 (by omega),ih.nd⟩,fun j q hj hq hk'=>?_,fun j q hj hq hk'=>?_⟩
     · rcases List.mem_cons.1 hj with rfl | hj
       · exact ⟨by omega,o,ho,h16⟩
       · exact ⟨by have:=(ih.open_ j hj).1;omega,(ih.open_ j hj).2⟩
     · by_cases e:j=k
       · exact .inl (by rw [e];exact List.mem_cons_self)
       · rcases ih.loop j q (by omega) hq hk' with h1 | ⟨i,h1,h2,h3⟩
         · exact .inl (List.mem_cons_of_mem _ h1)
         · exact .inr ⟨i,h1,by omega,h3⟩
     · by_cases e:j=k
       · subst e;rw [ho] at hq;cases hq;omega
       · exact ih.end_ j q (by omega) hq hk'
   · rw [if_neg h16]
     by_cases h17:o.kind=17
     · rw [if_pos h17]
       cases st with
       | nil=>exact absurd rfl (hs h17)
       | cons m l =>
         simp only
         obtain ⟨hmk,q0,hq0,hk0⟩:=ih.open_ m List.mem_cons_self
         have hnd:=List.nodup_cons.1 ih.nd
         have hlen:=ih.len
         simp only at hlen
         have hget:∀ j,j≠k→j≠m→((E.set k (m:Int)).set m (k:Int))[j]? = E[j]?:=fun j h1 h2=>by
           rw [List.getElem?_set_ne (fun e=>h2 e.symm),List.getElem?_set_ne (fun e=>h1 e.symm)]
         have hgk:((E.set k (m:Int)).set m (k:Int))[k]? = some (m:Int):=by
           rw [List.getElem?_set_ne (by omega),List.getElem?_set_self (by omega)]
         have hgm:((E.set k (m:Int)).set m (k:Int))[m]? = some (k:Int):=by
           rw [List.getElem?_set_self (by simp;omega)]
         refine ⟨by simpa using hlen,fun j hj=>?_,hnd.2,fun j q hj hq hk'=>?_,fun j q hj hq hk'=>?_⟩
         · have:=ih.open_ j (List.mem_cons_of_mem _ hj)
           exact ⟨by omega,this.2⟩
         · by_cases e:j=k
           · subst e;rw [ho] at hq;cases hq;exact absurd hk' h16
           · by_cases e2:j=m
             · subst e2;exact .inr ⟨k,hmk,by omega,hgm⟩
             · rcases ih.loop j q (by omega) hq hk' with h1 | ⟨i,h1,h2,h3⟩
               · rcases List.mem_cons.1 h1 with h1 | h1
                 · exact absurd h1 e2
                 · exact .inl h1
               · exact .inr ⟨i,h1,by omega,by rw [hget j e e2];exact h3⟩
         · by_cases e:j=k
           · subst e;exact ⟨m,q0,hmk,hgk,hq0,hk0⟩
           · obtain ⟨m',q',h1,h2,h3,h4⟩:=ih.end_ j q (by omega) hq hk'
             have e2:j≠m:=fun e2=>by subst e2;rw [hq0] at hq;cases hq;omega
             exact ⟨m',q',h1,by rw [hget j e e2];exact h2,h3,h4⟩
     · rw [if_neg h17]
       refine ⟨ih.len,fun j hj=>⟨by have:=(ih.open_ j hj).1;omega,(ih.open_ j hj).2⟩,ih.nd,fun j q hj hq hk'=>?_,fun j q hj hq hk'=>?_⟩
       · by_cases e:j=k
         · subst e;rw [ho] at hq;cases hq;exact absurd hk' h16
         · rcases ih.loop j q (by omega) hq hk' with h1 | ⟨i,h1,h2,h3⟩
           · exact .inl h1
           · exact .inr ⟨i,h1,by omega,h3⟩
       · by_cases e:j=k
         · subst e;rw [ho] at hq;cases hq;exact absurd hk' h17
         · exact ih.end_ j q (by omega) hq hk'
theorem ends_loop {ops:List LOp} (h:Bal ops) {j:Nat} {o:LOp} (ho:ops[j]? = some o) (hk:o.kind=16):∃ i:Nat,j < i∧i < ops.length∧(endsF ops).getD j 0=i:=by
 have hj:=(List.getElem?_eq_some_iff.1 ho).1
 rcases (ends_inv h ops.length (Nat.le_refl _)).loop j o hj ho hk with h1 | ⟨i,h1,h2,h3⟩
 · rw [h.done] at h1;cases h1
 · exact ⟨i,h1,h2,by unfold endsF;rw [List.getD_eq_getElem?_getD,h3];rfl⟩
theorem ends_end {ops:List LOp} (h:Bal ops) {j:Nat} {o:LOp} (ho:ops[j]? = some o) (hk:o.kind=17):∃ (m:Nat) (q:LOp),m < j∧(endsF ops).getD j 0=m∧ops[m]? = some q∧q.kind=16:=by
 have hj:=(List.getElem?_eq_some_iff.1 ho).1
 obtain ⟨m,q,h1,h2,h3,h4⟩:=(ends_inv h ops.length (Nat.le_refl _)).end_ j o hj ho hk
 exact ⟨m,q,h1,by unfold endsF;rw [List.getD_eq_getElem?_getD,h2];rfl,h3,h4⟩
theorem ends_len {ops:List LOp} (h:Bal ops):(endsF ops).length=ops.length:=(ends_inv h ops.length (Nat.le_refl _)).len
theorem noteR_len (sp:List (Int×Int)) (r i:Int):(noteR sp r i).length=sp.length:=by unfold noteR;split <;> simp
theorem notes_fold_len (l:List Int) (i:Int):∀ sp:List (Int×Int),(l.foldl (fun sp r=>noteR sp r i) sp).length=sp.length:=by
 induction l with
 | nil=>exact fun _=>rfl
 | cons r l ih=>intro sp;rw [List.foldl_cons,ih,noteR_len]
theorem notes_len (p:LP) (ends:List Int) (k:Nat):(notesTo p ends k).length=p.regs.toNat:=by
 induction k with
 | zero=>simp [notesTo]
 | succ k ih =>
   simp only [notesTo]
   split
   · unfold noteOp;rw [notes_fold_len,ih]
   · exact ih
theorem spans_len (p:LP):(spansF p).length=p.regs.toNat:=by unfold spansF;rw [more_len,notes_len]
theorem noteR_get (sp:List (Int×Int)) (r i:Int) (j:Nat):(noteR sp r i)[j]? =(sp[j]?).map fun s=>if r=j then noteF s i else s:=by
 unfold noteR
 split
 · rw [List.getElem?_modify]
   by_cases e:r.toNat=j
   · have:r=j:=by omega
     cases sp[j]? <;> simp [this]
   · have:¬ r=j:=by omega
     cases sp[j]? <;> simp [this,e]
 · have:¬ r=j:=by omega
   simp [this]
theorem note_twice (s:Int×Int) (i:Int):noteF (noteF s i) i=noteF s i:=by
 unfold noteF
 simp only
 refine Prod.ext ?_ ?_
 · simp only
   by_cases h:s.1 < 0
   · rw [if_pos h];split <;> rfl
   · rw [if_neg h,if_neg h]
 · simp only;omega
theorem notes_fold_get (l:List Int) (i:Int) (j:Nat):∀ sp:List (Int×Int),(l.foldl (fun sp r=>noteR sp r i) sp)[j]? =(sp[j]?).map fun s=>if (j:Int)∈l then noteF s i else s:=by
 induction l with
 | nil=>intro sp;simp
 | cons r l ih =>
   intro sp
   rw [List.foldl_cons,ih,noteR_get]
   cases sp[j]? with
   | none=>rfl
   | some s =>
     simp only [Option.map_some,List.mem_cons]
     by_cases e:r=j
     · subst e
       simp only [if_pos,true_or]
       split
       · rw [note_twice]
       · rfl
     · have e':¬ (j:Int)=r:=fun h=>e h.symm
       simp [e,e']
structure NoteInv (p:LP) (ends:List Int) (k r:Nat) (s:Int×Int):Prop where
 none_:s.1 < 0→s=(-1,-1)∧∀ (i:Nat) (o:LOp),i < k→p.ops[i]? = some o→(r:Int) ∉ regsOf p.ops ends o i
 some_:0≤s.1→∃ (i:Nat) (o:LOp),s.1=i∧i < k∧p.ops[i]? = some o∧(r:Int)∈regsOf p.ops ends o i∧∀ (j:Nat) (q:LOp),j < i→p.ops[j]? = some q→(r:Int) ∉ regsOf p.ops ends q j
 last:∀ (i:Nat) (o:LOp),i < k→p.ops[i]? = some o→(r:Int)∈regsOf p.ops ends o i→(i:Int)≤s.2
 lt:s.2 < k
 le:0≤s.1→s.1≤s.2
theorem notes_inv (p:LP) (ends:List Int) (k:Nat) (hk:k≤p.ops.length):∀ (r:Nat) (s:Int×Int),(notesTo p ends k)[r]? = some s→NoteInv p ends k r s:=by
 induction k with
 | zero =>
   intro r s hs
   simp only [notesTo] at hs
   have:s=(-1,-1):=by
     have:=List.mem_of_getElem? hs
     exact (List.mem_replicate.1 this).2
   subst this
   exact ⟨fun _=>⟨rfl,fun i o hi=>absurd hi (by omega)⟩,fun h=>absurd h (by simp),fun i o hi=>absurd hi (by omega),by simp,fun h=>absurd h (by simp)⟩
 | succ k ih =>
   intro r s hs
   obtain ⟨o,ho⟩:∃ o,p.ops[k]? = some o:=⟨_,List.getElem?_eq_getElem (by omega)⟩
   simp only [notesTo,ho,noteOp] at hs
   rw [notes_fold_get] at hs
   cases ht:(notesTo p ends k)[r]? with
   | none=>rw [ht] at hs;cases hs
   | some t =>
     rw [ht] at hs
     simp only [Option.map_some,Option.some.injEq] at hs
     have hi:=ih (by omega) r t ht
     by_cases hm:(r:Int)∈regsOf p.ops ends o k
     · rw [if_pos hm] at hs
       subst hs
       by_cases h0:t.1 < 0
       · obtain ⟨h1,h2⟩:=hi.none_ h0
         subst h1
         have e:noteF (-1,-1) (k:Int)=((k:Int),(k:Int)):=by unfold noteF;simp;omega
         rw [e]
         refine ⟨fun h=>absurd h (by simp),fun _=>⟨k,o,rfl,by omega,ho,hm,fun j q hj hq=>h2 j q hj hq⟩,fun i q hi' _ _=>by simp only;omega,by simp only;omega,fun _=>Int.le_refl _⟩
       · have h0':0≤t.1:=by omega
         have e:noteF t (k:Int)=(t.1,max t.2 k):=by unfold noteF;rw [if_neg h0]
         rw [e]
         obtain ⟨i,q,h1,h2,h3,h4,h5⟩:=hi.some_ h0'
         refine ⟨fun h=>absurd h (by simp only;omega),fun _=>⟨i,q,h1,by omega,h3,h4,h5⟩,fun j q' hj hq' hm'=>?_,?_,fun _=>?_⟩
         · by_cases e:j=k
           · subst e;simp only;omega
           · have:=hi.last j q' (by omega) hq' hm';simp only;omega
         · have:=hi.lt;simp only;omega
         · have:=hi.le h0';simp only;omega
     · rw [if_neg hm] at hs
       subst hs
       refine ⟨fun h=>⟨(hi.none_ h).1,fun i q hi' hq=>?_⟩,fun h=>?_,fun i q hi' hq hm'=>?_,by have:=hi.lt;omega,hi.le⟩
       · by_cases e:i=k
         · subst e;rw [ho] at hq;cases hq;exact hm
         · exact (hi.none_ h).2 i q (by omega) hq
       · obtain ⟨i,q,h1,h2,h3⟩:=hi.some_ h
         exact ⟨i,q,h1,by omega,h3⟩
       · by_cases e:i=k
         · subst e;rw [ho] at hq;cases hq;exact absurd hm' hm
         · exact hi.last i q (by omega) hq hm'
def hasF (o:LOp) (r:Int):Bool:=o.d == r || o.e == r || o.a == r || o.b == r || o.c == r
theorem has_iff (o:LOp) (r:Int):hasF o r=true↔r∈[o.a,o.b,o.c,o.d,o.e]:=by
 unfold hasF
 simp only [Bool.or_eq_true,beq_iff_eq,List.mem_cons,List.not_mem_nil,or_false]
 constructor
 · rintro ((((h | h) | h) | h) | h) <;> simp [h]
 · rintro (h | h | h | h | h) <;> simp [h]
structure SpanIs (p:LP) (r:Nat) (s:Int×Int):Prop where
 none_:s.1 < 0→s.1 = -1∧s.2 < 0∧∀ (i:Nat) (o:LOp),p.ops[i]? = some o→hasF o r=false
 some_:0≤s.1→0≤s.2∧∃ (i:Nat) (o:LOp),s.1=i∧p.ops[i]? = some o∧hasF o r=true∧∀ (j:Nat) (q:LOp),j < i→p.ops[j]? = some q→hasF q r=false
 last:∀ (i:Nat) (o:LOp),p.ops[i]? = some o→hasF o r=true→(i:Int)≤s.2
 lt:s.2 < p.ops.length
 lasts:∀ (i:Nat) (o:LOp),p.ops[i]? = some o→o.kind=16→0≤s.1→s.1 < i→(i:Int)≤s.2→(endsF p.ops).getD i 0≤s.2
theorem span_is {p:LP} (hb:Bal p.ops) {r:Nat} {s:Int×Int} (hs:(spansF p)[r]? = some s):SpanIs p r s:=by
 have hmem:s∈spansF p:=List.mem_of_getElem? hs
 have hstill:=more_still (ends:=endsF p.ops) (fun k o ho hk=>by obtain ⟨i,_,h1,h2⟩:=ends_loop hb ho hk;rw [h2];omega) (leftF p.ops.length (notesTo p (endsF p.ops) p.ops.length)+1) _ (Nat.lt_succ_self _)
 let I:Nat→Int×Int→Prop:=fun r s=>∃ t,NoteInv p (endsF p.ops) p.ops.length r t∧s.1=t.1∧t.2≤s.2∧s.2 < p.ops.length∧(s.1 < 0→s.2=t.2)
 have hI:I r s:=more_keeps I (fun r k o s ho hk hl ⟨t,h1,h2,h3,h4,h5⟩=>by
   unfold Go.Proofs.YtppoiahhaclleaaDoor.lasts at hl
   simp only [Bool.and_eq_true,decide_eq_true_eq] at hl
   obtain ⟨i,_,h6,h7⟩:=ends_loop hb ho hk
   refine ⟨t,h1,h2,?_,?_,fun h=>?_⟩
   · simp only;omega
   · simp only;rw [h7];omega
   · simp only at h;omega) _ (fun r s hs=>⟨s,notes_inv p _ _ (Nat.le_refl _) r s hs,rfl,Int.le_refl _,(notes_inv p _ _ (Nat.le_refl _) r s hs).lt,fun _=>rfl⟩) r s hs
 obtain ⟨t,hn,h1,h2,h3,h4⟩:=hI
 have hdir:∀ (i:Nat) (o:LOp),hasF o r=true→(r:Int)∈regsOf p.ops (endsF p.ops) o i:=fun i o h=>by
   unfold regsOf
   exact List.mem_append_left _ ((has_iff o r).1 h)
 refine ⟨fun h=>?_,fun h=>?_,fun i o ho hh=>?_,h3,fun i o ho hk ha hb' hc=>?_⟩
 · have ht:t.1 < 0:=by omega
   obtain ⟨h5,h6⟩:=hn.none_ ht
   have h7:=h4 h
   rw [h5] at h1 h7
   refine ⟨h1,by rw [h7];decide,fun i o ho=>?_⟩
   cases hh:hasF o r
   · rfl
   · exact absurd (hdir i o hh) (h6 i o (List.getElem?_eq_some_iff.1 ho).1 ho)
 · have ht:0≤t.1:=by omega
   obtain ⟨i,o,h5,h6,h7,h8,h9⟩:=hn.some_ ht
   refine ⟨by have:=hn.le ht;omega,i,o,by omega,h7,?_,fun j q hj hq=>?_⟩
   · unfold regsOf at h8
     rcases List.mem_append.1 h8 with h8 | h8
     · exact (has_iff o r).2 h8
     · split at h8
       · rename_i h17
         obtain ⟨m,q,hm,he,hq,hk⟩:=ends_end hb h7 h17
         rw [he] at h8
         simp only [Int.toNat_natCast,hq,Option.map_some,Option.getD_some,List.mem_singleton] at h8
         have:=h9 m q hm hq
         exact absurd (hdir m q ((has_iff q r).2 (by rw [h8];simp))) this
       · cases h8
   · cases hh:hasF q r
     · rfl
     · exact absurd (hdir j q hh) (h9 j q hj hq)
 · have:=hn.last i o (List.getElem?_eq_some_iff.1 ho).1 ho (hdir i o hh)
   omega
 · have h5:=hstill i o ho hk
   rw [List.any_eq_false] at h5
   have h6:=h5 s hmem
   unfold Go.Proofs.YtppoiahhaclleaaDoor.lasts at h6
   simp only [Bool.and_eq_true,decide_eq_true_eq] at h6
   omega
end Go.Proofs.YtppoiahhaclleaaDoor
