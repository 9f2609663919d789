/- Part 1 of a claim; what it proves stands in its last text. -/
import Derived.OrdersHeld
import Derived.WalkKit
import Derived.Lib.Hide
import Derived.Deep.QuietTactic
import Derived.BigQuiet
import Derived.Deep.RegionHeld3
import Derived.Deep.AppendLies
import Derived.WalkSpells
import Derived.Test.YtjbabpnepjhllaaGreatRows
import Derived.Deep.WholeRow
import Derived.Deep.MidRow
import Derived.Maps.AppendAt
import Derived.Tactics
namespace Go.Proofs.YtjbabpnepjhllaaGreat
open Go
def TDoes (P:Program) (o:Oper) (a:Act) (w:World) (K:Value→World→Prop):Prop :=
 match (execOp a.eval o).run P w with
 | .ok (.value v) w'=>K v w'
 | .ok .skip w'=>K undef w'
 | .ok (.enter f args) w'=>Calls P f args w' fun e w''=>∃ v,e=.returned v∧K v w''
 | .ok (.row r args) w'=>Rows P r args w' K
 | _=>False
theorem TDoes.mono {P:Program} {o:Oper} {a:Act} {w:World} {K K':Value→World→Prop} (h:TDoes P o a w K) (hk:∀ v w',K v w'→K' v w'):TDoes P o a w K':=by
 unfold TDoes at *
 generalize (execOp a.eval o).run P w=r at *
 cases r with
 | ok n w' =>
   cases n <;> simp only at h ⊢
   case value v=>exact hk _ _ h
   case skip=>exact hk _ _ h
   case enter f args=>exact h.mono fun e w'' ⟨v,hv,h'⟩=>⟨v,hv,hk _ _ h'⟩
   case row row args=>exact h.mono fun v w'' h'=>hk _ _ h'
 | halt x w'=>exact h
theorem TDoes.some {P:Program} {o:Oper} {a:Act} {w:World} {K:Value→World→Prop} (h:TDoes P o a w K):∃ v w',K v w':=by
 unfold TDoes at *
 generalize (execOp a.eval o).run P w=r at *
 cases r with
 | ok n w' =>
   cases n <;> simp only at h
   case value v=>exact ⟨_,_,h⟩
   case skip=>exact ⟨_,_,h⟩
   case enter f args=>obtain ⟨e,w1,fr,⟨v,_,hk⟩,_⟩:=h [];exact ⟨_,_,hk⟩
   case row row args=>obtain ⟨v,w1,hk,_⟩:=h (Frame.enter P 0 #[] .normal) [];exact ⟨_,_,hk⟩
 | halt x w'=>exact h.elim
theorem TDoes.wp {P:Program} {o:Oper} {a:Act} {w:World} {K:Value→World→Prop} {K':Act→World→Prop} {Q:Exit→Act→World→Prop} (h:TDoes P o a w K) (hk:∀ v w',K v w'→K' (a.put o.dst v) w') :
   Oper.wp P o a w K' Q:=by
 unfold TDoes at h
 unfold Oper.wp
 generalize (execOp a.eval o).run P w=r at *
 cases r with
 | ok n w' =>
   cases n <;> simp only at h
   case value v=>exact hk _ _ h
   case skip=>exact hk _ _ h
   case enter f args=>exact Calls.mono h fun e w'' ⟨v,hv,h'⟩=>by subst hv;exact hk _ _ h'
   case row row args=>exact Rows.mono h fun v w'' h'=>hk _ _ h'
 | halt x w'=>exact h.elim
theorem TDoes.congr {P:Program} {o:Oper} {a a':Act} {w:World} {K:Value→World→Prop} (h:TDoes P o a w K) (he:execOp a'.eval o=execOp a.eval o):TDoes P o a' w K:=by
 unfold TDoes at *
 rw [he]
 exact h
def direct (ops:Array Oper) (j i:Nat):Bool:=match ops[j]? with
 | some o=>o.after.any fun e=>Region.binds .any e && e.on == i
 | none=>false
def reaches (ops:Array Oper):Nat→Nat→Nat→Bool
 | 0,_,_=>false
 | f+1,j,i=>direct ops j i || match ops[j]? with
   | some o=>o.after.any fun e=>Region.binds .any e && decide (i < e.on) && reaches ops f e.on i
   | none=>false
def lastOk (ops:Array Oper):Bool:=(List.range (ops.size - 1)).all fun i=>reaches ops ops.size (ops.size - 1) i
def freeOf (ops:Array Oper) (i k:Nat):Bool:=decide (k < ops.size) && !(k == i) && !reaches ops ops.size i k
def chainOk (ops:Array Oper):List Nat→Bool
 | x :: y :: r=>decide (x < y) && reaches ops ops.size y x && chainOk ops (y :: r)
 | _=>true
def pairOk (ops:Array Oper) (T:List Nat) (i j:Nat):Bool:=direct ops j i || (T.contains i && T.contains j) || match ops[i]?,ops[j]? with
 | some x,some y=>x.apart ops y
 | _,_=>false
def textOk (ops:Array Oper) (T:List Nat):Bool :=
 Region.noSelect ops && chainOk ops T && (List.range ops.size).all fun j=>(match ops[j]? with | some o=>o.after.all fun e=>!Region.binds .any e || decide (e.on < j) | none=>false) &&
   (List.range j).all fun i=>pairOk ops T i j
def runT (P:Program) (ops:Array Oper) (T:List Nat) (S:Nat→World→Prop) (Q:Act→World→Prop):List Nat→Act→World→Prop
 | [],a,w=>Q a w
 | i :: l,a,w=>∃ o,ops[i]? = some o ∧
   ((∃ v,YieldsIf P ops (S i) o v a∧runT P ops T S Q l (a.put o.dst v) w) ∨
    (T.contains i=true∧Region.wanted o (yielded ops a.tmps)=true∧TDoes P o a w fun v w'=>(∀ k,freeOf ops i k=true→S k w')∧runT P ops T S Q l (a.put o.dst v) w'))
section
variable {P:Program} {ops:Array Oper} {T:List Nat} {S:Nat→World→Prop} {Q:Act→World→Prop}
theorem YieldsIf.same {S:World→Prop} {o:Oper} {v u:Value} {a:Act} (h:YieldsIf P ops S o v a) (h':YieldsIf P ops S o u a) {w:World} (hS:S w):v=u:=by
 rcases h with ⟨h1,h2⟩ | ⟨h1,h2⟩ <;> rcases h' with ⟨h3,h4⟩ | ⟨h3,h4⟩
 · have:=(h2 w hS).symm.trans (h4 w hS);cases this;rfl
 · rw [h1] at h3;cases h3
 · rw [h1] at h3;cases h3
 · rw [h2,h4]
theorem runT_pull {j:Nat} {oj:Oper} (hre:∀ i k,reaches ops ops.size i k=true→k < i) (hj:ops[j]? = some oj) (hjT:T.contains j=false) (hns:∀ (j:Nat) (o:Oper) cs b,ops[j]? = some o→o.op≠.select cs b) :
   ∀ (l:List Nat) (a:Act) (w:World),l.Pairwise (· < ·)→(∀ i∈l,i < ops.size)→j∈l→(∀ i∈l,i < j→∀ oi,ops[i]? = some oi→oi.apart ops oj=true)→runT P ops T S Q l a w→S j w →
     ∃ v,YieldsIf P ops (S j) oj v a∧runT P ops T S Q (l.erase j) (a.put oj.dst v) w:=by
 intro l
 induction l with
 | nil=>intro a w _ _ h;cases h
 | cons i l ih =>
   intro a w hp hsz hjl hap h hS
   obtain ⟨oi,hoi,h⟩:=h
   by_cases hij:i=j
   · subst hij
     rw [hj] at hoi
     cases hoi
     rw [List.erase_cons_head]
     rcases h with ⟨v,hy,hr⟩ | ⟨hT,_⟩
     · exact ⟨v,hy,hr⟩
     · rw [hT] at hjT;cases hjT
   · have hjl' : j ∈ l := by rcases List.mem_cons.1 hjl with h | h
                             · exact absurd h.symm hij
                             · exact h
     have hlt:i < j:=(List.pairwise_cons.1 hp).1 j hjl'
     have hapij:=hap i (List.mem_cons_self ..) hlt oi hoi
     obtain ⟨h1,h2,h3⟩:=Oper.apart_spec hapij
     have hsel:∀ cs b,oj.op≠.select cs b:=fun cs b=>hns j oj cs b hj
     have hseli:∀ cs b,oi.op≠.select cs b:=fun cs b=>hns i oi cs b hoi
     have ih':=fun a w=>ih a w (List.pairwise_cons.1 hp).2 (fun k hk=>hsz k (List.mem_cons_of_mem _ hk)) hjl' (fun k hk=>hap k (List.mem_cons_of_mem _ hk))
     have back:∀ u v,YieldsIf P ops (S j) oj v (a.put oi.dst u)→YieldsIf P ops (S j) oj v a:=fun u v hy =>
       hy.of_same (execOp_put oj hsel a oi.dst u h1).symm (wanted_put oj a oi.dst u h1).symm
     have forth:∀ u v,YieldsIf P ops (S j) oj v a→YieldsIf P ops (S j) oj v (a.put oi.dst u):=fun u v hy =>
       hy.of_same (execOp_put oj hsel a oi.dst u h1) (wanted_put oj a oi.dst u h1)
     rw [List.erase_cons_tail (by simpa using hij)]
     rcases h with ⟨u,hy,hr⟩ | ⟨hT,hw,hd⟩
     · obtain ⟨v,hv,hr'⟩:=ih' _ w hr hS
       refine ⟨v,back u v hv,oi,hoi,.inl ⟨u,hy.of_same (execOp_put oi hseli a oj.dst v h3) (wanted_put oi a oj.dst v h3),?_⟩⟩
       rw [←Act.put_comm a u v h2]
       exact hr'
     · have hfr:freeOf ops i j=true:=by
         have h1:=hsz j hjl
         have h2:reaches ops ops.size i j=false:=by
           cases hr:reaches ops ops.size i j
           · rfl
           · have:=hre i j hr;omega
         simp [freeOf,h1,h2];omega
       obtain ⟨aA,w1,hS1,hr1⟩:=hd.some
       have hS1:S j w1:=hS1 j hfr
       obtain ⟨v,hv,_⟩:=ih' _ w1 hr1 hS1
       have hva:=back aA v hv
       refine ⟨v,hva,oi,hoi,.inr ⟨hT,by rw [wanted_put oi a oj.dst v h3];exact hw,?_⟩⟩
       refine (hd.congr (execOp_put oi hseli a oj.dst v h3)).mono fun u w' ⟨hS',hr'⟩=>⟨hS',?_⟩
       have hS'':S j w':=hS' j hfr
       obtain ⟨v',hv',hr''⟩:=ih' _ w' hr' hS''
       obtain rfl:=YieldsIf.same hva (back u v' hv') hS
       rw [←Act.put_comm a u v h2]
       exact hr''
theorem runT_pullT {j:Nat} {oj:Oper} (hj:ops[j]? = some oj) (hns:∀ (j:Nat) (o:Oper) cs b,ops[j]? = some o→o.op≠.select cs b) :
   ∀ (l:List Nat) (a:Act) (w:World),l.Pairwise (· < ·)→j∈l→(∀ i∈l,i < j→T.contains i=false∧∀ oi,ops[i]? = some oi→oi.apart ops oj=true)→runT P ops T S Q l a w→S j w→∀ L:List Nat,(∀ k∈L,k≠j→freeOf ops j k=true)→(∀ k∈L,S k w) →
     wpOp P ops (fun _ _ _=>False) j (fun a' w'=>(∀ k∈L,k≠j→S k w')∧runT P ops T S Q (l.erase j) a' w') a w:=by
 intro l
 induction l with
 | nil=>intro a w _ h;cases h
 | cons i l ih =>
   intro a w hp hjl hap h hS L hL hSL
   obtain ⟨oi,hoi,h⟩:=h
   by_cases hij:i=j
   · subst hij
     rw [hj] at hoi
     cases hoi
     rw [List.erase_cons_head]
     rcases h with ⟨v,hy,hr⟩ | ⟨hT,hw,hd⟩
     · exact hy.wpOp hj hS ⟨fun k hk _=>hSL k hk,hr⟩
     · unfold wpOp
       simp only [hj,hw,if_true]
       exact .inl (hd.wp fun v w' h=>⟨fun k hk hne=>h.1 k (hL k hk hne),h.2⟩)
   · have hjl' : j ∈ l := by rcases List.mem_cons.1 hjl with h | h
                             · exact absurd h.symm hij
                             · exact h
     have hlt:i < j:=(List.pairwise_cons.1 hp).1 j hjl'
     obtain ⟨hiT,hapij⟩:=hap i (List.mem_cons_self ..) hlt
     have hapij:=hapij oi hoi
     have hsel:∀ cs b,oj.op≠.select cs b:=fun cs b=>hns j oj cs b hj
     have hseli:∀ cs b,oi.op≠.select cs b:=fun cs b=>hns i oi cs b hoi
     rw [List.erase_cons_tail (by simpa using hij)]
     rcases h with ⟨u,hy,hr⟩ | ⟨hT,_⟩
     · have h1:=ih _ w (List.pairwise_cons.1 hp).2 hjl' (fun k hk=>hap k (List.mem_cons_of_mem _ hk)) hr hS L hL hSL
       have h2:=wpOp_putIf hj hapij hseli hsel (fun _ _ _ h=>h) hy h1
       exact wpOp_mono (fun a' w' ⟨hy',hS',hr'⟩=>⟨hS',oi,hoi,.inl ⟨u,hy',hr'⟩⟩) h2
     · rw [hT] at hiT;cases hiT
theorem wpOp_weaken {Q':Exit→Act→World→Prop} {j:Nat} {K:Act→World→Prop} {a:Act} {w:World} (h:wpOp P ops (fun _ _ _=>False) j K a w):wpOp P ops Q' j K a w:=by
 unfold wpOp at *
 split
 · rename_i hn;simpa [hn] using h
 · rename_i o ho
   simp only [ho] at h
   split
   · rename_i hw
     simp only [hw,if_true] at h
     rcases h with h | ⟨_,a0,w0,hf⟩
     · refine .inl ?_
       unfold Oper.wp at *
       generalize (execOp a.eval o).run P w=r at *
       cases r with
       | ok n w' =>
         cases n <;> simp only [Oper.upon] at h ⊢
         case value=>exact h
         case skip=>exact h
         case defer=>exact h
         case enter f args =>
           exact Calls.mono h fun e w'' he=>by
             cases e with
             | returned u=>exact he
             | panicked c=>exact he.elim
             | outgrown=>obtain ⟨_,_,h⟩:=he;exact h.elim
         case row=>exact h
       | halt x w'=>cases x <;> simp only [Oper.upon] at h
     · exact hf.elim
   · rename_i hw;simpa [hw] using h
def Closed (ops:Array Oper) (listed:Array Bool):Prop:=∀ j o,ops[j]? = some o→listed.getD j false=true→∀ e∈o.after,Region.binds .any e=true→listed.getD e.on false=true
theorem direct_iff {j i:Nat} {o:Oper} (ho:ops[j]? = some o):direct ops j i=true↔∃ e∈o.after,Region.binds .any e=true∧e.on=i:=by
 unfold direct
 simp only [ho,Array.any_eq_true',Bool.and_eq_true,beq_iff_eq]
theorem reaches_listed {listed:Array Bool} (hc:Closed ops listed):∀ (f j i:Nat),reaches ops f j i=true→(∀ k,direct ops j k=true→listed.getD k false=true)→listed.getD i false=true
 | 0,_,_,h,_=>by cases h
 | f+1,j,i,h,hd=>by
   simp only [reaches,Bool.or_eq_true] at h
   rcases h with h | h
   · exact hd i h
   · cases ho:ops[j]? with
     | none=>simp [ho] at h
     | some o =>
       simp only [ho,Array.any_eq_true',Bool.and_eq_true,decide_eq_true_eq] at h
       obtain ⟨e,he,⟨hb,_⟩,hr⟩:=h
       have hl:=hd e.on ((direct_iff ho).2 ⟨e,he,hb,rfl⟩)
       refine reaches_listed hc f e.on i hr fun k hk=>?_
       cases ho':ops[e.on]? with
       | none=>simp [direct,ho'] at hk
       | some o' =>
         obtain ⟨e',he',hb',rfl⟩:=(direct_iff ho').1 hk
         exact hc e.on o' ho' hl e' he' hb'
theorem chain_listed {listed:Array Bool} (hc:Closed ops listed):∀ (T:List Nat),chainOk ops T=true→∀ j∈T,(∀ i,direct ops j i=true→listed.getD i false=true)→∀ i∈T,i < j→listed.getD i false=true
 | [],_,j,hj=>by cases hj
 | [x],_,j,hj=>fun _ i hi hlt=>by simp at hj hi;omega
 | x :: y :: r,hch,j,hj=>fun hd i hi hlt=>by
   have sorted:∀ (l:List Nat) (x:Nat),chainOk ops (x :: l)=true→∀ z∈l,x < z:=by
     intro l
     induction l with
     | nil=>intro x _ z hz;cases hz
     | cons q l ihl =>
       intro x hx z hz
       simp only [chainOk,Bool.and_eq_true,decide_eq_true_eq] at hx
       rcases List.mem_cons.1 hz with rfl | hz
       · exact hx.1.1
       · have:=ihl q hx.2 z hz;omega
   have hall:=hch
   simp only [chainOk,Bool.and_eq_true,decide_eq_true_eq] at hch
   have ih:=chain_listed hc (y :: r) hch.2
   rcases List.mem_cons.1 hj with rfl | hj'
   · rcases List.mem_cons.1 hi with rfl | hi
     · omega
     · have:=sorted _ _ hall i hi;omega
   · rcases List.mem_cons.1 hi with rfl | hi
     · have hpre:∀ k,direct ops y k=true→listed.getD k false=true:=by
         rcases List.mem_cons.1 hj' with h | h
         · rw [←h];exact hd
         · have hy:=ih j hj' hd y (List.mem_cons_self ..) (sorted _ _ hch.2 j h)
           intro k hk
           cases ho:ops[y]? with
           | none=>simp [direct,ho] at hk
           | some o =>
             obtain ⟨e,he,hb,rfl⟩:=(direct_iff ho).1 hk
             exact hc y o ho hy e he hb
       exact reaches_listed hc _ _ _ hch.1.2 hpre
     · exact ih j hj' hd i hi hlt
theorem reaches_lt (hlt:∀ (j:Nat) (o:Oper),ops[j]? = some o→∀ e∈o.after,Region.binds .any e=true→e.on < j):∀ (f i k:Nat),reaches ops f i k=true→k < i
 | 0,_,_,h=>by cases h
 | f+1,i,k,h=>by
   simp only [reaches,Bool.or_eq_true] at h
   cases ho:ops[i]? with
   | none=>simp [ho,direct] at h
   | some o =>
     rcases h with h | h
     · obtain ⟨e,he,hb,rfl⟩:=(direct_iff ho).1 h
       exact hlt i o ho e he hb
     · simp only [ho,Array.any_eq_true',Bool.and_eq_true,decide_eq_true_eq] at h
       obtain ⟨e,he,⟨hb,hk⟩,_⟩:=h
       have:=hlt i o ho e he hb
       omega
theorem all_orders (hok:textOk ops T=true) {Q':Exit→Act→World→Prop} (hQ:∀ a w,Q a w→Q' .normal a w) :
   ∀ (l:List Nat) (listed:Array Bool) (a:Act) (w:World),listed.size=ops.size→Closed ops listed→l.Pairwise (· < ·)→(∀ k,k∈l↔k < ops.size∧listed.getD k true=false) →
     runT P ops T S Q l a w→(∀ k∈l,S k w)→wpAny P .any ops Q' l.length listed a w:=by
 simp only [textOk,Bool.and_eq_true,List.all_eq_true,List.mem_range] at hok
 obtain ⟨⟨hns,hch⟩,hall⟩:=hok
 have hsel:=Region.noSelect_spec hns
 have hre:∀ i k,reaches ops ops.size i k=true→k < i:=reaches_lt (fun j o ho e he hb=>by
   have hjs:j < ops.size:=by
     rcases Nat.lt_or_ge j ops.size with h | h
     · exact h
     · rw [Array.getElem?_eq_none h] at ho;cases ho
   have hb':=(hall j hjs).1
   rw [ho] at hb'
   have:=(Array.all_eq_true_iff_forall_mem.1 hb') e he
   rw [hb] at this
   simpa using this) _
 intro l
 generalize hn:l.length=n
 induction n generalizing l with
 | zero =>
   intro listed a w hsz hc hp hl h _
   obtain rfl:=List.eq_nil_of_length_eq_zero hn
   refine ⟨?_,hQ _ _ h⟩
   refine List.eq_nil_iff_forall_not_mem.2 fun k hk=>?_
   obtain ⟨h1,o,ho,_⟩:=mem_ready.1 hk
   have:k < ops.size:=by
     rcases Nat.lt_or_ge k ops.size with h | h
     · exact h
     · rw [Array.getElem?_eq_none h] at ho;cases ho
   exact absurd ((hl k).2 ⟨this,h1⟩) (by simp)
 | succ n ih =>
   intro listed a w hsz hc hp hl h hS
   have hne:l≠[]:=by intro e;rw [e] at hn;cases hn
   refine ⟨fun hr=>?_,fun j hj=>?_⟩
   · exfalso
     obtain ⟨x,l',rfl⟩:=List.exists_cons_of_ne_nil hne
     have hx:=(hl x).1 (List.mem_cons_self ..)
     have:x∈Region.ready .any ops listed:=by
       have ho:ops[x]? = some (ops[x]'hx.1):=Array.getElem?_eq_getElem hx.1
       refine mem_ready.2 ⟨hx.2,_,ho,fun e he hb=>?_⟩
       have hb':=(hall x hx.1).1
       rw [ho] at hb'
       have hlt:e.on < x:=by
         have:=(Array.all_eq_true_iff_forall_mem.1 hb') e he
         rw [hb] at this
         simpa using this
       cases hg:listed.getD e.on false
       · have hm:e.on∈x :: l':=(hl e.on).2 ⟨by omega,by
           have hlt':e.on < listed.size:=by omega
           simp [hlt'] at hg ⊢;exact hg⟩
         rcases List.mem_cons.1 hm with h | h
         · omega
         · have:=(List.pairwise_cons.1 hp).1 _ h;omega
       · rfl
     rw [hr] at this
     cases this
   · obtain ⟨hjun,oj,hoj,hall'⟩:=mem_ready.1 hj
     have hjs:j < ops.size:=by
       rcases Nat.lt_or_ge j ops.size with h | h
       · exact h
       · rw [Array.getElem?_eq_none h] at hoj;cases hoj
     have hjl:j∈l:=(hl j).2 ⟨hjs,hjun⟩
     have unl:∀ i∈l,listed.getD i false=false:=fun i hi=>by
       have:=(hl i).1 hi
       have hlt':i < listed.size:=by omega
       simpa [hlt'] using this.2
     have hdir:∀ i,direct ops j i=true→listed.getD i false=true:=fun i hi=>by
       obtain ⟨e,he,hb,rfl⟩:=(direct_iff hoj).1 hi
       exact hall' e he hb
     have hpair:∀ i∈l,i < j→direct ops j i=false:=fun i hi _=>by
       cases hd:direct ops j i
       · rfl
       · have:=hdir i hd;rw [unl i hi] at this;cases this
     have hTT:∀ i∈l,i < j→T.contains j=true→T.contains i=false:=fun i hi hlt hT=>by
       cases hTi:T.contains i
       · rfl
       · have:=chain_listed hc T hch j (by simpa using hT) hdir i (by simpa using hTi) hlt
         rw [unl i hi] at this;cases this
     have hap:∀ i∈l,i < j→∀ oi,ops[i]? = some oi→oi.apart ops oj=true:=fun i hi hlt oi hoi=>by
       have:=(hall j hjs).2 i hlt
       simp only [pairOk,hpair i hi hlt,hoi,hoj,Bool.false_or,Bool.or_eq_true,Bool.and_eq_true] at this
       rcases this with ⟨h1,h2⟩ | h
       · rw [hTT i hi hlt h2] at h1;cases h1
       · exact h
     have hfree:∀ k∈l,k≠j→freeOf ops j k=true:=fun k hk hne=>by
       have h1:=((hl k).1 hk).1
       have h2:reaches ops ops.size j k=false:=by
         cases hr:reaches ops ops.size j k
         · rfl
         · have h3:=reaches_listed hc _ _ _ hr hdir
           rw [unl k hk] at h3;cases h3
       simp [freeOf,h1,h2,hne]
     have main:wpOp P ops (fun _ _ _=>False) j (fun a' w'=>(∀ k∈l,k≠j→S k w')∧runT P ops T S Q (l.erase j) a' w') a w:=by
       cases hjT:T.contains j
       · obtain ⟨v,hy,hr⟩:=runT_pull hre hoj hjT hsel l a w hp (fun i hi=>((hl i).1 hi).1) hjl hap h (hS j hjl)
         exact hy.wpOp hoj (hS j hjl) ⟨fun k hk _=>hS k hk,hr⟩
       · exact runT_pullT hoj hsel l a w hp hjl (fun i hi hlt=>⟨hTT i hi hlt hjT,hap i hi hlt⟩) h (hS j hjl) l hfree hS
     refine wpOp_mono (fun a' w' ⟨hS',hr'⟩=>?_) (wpOp_weaken main)
     have hnd:=hp.imp (fun h=>Nat.ne_of_lt h)
     refine ih (l.erase j) (by rw [List.length_erase_of_mem hjl];omega) (listed.setIfInBounds j true) a' w' (by simpa using hsz) ?_ (hp.sublist (List.erase_sublist ..)) ?_ hr' ?_
     · intro k o hk hlk e he hb
       by_cases hkj:j=k
       · subst hkj
         rw [hoj] at hk
         cases hk
         exact getD_set_true (hall' e he hb)
       · rw [getD_set_ne false hkj] at hlk
         exact getD_set_true (hc k o hk hlk e he hb)
     · intro k
       rw [List.Nodup.mem_erase_iff hnd,hl k]
       by_cases hkj:j=k
       · subst hkj
         have hlt':j < listed.size:=by omega
         simp [hlt']
       · rw [getD_set_ne true hkj]
         constructor
         · rintro ⟨_,h⟩;exact h
         · intro h;exact ⟨Ne.symm hkj,h⟩
     · intro k hk
       have hx:=(List.Nodup.mem_erase_iff hnd).1 hk
       exact hS' k hx.2 hx.1
theorem wp_region_text {id:Nat} {a:Act} {w:World} {Q':Exit→Act→World→Prop} (T:List Nat) (S:Nat→World→Prop) (hm:P.follows .mixedOrders=true) (hok:textOk ops T=true) (hS:∀ k,k < ops.size→S k w.drew)
   (h:runT P ops T S (Q' .normal) (List.range ops.size) a w.drew):(Code.region id ops true).wp P Q' a w:=by
 refine wp_region_any hm ?_
 have:=all_orders hok (Q':=Q') (fun _ _ h=>h) (List.range ops.size) (Array.replicate ops.size false) a w.drew (by simp) ?_ List.pairwise_lt_range ?_ h (fun k hk=>hS k (by simpa using hk))
 · simpa using this
 · intro j o ho hl
   have hlt:j < ops.size:=by
     rcases Nat.lt_or_ge j ops.size with h | h
     · exact h
     · rw [Array.getElem?_eq_none h] at ho;cases ho
   simp [hlt] at hl
 · intro k
   simp only [List.mem_range]
   constructor
   · intro h;exact ⟨h,by simp [h]⟩
   · exact fun h=>h.1
def isT (o:Oper):Bool:=match o.op with
 | .call c=>match c.callee with
   | .builtin .len=>false
   | .builtin .cap=>false
   | _=>true
 | .store .. | .alloc .. | .box .. | .buildSlice .. | .mapUpdate .. | .makeMap .. | .makeSlice .. | .insert .. | .makeChan .. | .next .. | .range .. => true
 | .convert .. => false
 | _=>false
def tOps (ops:Array Oper):List Nat:=(List.range ops.size).filter fun i=>match ops[i]? with | some o=>isT o | none=>false
def runL (P:Program) (ops:Array Oper) (S:World→Prop) (Q:Act→World→Prop):List Oper→Act→World→Prop
 | [],a,w=>Q a w
 | o :: l,a,w =>
   (∃ v,YieldsIf P ops S o v a∧runL P ops S Q l (a.put o.dst v) w) ∨
    (isT o=true∧Region.wanted o (yielded ops a.tmps)=true∧TDoes P o a w fun v w'=>((l=[]∧lastOk ops=true)∨S w')∧runL P ops S Q l (a.put o.dst v) w')
theorem runT_of_L {S:World→Prop}:∀ (l:List Oper) (i:Nat) (a:Act) (w:World),i+l.length=ops.size→(∀ k,l[k]? = ops[i+k]?)→runL P ops S Q l a w→runT P ops (tOps ops) (fun _=>S) Q (List.range' i l.length) a w
 | [],i,a,w,_,_,h=>h
 | o :: l,i,a,w,hn,hk,h=>by
   have ho:ops[i]? = some o:=by have:=hk 0;simpa using this.symm
   have ih:=fun a w=>runT_of_L (S:=S) l (i+1) a w (by simp at hn;omega) (fun k=>by have:=hk (k+1);simpa [Nat.add_assoc,Nat.add_comm 1 k] using this)
   rw [List.length_cons,List.range'_succ]
   refine ⟨o,ho,?_⟩
   rcases h with ⟨v,hy,hr⟩ | ⟨hT,hw,hd⟩
   · exact .inl ⟨v,hy,ih _ _ hr⟩
   · refine .inr ⟨?_,hw,hd.mono fun v w' ⟨h1,h2⟩=>⟨fun k hk=>?_,ih _ _ h2⟩⟩
     rotate_left
     · rcases h1 with ⟨hl,hlo⟩ | h1
       · exfalso
         rw [hl] at hn
         simp only [List.length_cons,List.length_nil] at hn
         simp only [freeOf,Bool.and_eq_true,decide_eq_true_eq,Bool.not_eq_true',beq_eq_false_iff_ne] at hk
         simp only [lastOk,List.all_eq_true,List.mem_range] at hlo
         have:=hlo k (by omega)
         rw [show ops.size - 1=i from by omega,hk.2] at this
         cases this
       · exact h1
     simp only [tOps,List.contains_eq_mem,List.mem_filter,List.mem_range,decide_eq_true_eq]
     exact ⟨by simp at hn;omega,by rw [ho];exact hT⟩
theorem wp_region_lines {id:Nat} {a:Act} {w:World} {Q':Exit→Act→World→Prop} (S:World→Prop) (hm:P.follows .mixedOrders=true) (hok:textOk ops (tOps ops)=true) (hS:S w.drew)
   (h:runL P ops S (Q' .normal) ops.toList a w.drew):(Code.region id ops true).wp P Q' a w:=by
 refine wp_region_text (tOps ops) (fun _=>S) hm hok (fun _ _=>hS) ?_
 have:=runT_of_L (S:=S) ops.toList 0 a w.drew (by simp) (fun k=>by simp) h
 rw [List.range_eq_range']
 simpa using this
theorem runL_nil {S:World→Prop} {a:Act} {w:World} (h:Q a w):runL P ops S Q [] a w:=h
theorem runL_no {S:World→Prop} {o:Oper} {l:List Oper} {a:Act} {w:World} (hw:Region.wanted o (yielded ops a.tmps)=false) (h:runL P ops S Q l (a.put o.dst undef) w):runL P ops S Q (o :: l) a w :=
 .inl ⟨undef,.inr ⟨hw,rfl⟩,h⟩
theorem runL_val {S:World→Prop} {o:Oper} {l:List Oper} {a:Act} {w:World} {v:Value} (hw:Region.wanted o (yielded ops a.tmps)=true) (hv:∀ w,S w→(execOp a.eval o).run P w=.ok (.value v) w)
   (h:runL P ops S Q l (a.put o.dst v) w):runL P ops S Q (o :: l) a w :=
 .inl ⟨v,.inl ⟨hw,hv⟩,h⟩
theorem runL_call {S:World→Prop} {o:Oper} {l:List Oper} {a:Act} {w w1:World} {f:FuncId} {args:Array Value} (hT:isT o=true) (hw:Region.wanted o (yielded ops a.tmps)=true)
   (hr:(execOp a.eval o).run P w=.ok (.enter f args) w1)
   (h:Calls P f args w1 fun e w'=>∃ v,e=.returned v∧((l=[]∧lastOk ops=true)∨S w')∧runL P ops S Q l (a.put o.dst v) w'):runL P ops S Q (o :: l) a w:=by
 refine .inr ⟨hT,hw,?_⟩
 unfold TDoes
 rw [hr]
 exact h
theorem runL_op {S:World→Prop} {o:Oper} {l:List Oper} {a:Act} {w w1:World} {v:Value} (hT:isT o=true) (hw:Region.wanted o (yielded ops a.tmps)=true)
   (hr:(execOp a.eval o).run P w=.ok (.value v) w1) (hS:(l=[]∧lastOk ops=true)∨S w1) (h:runL P ops S Q l (a.put o.dst v) w1):runL P ops S Q (o :: l) a w:=by
 refine .inr ⟨hT,hw,?_⟩
 unfold TDoes
 rw [hr]
 exact ⟨hS,h⟩
theorem runL_skip {S:World→Prop} {o:Oper} {l:List Oper} {a:Act} {w w1:World} (hT:isT o=true) (hw:Region.wanted o (yielded ops a.tmps)=true)
   (hr:(execOp a.eval o).run P w=.ok .skip w1) (hS:(l=[]∧lastOk ops=true)∨S w1) (h:runL P ops S Q l (a.put o.dst undef) w1):runL P ops S Q (o :: l) a w:=by
 refine .inr ⟨hT,hw,?_⟩
 unfold TDoes
 rw [hr]
 exact ⟨hS,h⟩
def runK (P:Program) (ops:Array Oper) (S:Nat→World→Prop) (Q:Act→World→Prop):Nat→List Oper→Act→World→Prop
 | _,[],a,w=>Q a w
 | i,o :: l,a,w =>
   (∃ v,YieldsIf P ops (S i) o v a∧runK P ops S Q (i+1) l (a.put o.dst v) w) ∨
    (isT o=true∧Region.wanted o (yielded ops a.tmps)=true∧TDoes P o a w fun v w'=>(∀ k,freeOf ops i k=true→S k w')∧runK P ops S Q (i+1) l (a.put o.dst v) w')
theorem runT_of_K:∀ (l:List Oper) (i:Nat) (a:Act) (w:World),i+l.length=ops.size→(∀ k,l[k]? = ops[i+k]?)→runK P ops S Q i l a w→runT P ops (tOps ops) S Q (List.range' i l.length) a w
 | [],i,a,w,_,_,h=>h
 | o :: l,i,a,w,hn,hk,h=>by
   have ho:ops[i]? = some o:=by have:=hk 0;simpa using this.symm
   have ih:=fun a w=>runT_of_K l (i+1) a w (by simp at hn;omega) (fun k=>by have:=hk (k+1);simpa [Nat.add_assoc,Nat.add_comm 1 k] using this)
   rw [List.length_cons,List.range'_succ]
   refine ⟨o,ho,?_⟩
   rcases h with ⟨v,hy,hr⟩ | ⟨hT,hw,hd⟩
   · exact .inl ⟨v,hy,ih _ _ hr⟩
   · refine .inr ⟨?_,hw,hd.mono fun v w' ⟨h1,h2⟩=>⟨h1,ih _ _ h2⟩⟩
     simp only [tOps,List.contains_eq_mem,List.mem_filter,List.mem_range,decide_eq_true_eq]
     exact ⟨by simp at hn;omega,by rw [ho];exact hT⟩
theorem wp_region_stages {id:Nat} {a:Act} {w:World} {Q':Exit→Act→World→Prop} (S:Nat→World→Prop) (hm:P.follows .mixedOrders=true) (hok:textOk ops (tOps ops)=true) (hS:∀ k,S k w.drew)
   (h:runK P ops S (Q' .normal) 0 ops.toList a w.drew):(Code.region id ops true).wp P Q' a w:=by
 refine wp_region_text (tOps ops) S hm hok (fun k _=>hS k) ?_
 have:=runT_of_K ops.toList 0 a w.drew (by simp) (fun k=>by simp) h
 rw [List.range_eq_range']
 simpa using this
theorem runK_nil {i:Nat} {a:Act} {w:World} (h:Q a w):runK P ops S Q i [] a w:=h
theorem runK_no {i:Nat} {o:Oper} {l:List Oper} {a:Act} {w:World} (hw:Region.wanted o (yielded ops a.tmps)=false) (h:runK P ops S Q (i+1) l (a.put o.dst undef) w):runK P ops S Q i (o :: l) a w :=
 .inl ⟨undef,.inr ⟨hw,rfl⟩,h⟩
theorem runK_val {i:Nat} {o:Oper} {l:List Oper} {a:Act} {w:World} {v:Value} (hw:Region.wanted o (yielded ops a.tmps)=true) (hv:∀ w,S i w→(execOp a.eval o).run P w=.ok (.value v) w)
   (h:runK P ops S Q (i+1) l (a.put o.dst v) w):runK P ops S Q i (o :: l) a w :=
 .inl ⟨v,.inl ⟨hw,hv⟩,h⟩
theorem runK_skip {i:Nat} {o:Oper} {l:List Oper} {a:Act} {w w1:World} (hT:isT o=true) (hw:Region.wanted o (yielded ops a.tmps)=true)
   (hr:(execOp a.eval o).run P w=.ok .skip w1) (hS:∀ k,freeOf ops i k=true→S k w1) (h:runK P ops S Q (i+1) l (a.put o.dst undef) w1):runK P ops S Q i (o :: l) a w:=by
 refine .inr ⟨hT,hw,?_⟩
 unfold TDoes
 rw [hr]
 exact ⟨hS,h⟩
theorem free_crit {i:Nat} {C:Nat→Bool} (h:((List.range ops.size).all fun k=>!freeOf ops i k || !C k)=true):∀ k,freeOf ops i k=true→C k=true→False:=by
 intro k hk hc
 have hks:k < ops.size:=by simp only [freeOf,Bool.and_eq_true,decide_eq_true_eq] at hk;exact hk.1.1
 have:=(List.all_eq_true.1 h) k (List.mem_range.2 hks)
 rw [hk,hc] at this
 cases this
end
end Go.Proofs.YtjbabpnepjhllaaGreat
namespace Go.Proofs.YtjbabpnepjhllaaGreat
open Go.RowKit
theorem Lh{p:Prop}(h:p):Hid p:=Lib.hid h
theorem ret_int {k:IntKind} {a b:Int} (h:a=b):Ending.returned (.int k a)=.returned (.int k b):=by rw [h]
theorem ret_bool {a b:Bool} (h:a=b):Ending.returned (.bool a)=.returned (.bool b):=by rw [h]
def SameOn (F:Nat→Prop) (w w':World):Prop:=∀ k,F k→w'.heap[k]? = w.heap[k]?
theorem SameOn.refl (F:Nat→Prop) (w:World):SameOn F w w:=fun _ _=>rfl
theorem SameOn.trans {F:Nat→Prop} {a b c:World} (h:SameOn F a b) (h':SameOn F b c):SameOn F a c:=fun k hk=>(h' k hk).trans (h k hk)
theorem SameOn.mono {F G:Nat→Prop} {a b:World} (h:SameOn F a b) (hg:∀ k,G k→F k):SameOn G a b:=fun k hk=>h k (hg k hk)
theorem SameOn.of_below {F:Nat→Prop} {B:Nat} {a b:World} (h:Below B a b) (hF:∀ k,F k→k < B):SameOn F a b:=fun k hk=>h.block k (hF k hk)
def Rows (w:World) (F:Nat→Prop) (sz:Nat) (v:Value) (rows:List (List Value)):Prop :=
 ∃ A c,v=.slice A rows.length c∧rows.length≤c∧(∀ r∈rows,r.length=sz) ∧
   (rows≠[]→∃ b off,A=some ⟨b,off,none⟩∧F b∧∀ (i j:Nat) (r:List Value) (u:Value),rows[i]? = some r→r[j]? = some u→w.cell? ⟨b,off+i*sz+j,none⟩=some u)
theorem Rows.keep {w w':World} {F:Nat→Prop} {sz:Nat} {v:Value} {rows:List (List Value)} (h:Rows w F sz v rows) (hk:SameOn F w w'):Rows w' F sz v rows:=by
 obtain ⟨A,c,hv,hc,hl,hh⟩:=h
 refine ⟨A,c,hv,hc,hl,fun hne=>?_⟩
 obtain ⟨b,off,hA,hb,hcell⟩:=hh hne
 exact ⟨b,off,hA,hb,fun i j r u hr hu=>(World.cell?_of_block (w:=w) (hk b hb)).trans (hcell i j r u hr hu)⟩
theorem Rows.mono {w:World} {F G:Nat→Prop} {sz:Nat} {v:Value} {rows:List (List Value)} (h:Rows w F sz v rows) (hk:∀ k,F k→G k):Rows w G sz v rows:=by
 obtain ⟨A,c,hv,hc,hl,hh⟩:=h
 refine ⟨A,c,hv,hc,hl,fun hne=>?_⟩
 obtain ⟨b,off,hA,hb,hcell⟩:=hh hne
 exact ⟨b,off,hA,hk _ hb,hcell⟩
def byteV (x:UInt8):Value:=.int .u8 x.toNat
def BytesAt (w:World) (F:Nat→Prop) (v:Value) (l:List UInt8):Prop:=Rows w F 1 v (l.map fun x=>[byteV x])
theorem BytesAt.keep {w w':World} {F:Nat→Prop} {v:Value} {l:List UInt8} (h:BytesAt w F v l) (hk:SameOn F w w'):BytesAt w' F v l:=Rows.keep h hk
theorem BytesAt.mono {w:World} {F G:Nat→Prop} {v:Value} {l:List UInt8} (h:BytesAt w F v l) (hk:∀ k,F k→G k):BytesAt w G v l:=Rows.mono h hk
structure Reg where
 base:Nat
 bytes:List UInt8
 write:Bool
structure Ent where
 key:Nat
 ad:Option Addr
 n:Nat
 c:Nat
 wr:Bool
def entRow (x:Ent):List Value:=[.int .u64 x.key,.slice x.ad x.n x.c,.bool x.wr]
structure EntSrc (w:World) (F:Nat→Prop) (r:Reg) (e:Ent):Prop where
 key:e.key=r.base
 n:e.n=r.bytes.length
 wr:e.wr=r.write
 bytes:BytesAt w F (.slice e.ad e.n e.c) r.bytes
 base64:r.base < 18446744073709551616
 len:r.bytes.length≤9223372036854775807
theorem EntSrc.keep {w w':World} {F:Nat→Prop} {r:Reg} {e:Ent} (h:EntSrc w F r e) (hk:SameOn F w w'):EntSrc w' F r e:=⟨h.key,h.n,h.wr,h.bytes.keep hk,h.base64,h.len⟩
theorem EntSrc.mono {w:World} {F G:Nat→Prop} {r:Reg} {e:Ent} (h:EntSrc w F r e) (hk:∀ k,F k→G k):EntSrc w G r e:=⟨h.key,h.n,h.wr,h.bytes.mono hk,h.base64,h.len⟩
def RegsAt (w:World) (F:Nat→Prop) (v:Value) (l:List Reg):Prop :=
 ∃ P:List (Reg×Ent),P.map (·.1)=l∧Rows w F 3 v (P.map fun x=>entRow x.2)∧∀ x∈P,EntSrc w F x.1 x.2
theorem RegsAt.take {w:World} {F:Nat→Prop} {A:Option Addr} {n c:Nat} {l:List Reg} (h:RegsAt w F (.slice A n c) l) {k:Nat} (hk:k≤n):RegsAt w F (.slice A k c) (l.take k):=by
 obtain ⟨P,hP,⟨A1,c1,hv,hc1,hl,hne⟩,hs⟩:=h
 cases hv
 simp only [List.length_map] at hk hc1
 have hkl:(P.take k).length=k:=by simp;omega
 refine ⟨P.take k,by rw [←hP,List.map_take],⟨A,c,by simp [hk],by simp;omega,fun r hr=>hl r ?_,fun hne'=>?_⟩,fun x hx=>hs x (List.mem_of_mem_take hx)⟩
 · rw [List.map_take] at hr;exact List.mem_of_mem_take hr
 · obtain ⟨b,off,hA,hF,hc⟩:=hne (fun e=>hne' (by rw [List.map_take,e];simp))
   refine ⟨b,off,hA,hF,fun i j r u hr hu=>hc i j r u ?_ hu⟩
   rw [List.map_take,List.getElem?_take] at hr
   split at hr
   · exact hr
   · cases hr
theorem RegsAt.len {w:World} {F:Nat→Prop} {A:Option Addr} {n c:Nat} {l:List Reg} (h:RegsAt w F (.slice A n c) l):n=l.length∧n≤c:=by
 obtain ⟨P,hP,⟨A1,c1,hv,hc1,hl,hne⟩,hs⟩:=h
 cases hv
 rw [←hP]
 exact ⟨by simp,hc1⟩
theorem RegsAt.form {w:World} {F:Nat→Prop} {v:Value} {l:List Reg} (h:RegsAt w F v l):∃ A c,v=.slice A l.length c∧l.length≤c:=by
 obtain ⟨P,hP,⟨A1,c1,hv,hc1,hl,hne⟩,hs⟩:=h
 rw [←hP]
 exact ⟨A1,c1,by rw [hv];simp,by simpa using hc1⟩
theorem RegsAt.at_ {w:World} {F:Nat→Prop} {A:Option Addr} {n c:Nat} {l:List Reg} (h:RegsAt w F (.slice A n c) l) {k:Nat} {r:Reg} (hk:l[k]? = some r) :
   ∃ b off A' c',A=some ⟨b,off,none⟩∧F b∧w.cell? ⟨b,off+k*3,none⟩=some (.int .u64 r.base)∧w.cell? ⟨b,off+k*3+1,none⟩=some (.slice A' r.bytes.length c') ∧
     w.cell? ⟨b,off+k*3+2,none⟩=some (.bool r.write)∧BytesAt w F (.slice A' r.bytes.length c') r.bytes∧r.base < 18446744073709551616∧r.bytes.length≤9223372036854775807:=by
 obtain ⟨P,hP,⟨A1,c1,hv,hc1,hl,hne⟩,hs⟩:=h
 cases hv
 rw [←hP,List.getElem?_map] at hk
 cases hpk:P[k]? with
 | none=>rw [hpk] at hk;cases hk
 | some x =>
   rw [hpk] at hk
   cases hk
   have hx:=hs x (List.mem_of_getElem? hpk)
   have hr:(P.map fun x=>entRow x.2)[k]? = some (entRow x.2):=by rw [List.getElem?_map,hpk];rfl
   obtain ⟨b,off,hA,hF,hcell⟩:=hne (fun e=>by rw [e] at hr;cases hr)
   have hb:=hx.bytes
   have hn:=hx.n
   rw [hn] at hb
   refine ⟨b,off,x.2.ad,x.2.c,hA,hF,?_,?_,?_,hb,hx.base64,hx.len⟩
   · rw [←hx.key];exact hcell k 0 _ _ hr rfl
   · rw [←hn];exact hcell k 1 _ _ hr rfl
   · rw [←hx.wr];exact hcell k 2 _ _ hr rfl
theorem RegsAt.keep {w w':World} {F:Nat→Prop} {v:Value} {l:List Reg} (h:RegsAt w F v l) (hk:SameOn F w w'):RegsAt w' F v l:=by
 obtain ⟨P,hP,hr,hs⟩:=h
 exact ⟨P,hP,hr.keep hk,fun x hx=>(hs x hx).keep hk⟩
theorem RegsAt.mono {w:World} {F G:Nat→Prop} {v:Value} {l:List Reg} (h:RegsAt w F v l) (hk:∀ k,F k→G k):RegsAt w G v l:=by
 obtain ⟨P,hP,hr,hs⟩:=h
 exact ⟨P,hP,hr.mono hk,fun x hx=>(hs x hx).mono hk⟩
theorem RegsAt.below {w w':World} {F:Nat→Prop} {v:Value} {l:List Reg} {B:Nat} (h:RegsAt w F v l) (hb:Below B w w') (hF:∀ k,F k→k < B):RegsAt w' F v l:=h.keep (SameOn.of_below hb hF)
theorem Rows.flat {w:World} {F:Nat→Prop} {sz:Nat} {ad:Addr} {n c:Nat} {rows:List (List Value)} (h:Rows w F sz (.slice (some ad) n c) rows) (hsz:0 < sz) :
   rows.flatten.length=n*sz∧∀ (j:Nat) (u:Value),rows.flatten[j]? = some u→w.cell? (ad.add j)=some u:=by
 obtain ⟨A,c1,hv,hc,hl,hne⟩:=h
 cases hv
 have hlen:∀ rows:List (List Value),(∀ r∈rows,r.length=sz)→rows.flatten.length=rows.length*sz:=by
   intro rows
   induction rows with
   | nil=>intro _;simp
   | cons q qs ih=>intro hq;rw [List.flatten_cons,List.length_append,ih (fun r hr=>hq r (List.mem_cons_of_mem _ hr)),hq q (List.mem_cons_self ..),List.length_cons,Nat.succ_mul];omega
 refine ⟨hlen rows hl,fun j u hu=>?_⟩
 have hjl:j < rows.length*sz:=by
   rw [←hlen rows hl]
   rcases Nat.lt_or_ge j rows.flatten.length with h | h
   · exact h
   · rw [List.getElem?_eq_none h] at hu;cases hu
 obtain ⟨b,off,hA,_,hcell⟩:=hne (fun e=>by rw [e] at hjl;simp at hjl)
 cases hA
 have key:∀ (rows:List (List Value)) (j:Nat),(∀ r∈rows,r.length=sz)→rows.flatten[j]? = some u→∃ r,rows[j / sz]? = some r∧r[j % sz]? = some u:=by
   intro rows
   induction rows with
   | nil=>intro j _ h;simp at h
   | cons q qs ih =>
     intro j hq hj
     have hql:=hq q (List.mem_cons_self ..)
     rw [List.flatten_cons] at hj
     rcases Nat.lt_or_ge j sz with h | h
     · rw [List.getElem?_append_left (by omega)] at hj
       exact ⟨q,by rw [Nat.div_eq_of_lt h];rfl,by rw [Nat.mod_eq_of_lt h];exact hj⟩
     · rw [List.getElem?_append_right (by omega),hql] at hj
       obtain ⟨r,h1,h2⟩:=ih (j - sz) (fun r hr=>hq r (List.mem_cons_of_mem _ hr)) hj
       refine ⟨r,?_,?_⟩
       · rw [show j / sz=(j - sz) / sz+1 from by rw [Nat.div_eq_sub_div hsz h]]
         simpa using h1
       · rw [Nat.mod_eq_sub_mod h];exact h2
 obtain ⟨r,h1,h2⟩:=key rows j hl hu
 have:=hcell _ _ r u h1 h2
 have hdm:j / sz*sz+j % sz=j:=by rw [Nat.mul_comm];exact Nat.div_add_mod j sz
 rw [show off+j / sz*sz+j % sz=off+j from by omega] at this
 unfold Addr.add
 split
 · rename_i h0;subst h0;simpa using this
 · exact this
end Go.Proofs.YtjbabpnepjhllaaGreat
namespace Go.Proofs.YtjbabpnepjhllaaGreat
open Go.RowKit
structure Chg (F:Nat→Prop) (w w':World):Prop where
 os:w'.os=w.os
 tape:w'.tape=w.tape
 output:w'.output=w.output
 size:w.heap.size≤w'.heap.size
 block:∀ k,k < w.heap.size→¬ F k→w'.heap[k]? = w.heap[k]?
theorem Chg.refl (F:Nat→Prop) (w:World):Chg F w w:=⟨rfl,rfl,rfl,Nat.le_refl _,fun _ _ _=>rfl⟩
theorem Chg.trans {F:Nat→Prop} {a b c:World} (h:Chg F a b) (h':Chg F b c):Chg F a c :=
 ⟨h'.os.trans h.os,h'.tape.trans h.tape,h'.output.trans h.output,Nat.le_trans h.size h'.size,fun k hk hF=>(h'.block k (Nat.lt_of_lt_of_le hk h.size) hF).trans (h.block k hk hF)⟩
theorem Chg.trans' {F G:Nat→Prop} {a b c:World} (h:Chg F a b) (h':Chg G b c) (hg:∀ k,k < a.heap.size→G k→F k):Chg F a c :=
 ⟨h'.os.trans h.os,h'.tape.trans h.tape,h'.output.trans h.output,Nat.le_trans h.size h'.size,fun k hk hF=>(h'.block k (Nat.lt_of_lt_of_le hk h.size) (fun hG=>hF (hg k hk hG))).trans (h.block k hk hF)⟩
theorem Chg.mono {F G:Nat→Prop} {a b:World} (h:Chg F a b) (hg:∀ k,k < a.heap.size→F k→G k):Chg G a b:=⟨h.os,h.tape,h.output,h.size,fun k hk hG=>h.block k hk fun hF=>hG (hg k hk hF)⟩
theorem Chg.of_below {F:Nat→Prop} {a b:World} (h:Below a.heap.size a b):Chg F a b:=⟨h.os,h.tape,h.output,h.size,fun k hk _=>h.block k hk⟩
theorem Chg.below {F:Nat→Prop} {a b:World} {B:Nat} (h:Chg F a b) (hF:∀ k,k < B→¬ F k) (hB:B≤a.heap.size):Below B a b:=⟨h.os,h.tape,h.output,h.size,fun k hk=>h.block k (Nat.lt_of_lt_of_le hk hB) (hF k hk)⟩
theorem Chg.same {F G:Nat→Prop} {a b:World} (h:Chg F a b) (hG:∀ k,G k→k < a.heap.size∧¬ F k):SameOn G a b:=fun k hk=>h.block k (hG k hk).1 (hG k hk).2
theorem Chg.drew {F:Nat→Prop} {a b:World} (h:Chg F a b):Chg F a b.drew:=⟨h.os,h.tape,h.output,h.size,h.block⟩
theorem Chg.setCell {F:Nat→Prop} {a b:World} (h:Chg F a b) {p:Addr} (hp:F p.block∨a.heap.size≤p.block) (u:Value):Chg F a (b.setCell p u) :=
 ⟨h.os,h.tape,h.output,by have:=h.size;simpa [World.setCell] using this,fun k hk hF=>(Below.heap_setCell _ _ _ _ (fun e=>by subst e;rcases hp with hp | hp;exact hF hp;omega)).trans (h.block k hk hF)⟩
theorem Chg.alloc {F:Nat→Prop} {a b:World} (h:Chg F a b) (o:Obj):Chg F a (b.alloc o):=h.trans (.of_below ((Below.refl _ _).alloc (Nat.le_refl _) o))
def RowsBlk (w:World) (g e sz:Nat) (rows:List (List Value)):Prop :=
 ∃ cur,w.heap[g]? = some (.cells cur e (0,0))∧(∀ (i j:Nat) (r:List Value) (u:Value),rows[i]? = some r→r[j]? = some u→cur[i*sz+j]? = some u)∧∀ r∈rows,r.length=sz
theorem RowsBlk.keep {w w':World} {g e sz:Nat} {rows:List (List Value)} (h:RowsBlk w g e sz rows) (hk:w'.heap[g]? = w.heap[g]?):RowsBlk w' g e sz rows:=by
 obtain ⟨cur,h1,h2⟩:=h
 exact ⟨cur,hk.trans h1,h2⟩
theorem RowsBlk.drew {w:World} {g e sz:Nat} {rows:List (List Value)} (h:RowsBlk w g e sz rows):RowsBlk w.drew g e sz rows:=h
theorem RowsBlk.lt {w:World} {g e sz:Nat} {rows:List (List Value)} (h:RowsBlk w g e sz rows):g < w.heap.size:=by
 obtain ⟨cur,h1,_⟩:=h
 rcases Nat.lt_or_ge g w.heap.size with h | h
 · exact h
 · rw [Array.getElem?_eq_none h] at h1;cases h1
theorem RowsBlk.cell {w:World} {g e sz:Nat} {rows:List (List Value)} (h:RowsBlk w g e sz rows) {i j:Nat} {r:List Value} {u:Value} (hr:rows[i]? = some r) (hu:r[j]? = some u):w.cell? ⟨g,i*sz+j,none⟩=some u:=by
 obtain ⟨cur,h1,h2,_⟩:=h
 simp only [World.cell?,h1]
 exact h2 i j r u hr hu
theorem RowsBlk.frozen {w:World} {g e sz:Nat} {rows:List (List Value)} (h:RowsBlk w g e sz rows) (i:Nat):w.frozen? ⟨g,i,none⟩=false:=by
 obtain ⟨cur,h1,_⟩:=h
 simp [World.frozen?,h1]
theorem rowsBlk_of_own {w:World} {base e sz n:Nat} {v:Value} {rows:List (List Value)} (h:w.ownsRow base e sz v n rows.flatten) (hsz:∀ r∈rows,r.length=sz) (hpos:0 < n) :
   ∃ g cap,v=.slice (some ⟨g,0,none⟩) n cap∧base≤g∧n≤cap∧RowsBlk w g e sz rows:=by
 rcases h.2 with ⟨_,h0⟩ | ⟨g,cap,cur,hv,hg,hh,hnc,hcm,hcs,htk⟩
 · omega
 · refine ⟨g,cap,hv,hg,hnc,cur,hh,fun i j r u hr hu=>?_,hsz⟩
   have key:∀ (rows:List (List Value)) (i:Nat),(∀ r∈rows,r.length=sz)→rows[i]? = some r→rows.flatten[i*sz+j]? = some u:=by
     intro rows
     induction rows with
     | nil=>intro i _ h;simp at h
     | cons q qs ih =>
       intro i hq hi
       have hql:=hq q (List.mem_cons_self ..)
       have hjs:j < sz:=by
         have hrl:=hq r (List.mem_of_getElem? hi)
         rcases Nat.lt_or_ge j sz with h | h
         · exact h
         · rw [List.getElem?_eq_none (by omega)] at hu;cases hu
       cases i with
       | zero =>
         simp at hi
         subst hi
         rw [List.flatten_cons,List.getElem?_append_left (by omega)]
         simpa using hu
       | succ i =>
         rw [List.flatten_cons,List.getElem?_append_right (by rw [hql,Nat.succ_mul];omega),hql]
         have:(i+1)*sz+j - sz=i*sz+j:=by rw [Nat.succ_mul];omega
         rw [this]
         exact ih i (fun r hr=>hq r (List.mem_cons_of_mem _ hr)) (by simpa using hi)
   have hk:=key rows i hsz hr
   rw [←htk,List.getElem?_take] at hk
   split at hk
   · simpa using hk
   · cases hk
end Go.Proofs.YtjbabpnepjhllaaGreat
namespace Go.Proofs.YtjbabpnepjhllaaGreat
open Go.RowKit
structure Res where
 F:Nat→Prop
 P:World→Prop
 st:∀ {w w':World},SameOn F w w'→P w→P w'
def Ov (F:Nat→Prop) (base:Nat):Nat→Prop:=fun k=>F k∨base≤k
theorem row_keep {w w':World} {base e sz n:Nat} {v:Value} {xs:List Value} (hk:∀ g,v.ownBlock=some g→w'.heap[g]? = w.heap[g]?) (h:w.ownsRow base e sz v n xs):w'.ownsRow base e sz v n xs:=by
 rcases h.2 with ⟨h1,h2⟩ | ⟨g',cap',cur,hv,hg,hh,hr⟩
 · exact ⟨h.1,.inl ⟨h1,h2⟩⟩
 · exact ⟨h.1,.inr ⟨g',cap',cur,hv,hg,(hk g' (by rw [hv];rfl)).trans hh,hr⟩⟩
def boxR (g:Nat) (ty:TypeId) (row:List Value):Res:=⟨fun k=>k=g,fun w=>w.heap[g]? = some (.cells row.toArray ty (0,0)),fun h hp=>(h g rfl).trans hp⟩
def rowR (base:Nat) (ty:TypeId) (sz n:Nat) (v:Value) (xs:List Value):Res:=⟨fun k=>v.ownBlock=some k,fun w=>w.ownsRow base ty sz v n xs,fun h hp=>row_keep h hp⟩
structure Sep (w0:World) (F0:Nat→Prop) (w:World) (R:List Res):Prop where
 chg:Chg (Ov F0 w0.heap.size) w0 w
 lt:∀ r∈R,∀ k,r.F k→k < w.heap.size
 over:∀ r∈R,∀ k,r.F k→Ov F0 w0.heap.size k
 dis:R.Pairwise fun r q=>∀ k,r.F k→¬ q.F k
 holds:∀ r∈R,r.P w
section
variable {w0 w w':World} {F0:Nat→Prop} {R:List Res}
theorem Sep.nil (w:World) (F0:Nat→Prop):Sep w F0 w []:=⟨Chg.refl _ _,by simp,by simp,by simp,by simp⟩
theorem Sep.get (h:Sep w0 F0 w R) (i:Nat) {r:Res} (hi:R[i]? = some r):r.P w:=h.holds r (List.mem_of_getElem? hi)
theorem Sep.size (h:Sep w0 F0 w R):w0.heap.size≤w.heap.size:=h.chg.size
theorem Sep.below (h:Sep w0 (fun _=>False) w R):Below w0.heap.size w0 w:=h.chg.below (fun k hk hF=>by rcases hF with hF | hF;exact hF;omega) (Nat.le_refl _)
theorem Sep.keep (h:Sep w0 F0 w R) (hc:Chg (Ov F0 w0.heap.size) w w') (hk:∀ r∈R,SameOn r.F w w'):Sep w0 F0 w' R :=
 ⟨h.chg.trans hc,fun r hr k hF=>Nat.lt_of_lt_of_le (h.lt r hr k hF) hc.size,h.over,h.dis,fun r hr=>r.st (hk r hr) (h.holds r hr)⟩
theorem Sep.next (h:Sep w0 F0 w R) (hb:Below w.heap.size w w'):Sep w0 F0 w' R :=
 h.keep (Chg.of_below hb) fun r hr k hF=>hb.block k (h.lt r hr k hF)
theorem Sep.drew (h:Sep w0 F0 w R):Sep w0 F0 w.drew R:=h.next (Below.refl _ _).drew
theorem pair_apart {R:List Res} (hd:R.Pairwise fun r q=>∀ k,r.F k→¬ q.F k) {i j:Nat} {r q:Res} (hi:R[i]? = some r) (hj:R[j]? = some q) (hij:i≠j):∀ k,r.F k→¬ q.F k:=by
 obtain ⟨h1,rfl⟩:=List.getElem?_eq_some_iff.1 hi
 obtain ⟨h2,rfl⟩:=List.getElem?_eq_some_iff.1 hj
 have hp:=List.pairwise_iff_getElem.1 hd
 rcases Nat.lt_or_gt_of_ne hij with h | h
 · exact hp i j h1 h2 h
 · intro k hk hq
   exact hp j i h2 h1 h k hq hk
theorem Sep.put (h:Sep w0 F0 w R) (i:Nat) {r r':Res} (hi:R[i]? = some r) (hc:Chg (Ov r.F w.heap.size) w w') (hP:r'.P w') (hF:∀ k,r'.F k→(r.F k∨w.heap.size≤k)∧k < w'.heap.size):Sep w0 F0 w' (R.set i r'):=by
 have hir:=List.mem_of_getElem? hi
 have hil:i < R.length:=(List.getElem?_eq_some_iff.1 hi).1
 have hmem:∀ x,x∈R.set i r'→x=r'∨∃ j,j≠i∧R[j]? = some x:=fun x hx=>by
   obtain ⟨j,hj⟩:=List.mem_iff_getElem?.1 hx
   rw [List.getElem?_set] at hj
   split at hj
   · (try rw [if_pos hil] at hj);exact .inl (Option.some.inj hj).symm
   · rename_i hij;exact .inr ⟨j,fun e=>hij e.symm,hj⟩
 have hsame:∀ j q,j≠i→R[j]? = some q→SameOn q.F w w':=fun j q hj hq k hk =>
   hc.block k (h.lt q (List.mem_of_getElem? hq) k hk) fun hF=>by
     rcases hF with hF | hF
     · exact pair_apart h.dis hi hq (fun e=>hj e.symm) k hF hk
     · have:=h.lt q (List.mem_of_getElem? hq) k hk;omega
 have hov:∀ k,r'.F k→Ov F0 w0.heap.size k:=fun k hk=>by
   rcases (hF k hk).1 with h1 | h1
   · exact h.over r hir k h1
   · exact .inr (Nat.le_trans h.size h1)
 refine ⟨h.chg.trans' hc fun k hk hG=>?_,fun x hx k hk=>?_,fun x hx k hk=>?_,?_,fun x hx=>?_⟩
 · rcases hG with hG | hG
   · exact h.over r hir k hG
   · exact .inr (Nat.le_trans h.size hG)
 · rcases hmem x hx with rfl | ⟨j,_,hj⟩
   · exact (hF k hk).2
   · exact Nat.lt_of_lt_of_le (h.lt x (List.mem_of_getElem? hj) k hk) hc.size
 · rcases hmem x hx with rfl | ⟨j,_,hj⟩
   · exact hov k hk
   · exact h.over x (List.mem_of_getElem? hj) k hk
 · refine List.pairwise_iff_getElem.2 fun a b ha hb hab=>?_
   simp only [List.length_set] at ha hb
   have hp:=List.pairwise_iff_getElem.1 h.dis a b ha hb hab
   intro k hk hk'
   by_cases ea:i=a
   · subst ea
     rw [List.getElem_set_self] at hk
     rw [List.getElem_set_ne (by omega)] at hk'
     rcases (hF k hk).1 with h1 | h1
     · exact pair_apart h.dis hi (List.getElem?_eq_getElem hb) (by omega) k h1 hk'
     · have:=h.lt _ (List.getElem_mem hb) k hk';omega
   · by_cases eb:i=b
     · subst eb
       rw [List.getElem_set_self] at hk'
       rw [List.getElem_set_ne ea] at hk
       rcases (hF k hk').1 with h1 | h1
       · exact pair_apart h.dis hi (List.getElem?_eq_getElem ha) (by omega) k h1 hk
       · have:=h.lt _ (List.getElem_mem ha) k hk;omega
     · rw [List.getElem_set_ne ea] at hk
       rw [List.getElem_set_ne eb] at hk'
       exact hp k hk hk'
 · rcases hmem x hx with rfl | ⟨j,hne,hj⟩
   · exact hP
   · exact x.st (hsame j x hne hj) (h.get j hj)
theorem Sep.push (h:Sep w0 F0 w R) {r':Res} (hb:Below w.heap.size w w') (hP:r'.P w') (hF:∀ k,r'.F k→w.heap.size≤k∧k < w'.heap.size):Sep w0 F0 w' (r' :: R):=by
 have h1:=h.next hb
 refine ⟨h1.chg,fun x hx k hk=>?_,fun x hx k hk=>?_,List.pairwise_cons.2 ⟨fun q hq k hk hk'=>?_,h.dis⟩,fun x hx=>?_⟩
 · rcases List.mem_cons.1 hx with rfl | hx
   · exact (hF k hk).2
   · exact h1.lt x hx k hk
 · rcases List.mem_cons.1 hx with rfl | hx
   · exact .inr (Nat.le_trans h.size (hF k hk).1)
   · exact h1.over x hx k hk
 · have:=h.lt q hq k hk';have:=(hF k hk).1;omega
 · rcases List.mem_cons.1 hx with rfl | hx
   · exact hP
   · exact h1.holds x hx
theorem Sep.take (h:Sep w0 F0 w R) {r':Res} (hP:r'.P w) (hF:∀ k,r'.F k→F0 k∧k < w.heap.size) (hd:∀ q∈R,∀ k,r'.F k→¬ q.F k):Sep w0 F0 w (r' :: R) :=
 ⟨h.chg,fun x hx k hk=>by
   rcases List.mem_cons.1 hx with rfl | hx
   · exact (hF k hk).2
   · exact h.lt x hx k hk,fun x hx k hk=>by
   rcases List.mem_cons.1 hx with rfl | hx
   · exact .inl (hF k hk).1
   · exact h.over x hx k hk,List.pairwise_cons.2 ⟨hd,h.dis⟩,fun x hx=>by
   rcases List.mem_cons.1 hx with rfl | hx
   · exact hP
   · exact h.holds x hx⟩
theorem Sep.box (h:Sep w0 F0 w R) (ty:TypeId) (row:List Value):Sep w0 F0 (w.alloc (.cells row.toArray ty)) (boxR w.heap.size ty row :: R) :=
 h.push ((Below.refl _ _).alloc (Nat.le_refl _) _) (heap_alloc_new w _) fun k hk=>by cases hk;simp
theorem Sep.at_ (h:Sep w0 F0 w R) (i:Nat) {g:Nat} {ty:TypeId} {row:List Value} (hi:R[i]? = some (boxR g ty row)):w.heap[g]? = some (.cells row.toArray ty (0,0)):=h.get i hi
theorem Sep.cell (h:Sep w0 F0 w R) (i k:Nat) {g:Nat} {ty:TypeId} {row:List Value} (hi:R[i]? = some (boxR g ty row)) {v:Value} (hv:row[k]? = some v):w.cell? ⟨g,k,none⟩=some v:=by
 have h1:=h.at_ i hi
 simp only [World.cell?,h1]
 simpa using hv
theorem Sep.frozen (h:Sep w0 F0 w R) (i k:Nat) {g:Nat} {ty:TypeId} {row:List Value} (hi:R[i]? = some (boxR g ty row)):w.frozen? ⟨g,k,none⟩=false:=by
 have h1:=h.at_ i hi
 simp [World.frozen?,h1]
theorem Sep.setCell (h:Sep w0 F0 w R) (i:Nat) {g:Nat} {ty:TypeId} {row row':List Value} (hi:R[i]? = some (boxR g ty row)) (k:Nat) (v:Value) (hr:row.set k v=row'):Sep w0 F0 (w.setCell ⟨g,k,none⟩ v) (R.set i (boxR g ty row')):=by
 have h1:=h.at_ i hi
 refine h.put i hi ((Chg.refl _ _).setCell (.inl (.inl rfl)) v) ?_ fun k' hk=>⟨.inl hk,?_⟩
 · show (w.setCell ⟨g,k,none⟩ v).heap[g]? = _
   rw [World.setCell,←hr]
   simp only [Array.getElem?_modify,if_pos,h1,Option.map_some]
   simp
 · have:=h.lt _ (List.mem_of_getElem? hi) k' hk
   simpa [World.setCell] using this
theorem Sep.setRow (h:Sep w0 F0 w R) (i:Nat) {g:Nat} {ty:TypeId} {row:List Value} (hi:R[i]? = some (boxR g ty row)) (row':List Value):Sep w0 F0 (w.setRow g row'.toArray) (R.set i (boxR g ty row')):=by
 have h1:=h.at_ i hi
 refine h.put i hi ⟨rfl,rfl,rfl,by simp,fun k _ hk=>setRow_other _ _ _ _ fun e=>hk (.inl e)⟩ (setRow_heap _ _ _ _ _ _ h1) fun k' hk=>⟨.inl hk,?_⟩
 have:=h.lt _ (List.mem_of_getElem? hi) k' hk
 simpa using this
theorem Sep.row (h:Sep w0 F0 w R) {base e sz n:Nat} {v:Value} {xs:List Value} (hb:Below w.heap.size w w') (hv:w'.ownsRow base e sz v n xs) (hge:w.heap.size≤base):Sep w0 F0 w' (rowR base e sz n v xs :: R) :=
 h.push hb hv fun k hk=>by have:=hv.lt k hk;omega
theorem Sep.grown (h:Sep w0 F0 w R) (i:Nat) {base e sz n n':Nat} {v v':Value} {xs xs':List Value} (hi:R[i]? = some (rowR base e sz n v xs)) (hv:w'.ownsRow base e sz v' n' xs') (hg:w.grownBy w' v.ownBlock)
   (hn:∀ k,v'.ownBlock=some k→v.ownBlock=some k∨w.heap.size≤k):Sep w0 F0 w' (R.set i (rowR base e sz n' v' xs')) :=
 h.put i hi ⟨hg.os,hg.tape,hg.output,hg.size,fun k hk hF=>hg.block k hk fun e=>hF (.inl e.symm)⟩ hv fun k hk=>⟨hn k hk,(hv.lt k hk).2⟩
end
end Go.Proofs.YtjbabpnepjhllaaGreat
namespace Go.Proofs.YtjbabpnepjhllaaGreat
open Go.RowKit
theorem sep_load {P:Program} {o:Oper} {a:Act} {w:World} (ty:TypeId) (y:Operand) (ho:o.op=.load ty y) (ad:Addr) (hx:a.eval y=.pointer (some ad)) (cs:Array Value) (d:TypeDesc)
   (hu:P.underlying ty=some d) (hd:(match d with | .struct _ | .array _ _=>true | _=>false)=true) (hi:(P.info? ty).map (·.size)=some cs.size)
   (hc:∀ (j:Nat) (v:Value),cs.toList[j]? = some v→w.cell? (ad.add j)=some v):(execOp a.eval o).run P w=.ok (.value (.agg cs)) w:=by
 have hl:(loadCells ad cs.toList.length).run P w=.ok cs.toList.toArray w:=run_loadCells_list (P:=P) w ad cs.toList hc
 have hv:(loadVar ty ad).run P w=.ok (.agg cs) w:=by
   cases hq:P.info? ty with
   | none=>simp [hq] at hi
   | some i =>
     have hs:i.size=cs.size:=by simpa [hq] using hi
     have hagg:(isAgg ty).run P w=.ok true w:=by
       unfold isAgg
       rw [Sem.run_bind,run_underlying hu w]
       cases d <;> simp_all
     simp only [Array.length_toList,Array.toArray_toList] at hl
     simp [loadVar,Sem.run_bind,hagg,sizeOf,typeInfo,hq,hs,hl]
 unfold execOp
 simp only [ho,hx,Instr.loadAt,Instr.sureAddr,Sem.run_bind,Sem.run_pure,Result.andThen_ok,hv]
theorem sep_add (b o j:Nat):Addr.add ⟨b,o,none⟩ j=⟨b,o+j,none⟩:=by unfold Addr.add;split <;> simp_all
theorem sep_store {P:Program} {o:Oper} {a:Act} {w:World} (ty:TypeId) (x y:Operand) (ho:o.op=.store ty x y) (g:Nat) (cells:Array Value) (hx:a.eval x=.pointer (some ⟨g,0,none⟩)) (hy:a.eval y=.agg cells)
   (t:TypeId) (old:Array Value) (hg:w.heap[g]? = some (.cells old t (0,0))) (hi:(P.info? ty).map (·.size)=some cells.size) (hold:old.size=cells.size) (h1:cells.all (·.oneCell')=true) :
   (execOp a.eval o).run P w=.ok .skip (w.setRow g cells):=by
 unfold execOp
 simp only [ho,hx,hy,Instr.storeAt,Instr.sureAddr,Sem.run_bind,Sem.run_pure,Result.andThen_ok,run_storeVar_row w g t ty old cells hg hi hold h1]
section
variable {P:Program} {ops:Array Oper} {rest:List Oper} {o:Oper} {a:Act} {w w0:World} {Q:Exit→Act→World→Prop} {F0:Nat→Prop} {R:List Res}
theorem sep_val (hw:Region.wanted o (yielded ops a.tmps)=true) {v:Value} (h:(execOp a.eval o).run P w=.ok (.value v) w) (k:wpList P ops Q rest (a.put o.dst v) w):wpList P ops Q (o :: rest) a w :=
 wpList_step fun K hK=>by rw [if_pos hw];unfold Oper.wp;rw [h];exact hK _ _ k
theorem Sep.exec (h:Sep w0 F0 w R) (i:Nat) {g:Nat} {ty:TypeId} {row:List Value} (hi:R[i]? = some (boxR g ty row)) (y:Operand) (ho:o.op=.load ty y) (hx:a.eval y=.pointer (some ⟨g,0,none⟩))
   {d:TypeDesc} (hu:P.underlying ty=some d) (hd:(match d with | .struct _ | .array _ _=>true | _=>false)=true) (hs:(P.info? ty).map (·.size)=some row.toArray.size):(execOp a.eval o).run P w=.ok (.value (.agg row.toArray)) w :=
 sep_load ty y ho ⟨g,0,none⟩ hx _ _ hu hd hs fun j v hv=>by
   rw [sep_add,Nat.zero_add]
   exact h.cell i j hi (by simpa using hv)
theorem Sep.load (h:Sep w0 F0 w R) (i:Nat) {g:Nat} {ty:TypeId} {row:List Value} (hi:R[i]? = some (boxR g ty row)) (y:Operand) (ho:o.op=.load ty y) (hx:a.eval y=.pointer (some ⟨g,0,none⟩)) (hw:Region.wanted o (yielded ops a.tmps)=true)
   {d:TypeDesc} (hu:P.underlying ty=some d) (hd:(match d with | .struct _ | .array _ _=>true | _=>false)=true) (hs:(P.info? ty).map (·.size)=some row.toArray.size)
   (k:wpList P ops Q rest (a.put o.dst (.agg row.toArray)) w):wpList P ops Q (o :: rest) a w :=
 sep_val hw (h.exec i hi y ho hx hu hd hs) k
end
end Go.Proofs.YtjbabpnepjhllaaGreat
