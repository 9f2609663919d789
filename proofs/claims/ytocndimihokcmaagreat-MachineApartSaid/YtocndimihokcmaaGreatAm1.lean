/- Part 1 of a claim; what it proves stands in its last text. -/
import Derived.OrdersHeld
import Derived.WalkKit
import Derived.Lib.Hide
import Derived.Deep.QuietTactic
import Derived.BigQuiet
import Derived.Deep.RegionHeld3
import Derived.Deep.AppendLies
import Derived.WalkSpells
import Derived.Test.YtocndimihokcmaaGreatRows
import Derived.RowKit
import Derived.Laws.Bits128
import Derived.Maps.AppendAt
import Derived.Deep.Upon
namespace Go.Proofs.YtocndimihokcmaaGreat
open Go
def TDoes (P:Program) (o:Oper) (a:Act) (w:World) (K:Value→World→Prop):Prop :=
 match (execOp a.eval o).run P w with
 | .ok (.value v) w'=>K v w'
 | .ok .skip w'=>K undef w'
 | .ok (.enter f args) w'=>Calls P f args w' fun e w''=>∃ v,e=.returned v∧K v w''
 | .ok (.row r args) w'=>Rows P r args w' K
 | _=>False
theorem TDoes.mono {P:Program} {o:Oper} {a:Act} {w:World} {K K':Value→World→Prop} (h:TDoes P o a w K) (hk:∀ v w',K v w'→K' v w'):TDoes P o a w K':=by
 unfold TDoes at *
 generalize (execOp a.eval o).run P w=r at *
 cases r with
 | ok n w' =>
   cases n <;> simp only at h ⊢
   case value v=>exact hk _ _ h
   case skip=>exact hk _ _ h
   case enter f args=>exact h.mono fun e w'' ⟨v,hv,h'⟩=>⟨v,hv,hk _ _ h'⟩
   case row row args=>exact h.mono fun v w'' h'=>hk _ _ h'
 | halt x w'=>exact h
theorem TDoes.some {P:Program} {o:Oper} {a:Act} {w:World} {K:Value→World→Prop} (h:TDoes P o a w K):∃ v w',K v w':=by
 unfold TDoes at *
 generalize (execOp a.eval o).run P w=r at *
 cases r with
 | ok n w' =>
   cases n <;> simp only at h
   case value v=>exact ⟨_,_,h⟩
   case skip=>exact ⟨_,_,h⟩
   case enter f args=>obtain ⟨e,w1,fr,⟨v,_,hk⟩,_⟩:=h [];exact ⟨_,_,hk⟩
   case row row args=>obtain ⟨v,w1,hk,_⟩:=h (Frame.enter P 0 #[] .normal) [];exact ⟨_,_,hk⟩
 | halt x w'=>exact h.elim
theorem TDoes.wp {P:Program} {o:Oper} {a:Act} {w:World} {K:Value→World→Prop} {K':Act→World→Prop} {Q:Exit→Act→World→Prop} (h:TDoes P o a w K) (hk:∀ v w',K v w'→K' (a.put o.dst v) w') :
   Oper.wp P o a w K' Q:=by
 unfold TDoes at h
 unfold Oper.wp
 generalize (execOp a.eval o).run P w=r at *
 cases r with
 | ok n w' =>
   cases n <;> simp only at h
   case value v=>exact hk _ _ h
   case skip=>exact hk _ _ h
   case enter f args=>exact Calls.mono h fun e w'' ⟨v,hv,h'⟩=>by subst hv;exact hk _ _ h'
   case row row args=>exact Rows.mono h fun v w'' h'=>hk _ _ h'
 | halt x w'=>exact h.elim
theorem TDoes.congr {P:Program} {o:Oper} {a a':Act} {w:World} {K:Value→World→Prop} (h:TDoes P o a w K) (he:execOp a'.eval o=execOp a.eval o):TDoes P o a' w K:=by
 unfold TDoes at *
 rw [he]
 exact h
def direct (ops:Array Oper) (j i:Nat):Bool:=match ops[j]? with
 | some o=>o.after.any fun e=>Region.binds .any e && e.on == i
 | none=>false
def reaches (ops:Array Oper):Nat→Nat→Nat→Bool
 | 0,_,_=>false
 | f+1,j,i=>direct ops j i || match ops[j]? with
   | some o=>o.after.any fun e=>Region.binds .any e && decide (i < e.on) && reaches ops f e.on i
   | none=>false
def lastOk (ops:Array Oper):Bool:=(List.range (ops.size - 1)).all fun i=>reaches ops ops.size (ops.size - 1) i
def freeOf (ops:Array Oper) (i k:Nat):Bool:=decide (k < ops.size) && !(k == i) && !reaches ops ops.size i k
def chainOk (ops:Array Oper):List Nat→Bool
 | x :: y :: r=>decide (x < y) && reaches ops ops.size y x && chainOk ops (y :: r)
 | _=>true
def pairOk (ops:Array Oper) (T:List Nat) (i j:Nat):Bool:=direct ops j i || (T.contains i && T.contains j) || match ops[i]?,ops[j]? with
 | some x,some y=>x.apart ops y
 | _,_=>false
def textOk (ops:Array Oper) (T:List Nat):Bool :=
 Region.noSelect ops && chainOk ops T && (List.range ops.size).all fun j=>(match ops[j]? with | some o=>o.after.all fun e=>!Region.binds .any e || decide (e.on < j) | none=>false) &&
   (List.range j).all fun i=>pairOk ops T i j
def runT (P:Program) (ops:Array Oper) (T:List Nat) (S:Nat→World→Prop) (Q:Act→World→Prop):List Nat→Act→World→Prop
 | [],a,w=>Q a w
 | i :: l,a,w=>∃ o,ops[i]? = some o ∧
   ((∃ v,YieldsIf P ops (S i) o v a∧runT P ops T S Q l (a.put o.dst v) w) ∨
    (T.contains i=true∧Region.wanted o (yielded ops a.tmps)=true∧TDoes P o a w fun v w'=>(∀ k,freeOf ops i k=true→S k w')∧runT P ops T S Q l (a.put o.dst v) w'))
section
variable {P:Program} {ops:Array Oper} {T:List Nat} {S:Nat→World→Prop} {Q:Act→World→Prop}
theorem YieldsIf.same {S:World→Prop} {o:Oper} {v u:Value} {a:Act} (h:YieldsIf P ops S o v a) (h':YieldsIf P ops S o u a) {w:World} (hS:S w):v=u:=by
 rcases h with ⟨h1,h2⟩ | ⟨h1,h2⟩ <;> rcases h' with ⟨h3,h4⟩ | ⟨h3,h4⟩
 · have:=(h2 w hS).symm.trans (h4 w hS);cases this;rfl
 · rw [h1] at h3;cases h3
 · rw [h1] at h3;cases h3
 · rw [h2,h4]
theorem runT_pull {j:Nat} {oj:Oper} (hre:∀ i k,reaches ops ops.size i k=true→k < i) (hj:ops[j]? = some oj) (hjT:T.contains j=false) (hns:∀ (j:Nat) (o:Oper) cs b,ops[j]? = some o→o.op≠.select cs b) :
   ∀ (l:List Nat) (a:Act) (w:World),l.Pairwise (· < ·)→(∀ i∈l,i < ops.size)→j∈l→(∀ i∈l,i < j→∀ oi,ops[i]? = some oi→oi.apart ops oj=true)→runT P ops T S Q l a w→S j w →
     ∃ v,YieldsIf P ops (S j) oj v a∧runT P ops T S Q (l.erase j) (a.put oj.dst v) w:=by
 intro l
 induction l with
 | nil=>intro a w _ _ h;cases h
 | cons i l ih =>
   intro a w hp hsz hjl hap h hS
   obtain ⟨oi,hoi,h⟩:=h
   by_cases hij:i=j
   · subst hij
     rw [hj] at hoi
     cases hoi
     rw [List.erase_cons_head]
     rcases h with ⟨v,hy,hr⟩ | ⟨hT,_⟩
     · exact ⟨v,hy,hr⟩
     · rw [hT] at hjT;cases hjT
   · have hjl' : j ∈ l := by rcases List.mem_cons.1 hjl with h | h
                             · exact absurd h.symm hij
                             · exact h
     have hlt:i < j:=(List.pairwise_cons.1 hp).1 j hjl'
     have hapij:=hap i (List.mem_cons_self ..) hlt oi hoi
     obtain ⟨h1,h2,h3⟩:=Oper.apart_spec hapij
     have hsel:∀ cs b,oj.op≠.select cs b:=fun cs b=>hns j oj cs b hj
     have hseli:∀ cs b,oi.op≠.select cs b:=fun cs b=>hns i oi cs b hoi
     have ih':=fun a w=>ih a w (List.pairwise_cons.1 hp).2 (fun k hk=>hsz k (List.mem_cons_of_mem _ hk)) hjl' (fun k hk=>hap k (List.mem_cons_of_mem _ hk))
     have back:∀ u v,YieldsIf P ops (S j) oj v (a.put oi.dst u)→YieldsIf P ops (S j) oj v a:=fun u v hy =>
       hy.of_same (execOp_put oj hsel a oi.dst u h1).symm (wanted_put oj a oi.dst u h1).symm
     have forth:∀ u v,YieldsIf P ops (S j) oj v a→YieldsIf P ops (S j) oj v (a.put oi.dst u):=fun u v hy =>
       hy.of_same (execOp_put oj hsel a oi.dst u h1) (wanted_put oj a oi.dst u h1)
     rw [List.erase_cons_tail (by simpa using hij)]
     rcases h with ⟨u,hy,hr⟩ | ⟨hT,hw,hd⟩
     · obtain ⟨v,hv,hr'⟩:=ih' _ w hr hS
       refine ⟨v,back u v hv,oi,hoi,.inl ⟨u,hy.of_same (execOp_put oi hseli a oj.dst v h3) (wanted_put oi a oj.dst v h3),?_⟩⟩
       rw [←Act.put_comm a u v h2]
       exact hr'
     · have hfr:freeOf ops i j=true:=by
         have h1:=hsz j hjl
         have h2:reaches ops ops.size i j=false:=by
           cases hr:reaches ops ops.size i j
           · rfl
           · have:=hre i j hr;omega
         simp [freeOf,h1,h2];omega
       obtain ⟨aA,w1,hS1,hr1⟩:=hd.some
       have hS1:S j w1:=hS1 j hfr
       obtain ⟨v,hv,_⟩:=ih' _ w1 hr1 hS1
       have hva:=back aA v hv
       refine ⟨v,hva,oi,hoi,.inr ⟨hT,by rw [wanted_put oi a oj.dst v h3];exact hw,?_⟩⟩
       refine (hd.congr (execOp_put oi hseli a oj.dst v h3)).mono fun u w' ⟨hS',hr'⟩=>⟨hS',?_⟩
       have hS'':S j w':=hS' j hfr
       obtain ⟨v',hv',hr''⟩:=ih' _ w' hr' hS''
       obtain rfl:=YieldsIf.same hva (back u v' hv') hS
       rw [←Act.put_comm a u v h2]
       exact hr''
theorem runT_pullT {j:Nat} {oj:Oper} (hj:ops[j]? = some oj) (hns:∀ (j:Nat) (o:Oper) cs b,ops[j]? = some o→o.op≠.select cs b) :
   ∀ (l:List Nat) (a:Act) (w:World),l.Pairwise (· < ·)→j∈l→(∀ i∈l,i < j→T.contains i=false∧∀ oi,ops[i]? = some oi→oi.apart ops oj=true)→runT P ops T S Q l a w→S j w→∀ L:List Nat,(∀ k∈L,k≠j→freeOf ops j k=true)→(∀ k∈L,S k w) →
     wpOp P ops (fun _ _ _=>False) j (fun a' w'=>(∀ k∈L,k≠j→S k w')∧runT P ops T S Q (l.erase j) a' w') a w:=by
 intro l
 induction l with
 | nil=>intro a w _ h;cases h
 | cons i l ih =>
   intro a w hp hjl hap h hS L hL hSL
   obtain ⟨oi,hoi,h⟩:=h
   by_cases hij:i=j
   · subst hij
     rw [hj] at hoi
     cases hoi
     rw [List.erase_cons_head]
     rcases h with ⟨v,hy,hr⟩ | ⟨hT,hw,hd⟩
     · exact hy.wpOp hj hS ⟨fun k hk _=>hSL k hk,hr⟩
     · unfold wpOp
       simp only [hj,hw,if_true]
       exact .inl (hd.wp fun v w' h=>⟨fun k hk hne=>h.1 k (hL k hk hne),h.2⟩)
   · have hjl' : j ∈ l := by rcases List.mem_cons.1 hjl with h | h
                             · exact absurd h.symm hij
                             · exact h
     have hlt:i < j:=(List.pairwise_cons.1 hp).1 j hjl'
     obtain ⟨hiT,hapij⟩:=hap i (List.mem_cons_self ..) hlt
     have hapij:=hapij oi hoi
     have hsel:∀ cs b,oj.op≠.select cs b:=fun cs b=>hns j oj cs b hj
     have hseli:∀ cs b,oi.op≠.select cs b:=fun cs b=>hns i oi cs b hoi
     rw [List.erase_cons_tail (by simpa using hij)]
     rcases h with ⟨u,hy,hr⟩ | ⟨hT,_⟩
     · have h1:=ih _ w (List.pairwise_cons.1 hp).2 hjl' (fun k hk=>hap k (List.mem_cons_of_mem _ hk)) hr hS L hL hSL
       have h2:=wpOp_putIf hj hapij hseli hsel (fun _ _ _ h=>h) hy h1
       exact wpOp_mono (fun a' w' ⟨hy',hS',hr'⟩=>⟨hS',oi,hoi,.inl ⟨u,hy',hr'⟩⟩) h2
     · rw [hT] at hiT;cases hiT
theorem wpOp_weaken {Q':Exit→Act→World→Prop} {j:Nat} {K:Act→World→Prop} {a:Act} {w:World} (h:wpOp P ops (fun _ _ _=>False) j K a w):wpOp P ops Q' j K a w:=by
 unfold wpOp at *
 split
 · rename_i hn;simpa [hn] using h
 · rename_i o ho
   simp only [ho] at h
   split
   · rename_i hw
     simp only [hw,if_true] at h
     rcases h with h | ⟨_,a0,w0,hf⟩
     · refine .inl ?_
       unfold Oper.wp at *
       generalize (execOp a.eval o).run P w=r at *
       cases r with
       | ok n w' =>
         cases n <;> simp only [Oper.upon] at h ⊢
         case value=>exact h
         case skip=>exact h
         case defer=>exact h
         case enter f args =>
           exact Calls.mono h fun e w'' he=>by
             cases e with
             | returned u=>exact he
             | panicked c=>exact he.elim
             | outgrown=>obtain ⟨_,_,h⟩:=he;exact h.elim
         case row=>exact h
       | halt x w'=>cases x <;> simp only [Oper.upon] at h
     · exact hf.elim
   · rename_i hw;simpa [hw] using h
def Closed (ops:Array Oper) (listed:Array Bool):Prop:=∀ j o,ops[j]? = some o→listed.getD j false=true→∀ e∈o.after,Region.binds .any e=true→listed.getD e.on false=true
theorem direct_iff {j i:Nat} {o:Oper} (ho:ops[j]? = some o):direct ops j i=true↔∃ e∈o.after,Region.binds .any e=true∧e.on=i:=by
 unfold direct
 simp only [ho,Array.any_eq_true',Bool.and_eq_true,beq_iff_eq]
theorem reaches_listed {listed:Array Bool} (hc:Closed ops listed):∀ (f j i:Nat),reaches ops f j i=true→(∀ k,direct ops j k=true→listed.getD k false=true)→listed.getD i false=true
 | 0,_,_,h,_=>by cases h
 | f+1,j,i,h,hd=>by
   simp only [reaches,Bool.or_eq_true] at h
   rcases h with h | h
   · exact hd i h
   · cases ho:ops[j]? with
     | none=>simp [ho] at h
     | some o =>
       simp only [ho,Array.any_eq_true',Bool.and_eq_true,decide_eq_true_eq] at h
       obtain ⟨e,he,⟨hb,_⟩,hr⟩:=h
       have hl:=hd e.on ((direct_iff ho).2 ⟨e,he,hb,rfl⟩)
       refine reaches_listed hc f e.on i hr fun k hk=>?_
       cases ho':ops[e.on]? with
       | none=>simp [direct,ho'] at hk
       | some o' =>
         obtain ⟨e',he',hb',rfl⟩:=(direct_iff ho').1 hk
         exact hc e.on o' ho' hl e' he' hb'
theorem chain_listed {listed:Array Bool} (hc:Closed ops listed):∀ (T:List Nat),chainOk ops T=true→∀ j∈T,(∀ i,direct ops j i=true→listed.getD i false=true)→∀ i∈T,i < j→listed.getD i false=true
 | [],_,j,hj=>by cases hj
 | [x],_,j,hj=>fun _ i hi hlt=>by simp at hj hi;omega
 | x :: y :: r,hch,j,hj=>fun hd i hi hlt=>by
   have sorted:∀ (l:List Nat) (x:Nat),chainOk ops (x :: l)=true→∀ z∈l,x < z:=by
     intro l
     induction l with
     | nil=>intro x _ z hz;cases hz
     | cons q l ihl =>
       intro x hx z hz
       simp only [chainOk,Bool.and_eq_true,decide_eq_true_eq] at hx
       rcases List.mem_cons.1 hz with rfl | hz
       · exact hx.1.1
       · have:=ihl q hx.2 z hz;omega
   have hall:=hch
   simp only [chainOk,Bool.and_eq_true,decide_eq_true_eq] at hch
   have ih:=chain_listed hc (y :: r) hch.2
   rcases List.mem_cons.1 hj with rfl | hj'
   · rcases List.mem_cons.1 hi with rfl | hi
     · omega
     · have:=sorted _ _ hall i hi;omega
   · rcases List.mem_cons.1 hi with rfl | hi
     · have hpre:∀ k,direct ops y k=true→listed.getD k false=true:=by
         rcases List.mem_cons.1 hj' with h | h
         · rw [←h];exact hd
         · have hy:=ih j hj' hd y (List.mem_cons_self ..) (sorted _ _ hch.2 j h)
           intro k hk
           cases ho:ops[y]? with
           | none=>simp [direct,ho] at hk
           | some o =>
             obtain ⟨e,he,hb,rfl⟩:=(direct_iff ho).1 hk
             exact hc y o ho hy e he hb
       exact reaches_listed hc _ _ _ hch.1.2 hpre
     · exact ih j hj' hd i hi hlt
theorem reaches_lt (hlt:∀ (j:Nat) (o:Oper),ops[j]? = some o→∀ e∈o.after,Region.binds .any e=true→e.on < j):∀ (f i k:Nat),reaches ops f i k=true→k < i
 | 0,_,_,h=>by cases h
 | f+1,i,k,h=>by
   simp only [reaches,Bool.or_eq_true] at h
   cases ho:ops[i]? with
   | none=>simp [ho,direct] at h
   | some o =>
     rcases h with h | h
     · obtain ⟨e,he,hb,rfl⟩:=(direct_iff ho).1 h
       exact hlt i o ho e he hb
     · simp only [ho,Array.any_eq_true',Bool.and_eq_true,decide_eq_true_eq] at h
       obtain ⟨e,he,⟨hb,hk⟩,_⟩:=h
       have:=hlt i o ho e he hb
       omega
theorem all_orders (hok:textOk ops T=true) {Q':Exit→Act→World→Prop} (hQ:∀ a w,Q a w→Q' .normal a w) :
   ∀ (l:List Nat) (listed:Array Bool) (a:Act) (w:World),listed.size=ops.size→Closed ops listed→l.Pairwise (· < ·)→(∀ k,k∈l↔k < ops.size∧listed.getD k true=false) →
     runT P ops T S Q l a w→(∀ k∈l,S k w)→wpAny P .any ops Q' l.length listed a w:=by
 simp only [textOk,Bool.and_eq_true,List.all_eq_true,List.mem_range] at hok
 obtain ⟨⟨hns,hch⟩,hall⟩:=hok
 have hsel:=Region.noSelect_spec hns
 have hre:∀ i k,reaches ops ops.size i k=true→k < i:=reaches_lt (fun j o ho e he hb=>by
   have hjs:j < ops.size:=by
     rcases Nat.lt_or_ge j ops.size with h | h
     · exact h
     · rw [Array.getElem?_eq_none h] at ho;cases ho
   have hb':=(hall j hjs).1
   rw [ho] at hb'
   have:=(Array.all_eq_true_iff_forall_mem.1 hb') e he
   rw [hb] at this
   simpa using this) _
 intro l
 generalize hn:l.length=n
 induction n generalizing l with
 | zero =>
   intro listed a w hsz hc hp hl h _
   obtain rfl:=List.eq_nil_of_length_eq_zero hn
   refine ⟨?_,hQ _ _ h⟩
   refine List.eq_nil_iff_forall_not_mem.2 fun k hk=>?_
   obtain ⟨h1,o,ho,_⟩:=mem_ready.1 hk
   have:k < ops.size:=by
     rcases Nat.lt_or_ge k ops.size with h | h
     · exact h
     · rw [Array.getElem?_eq_none h] at ho;cases ho
   exact absurd ((hl k).2 ⟨this,h1⟩) (by simp)
 | succ n ih =>
   intro listed a w hsz hc hp hl h hS
   have hne:l≠[]:=by intro e;rw [e] at hn;cases hn
   refine ⟨fun hr=>?_,fun j hj=>?_⟩
   · exfalso
     obtain ⟨x,l',rfl⟩:=List.exists_cons_of_ne_nil hne
     have hx:=(hl x).1 (List.mem_cons_self ..)
     have:x∈Region.ready .any ops listed:=by
       have ho:ops[x]? = some (ops[x]'hx.1):=Array.getElem?_eq_getElem hx.1
       refine mem_ready.2 ⟨hx.2,_,ho,fun e he hb=>?_⟩
       have hb':=(hall x hx.1).1
       rw [ho] at hb'
       have hlt:e.on < x:=by
         have:=(Array.all_eq_true_iff_forall_mem.1 hb') e he
         rw [hb] at this
         simpa using this
       cases hg:listed.getD e.on false
       · have hm:e.on∈x :: l':=(hl e.on).2 ⟨by omega,by
           have hlt':e.on < listed.size:=by omega
           simp [hlt'] at hg ⊢;exact hg⟩
         rcases List.mem_cons.1 hm with h | h
         · omega
         · have:=(List.pairwise_cons.1 hp).1 _ h;omega
       · rfl
     rw [hr] at this
     cases this
   · obtain ⟨hjun,oj,hoj,hall'⟩:=mem_ready.1 hj
     have hjs:j < ops.size:=by
       rcases Nat.lt_or_ge j ops.size with h | h
       · exact h
       · rw [Array.getElem?_eq_none h] at hoj;cases hoj
     have hjl:j∈l:=(hl j).2 ⟨hjs,hjun⟩
     have unl:∀ i∈l,listed.getD i false=false:=fun i hi=>by
       have:=(hl i).1 hi
       have hlt':i < listed.size:=by omega
       simpa [hlt'] using this.2
     have hdir:∀ i,direct ops j i=true→listed.getD i false=true:=fun i hi=>by
       obtain ⟨e,he,hb,rfl⟩:=(direct_iff hoj).1 hi
       exact hall' e he hb
     have hpair:∀ i∈l,i < j→direct ops j i=false:=fun i hi _=>by
       cases hd:direct ops j i
       · rfl
       · have:=hdir i hd;rw [unl i hi] at this;cases this
     have hTT:∀ i∈l,i < j→T.contains j=true→T.contains i=false:=fun i hi hlt hT=>by
       cases hTi:T.contains i
       · rfl
       · have:=chain_listed hc T hch j (by simpa using hT) hdir i (by simpa using hTi) hlt
         rw [unl i hi] at this;cases this
     have hap:∀ i∈l,i < j→∀ oi,ops[i]? = some oi→oi.apart ops oj=true:=fun i hi hlt oi hoi=>by
       have:=(hall j hjs).2 i hlt
       simp only [pairOk,hpair i hi hlt,hoi,hoj,Bool.false_or,Bool.or_eq_true,Bool.and_eq_true] at this
       rcases this with ⟨h1,h2⟩ | h
       · rw [hTT i hi hlt h2] at h1;cases h1
       · exact h
     have hfree:∀ k∈l,k≠j→freeOf ops j k=true:=fun k hk hne=>by
       have h1:=((hl k).1 hk).1
       have h2:reaches ops ops.size j k=false:=by
         cases hr:reaches ops ops.size j k
         · rfl
         · have h3:=reaches_listed hc _ _ _ hr hdir
           rw [unl k hk] at h3;cases h3
       simp [freeOf,h1,h2,hne]
     have main:wpOp P ops (fun _ _ _=>False) j (fun a' w'=>(∀ k∈l,k≠j→S k w')∧runT P ops T S Q (l.erase j) a' w') a w:=by
       cases hjT:T.contains j
       · obtain ⟨v,hy,hr⟩:=runT_pull hre hoj hjT hsel l a w hp (fun i hi=>((hl i).1 hi).1) hjl hap h (hS j hjl)
         exact hy.wpOp hoj (hS j hjl) ⟨fun k hk _=>hS k hk,hr⟩
       · exact runT_pullT hoj hsel l a w hp hjl (fun i hi hlt=>⟨hTT i hi hlt hjT,hap i hi hlt⟩) h (hS j hjl) l hfree hS
     refine wpOp_mono (fun a' w' ⟨hS',hr'⟩=>?_) (wpOp_weaken main)
     have hnd:=hp.imp (fun h=>Nat.ne_of_lt h)
     refine ih (l.erase j) (by rw [List.length_erase_of_mem hjl];omega) (listed.setIfInBounds j true) a' w' (by simpa using hsz) ?_ (hp.sublist (List.erase_sublist ..)) ?_ hr' ?_
     · intro k o hk hlk e he hb
       by_cases hkj:j=k
       · subst hkj
         rw [hoj] at hk
         cases hk
         exact getD_set_true (hall' e he hb)
       · rw [getD_set_ne false hkj] at hlk
         exact getD_set_true (hc k o hk hlk e he hb)
     · intro k
       rw [List.Nodup.mem_erase_iff hnd,hl k]
       by_cases hkj:j=k
       · subst hkj
         have hlt':j < listed.size:=by omega
         simp [hlt']
       · rw [getD_set_ne true hkj]
         constructor
         · rintro ⟨_,h⟩;exact h
         · intro h;exact ⟨Ne.symm hkj,h⟩
     · intro k hk
       have hx:=(List.Nodup.mem_erase_iff hnd).1 hk
       exact hS' k hx.2 hx.1
theorem wp_region_text {id:Nat} {a:Act} {w:World} {Q':Exit→Act→World→Prop} (T:List Nat) (S:Nat→World→Prop) (hm:P.follows .mixedOrders=true) (hok:textOk ops T=true) (hS:∀ k,k < ops.size→S k w.drew)
   (h:runT P ops T S (Q' .normal) (List.range ops.size) a w.drew):(Code.region id ops true).wp P Q' a w:=by
 refine wp_region_any hm ?_
 have:=all_orders hok (Q':=Q') (fun _ _ h=>h) (List.range ops.size) (Array.replicate ops.size false) a w.drew (by simp) ?_ List.pairwise_lt_range ?_ h (fun k hk=>hS k (by simpa using hk))
 · simpa using this
 · intro j o ho hl
   have hlt:j < ops.size:=by
     rcases Nat.lt_or_ge j ops.size with h | h
     · exact h
     · rw [Array.getElem?_eq_none h] at ho;cases ho
   simp [hlt] at hl
 · intro k
   simp only [List.mem_range]
   constructor
   · intro h;exact ⟨h,by simp [h]⟩
   · exact fun h=>h.1
def isT (o:Oper):Bool:=match o.op with
 | .call c=>match c.callee with
   | .builtin .len=>false
   | .builtin .cap=>false
   | _=>true
 | .store .. | .alloc .. | .box .. | .buildSlice .. | .mapUpdate .. | .makeMap .. | .makeSlice .. | .insert .. | .makeChan .. | .next .. | .range .. => true
 | .convert .. => false
 | _=>false
def tOps (ops:Array Oper):List Nat:=(List.range ops.size).filter fun i=>match ops[i]? with | some o=>isT o | none=>false
def runL (P:Program) (ops:Array Oper) (S:World→Prop) (Q:Act→World→Prop):List Oper→Act→World→Prop
 | [],a,w=>Q a w
 | o :: l,a,w =>
   (∃ v,YieldsIf P ops S o v a∧runL P ops S Q l (a.put o.dst v) w) ∨
    (isT o=true∧Region.wanted o (yielded ops a.tmps)=true∧TDoes P o a w fun v w'=>((l=[]∧lastOk ops=true)∨S w')∧runL P ops S Q l (a.put o.dst v) w')
theorem runT_of_L {S:World→Prop}:∀ (l:List Oper) (i:Nat) (a:Act) (w:World),i+l.length=ops.size→(∀ k,l[k]? = ops[i+k]?)→runL P ops S Q l a w→runT P ops (tOps ops) (fun _=>S) Q (List.range' i l.length) a w
 | [],i,a,w,_,_,h=>h
 | o :: l,i,a,w,hn,hk,h=>by
   have ho:ops[i]? = some o:=by have:=hk 0;simpa using this.symm
   have ih:=fun a w=>runT_of_L (S:=S) l (i+1) a w (by simp at hn;omega) (fun k=>by have:=hk (k+1);simpa [Nat.add_assoc,Nat.add_comm 1 k] using this)
   rw [List.length_cons,List.range'_succ]
   refine ⟨o,ho,?_⟩
   rcases h with ⟨v,hy,hr⟩ | ⟨hT,hw,hd⟩
   · exact .inl ⟨v,hy,ih _ _ hr⟩
   · refine .inr ⟨?_,hw,hd.mono fun v w' ⟨h1,h2⟩=>⟨fun k hk=>?_,ih _ _ h2⟩⟩
     rotate_left
     · rcases h1 with ⟨hl,hlo⟩ | h1
       · exfalso
         rw [hl] at hn
         simp only [List.length_cons,List.length_nil] at hn
         simp only [freeOf,Bool.and_eq_true,decide_eq_true_eq,Bool.not_eq_true',beq_eq_false_iff_ne] at hk
         simp only [lastOk,List.all_eq_true,List.mem_range] at hlo
         have:=hlo k (by omega)
         rw [show ops.size - 1=i from by omega,hk.2] at this
         cases this
       · exact h1
     simp only [tOps,List.contains_eq_mem,List.mem_filter,List.mem_range,decide_eq_true_eq]
     exact ⟨by simp at hn;omega,by rw [ho];exact hT⟩
theorem wp_region_lines {id:Nat} {a:Act} {w:World} {Q':Exit→Act→World→Prop} (S:World→Prop) (hm:P.follows .mixedOrders=true) (hok:textOk ops (tOps ops)=true) (hS:S w.drew)
   (h:runL P ops S (Q' .normal) ops.toList a w.drew):(Code.region id ops true).wp P Q' a w:=by
 refine wp_region_text (tOps ops) (fun _=>S) hm hok (fun _ _=>hS) ?_
 have:=runT_of_L (S:=S) ops.toList 0 a w.drew (by simp) (fun k=>by simp) h
 rw [List.range_eq_range']
 simpa using this
theorem runL_nil {S:World→Prop} {a:Act} {w:World} (h:Q a w):runL P ops S Q [] a w:=h
theorem runL_no {S:World→Prop} {o:Oper} {l:List Oper} {a:Act} {w:World} (hw:Region.wanted o (yielded ops a.tmps)=false) (h:runL P ops S Q l (a.put o.dst undef) w):runL P ops S Q (o :: l) a w :=
 .inl ⟨undef,.inr ⟨hw,rfl⟩,h⟩
theorem runL_val {S:World→Prop} {o:Oper} {l:List Oper} {a:Act} {w:World} {v:Value} (hw:Region.wanted o (yielded ops a.tmps)=true) (hv:∀ w,S w→(execOp a.eval o).run P w=.ok (.value v) w)
   (h:runL P ops S Q l (a.put o.dst v) w):runL P ops S Q (o :: l) a w :=
 .inl ⟨v,.inl ⟨hw,hv⟩,h⟩
theorem runL_call {S:World→Prop} {o:Oper} {l:List Oper} {a:Act} {w w1:World} {f:FuncId} {args:Array Value} (hT:isT o=true) (hw:Region.wanted o (yielded ops a.tmps)=true)
   (hr:(execOp a.eval o).run P w=.ok (.enter f args) w1)
   (h:Calls P f args w1 fun e w'=>∃ v,e=.returned v∧((l=[]∧lastOk ops=true)∨S w')∧runL P ops S Q l (a.put o.dst v) w'):runL P ops S Q (o :: l) a w:=by
 refine .inr ⟨hT,hw,?_⟩
 unfold TDoes
 rw [hr]
 exact h
theorem runL_op {S:World→Prop} {o:Oper} {l:List Oper} {a:Act} {w w1:World} {v:Value} (hT:isT o=true) (hw:Region.wanted o (yielded ops a.tmps)=true)
   (hr:(execOp a.eval o).run P w=.ok (.value v) w1) (hS:(l=[]∧lastOk ops=true)∨S w1) (h:runL P ops S Q l (a.put o.dst v) w1):runL P ops S Q (o :: l) a w:=by
 refine .inr ⟨hT,hw,?_⟩
 unfold TDoes
 rw [hr]
 exact ⟨hS,h⟩
theorem runL_skip {S:World→Prop} {o:Oper} {l:List Oper} {a:Act} {w w1:World} (hT:isT o=true) (hw:Region.wanted o (yielded ops a.tmps)=true)
   (hr:(execOp a.eval o).run P w=.ok .skip w1) (hS:(l=[]∧lastOk ops=true)∨S w1) (h:runL P ops S Q l (a.put o.dst undef) w1):runL P ops S Q (o :: l) a w:=by
 refine .inr ⟨hT,hw,?_⟩
 unfold TDoes
 rw [hr]
 exact ⟨hS,h⟩
def runK (P:Program) (ops:Array Oper) (S:Nat→World→Prop) (Q:Act→World→Prop):Nat→List Oper→Act→World→Prop
 | _,[],a,w=>Q a w
 | i,o :: l,a,w =>
   (∃ v,YieldsIf P ops (S i) o v a∧runK P ops S Q (i+1) l (a.put o.dst v) w) ∨
    (isT o=true∧Region.wanted o (yielded ops a.tmps)=true∧TDoes P o a w fun v w'=>(∀ k,freeOf ops i k=true→S k w')∧runK P ops S Q (i+1) l (a.put o.dst v) w')
theorem runT_of_K:∀ (l:List Oper) (i:Nat) (a:Act) (w:World),i+l.length=ops.size→(∀ k,l[k]? = ops[i+k]?)→runK P ops S Q i l a w→runT P ops (tOps ops) S Q (List.range' i l.length) a w
 | [],i,a,w,_,_,h=>h
 | o :: l,i,a,w,hn,hk,h=>by
   have ho:ops[i]? = some o:=by have:=hk 0;simpa using this.symm
   have ih:=fun a w=>runT_of_K l (i+1) a w (by simp at hn;omega) (fun k=>by have:=hk (k+1);simpa [Nat.add_assoc,Nat.add_comm 1 k] using this)
   rw [List.length_cons,List.range'_succ]
   refine ⟨o,ho,?_⟩
   rcases h with ⟨v,hy,hr⟩ | ⟨hT,hw,hd⟩
   · exact .inl ⟨v,hy,ih _ _ hr⟩
   · refine .inr ⟨?_,hw,hd.mono fun v w' ⟨h1,h2⟩=>⟨h1,ih _ _ h2⟩⟩
     simp only [tOps,List.contains_eq_mem,List.mem_filter,List.mem_range,decide_eq_true_eq]
     exact ⟨by simp at hn;omega,by rw [ho];exact hT⟩
theorem wp_region_stages {id:Nat} {a:Act} {w:World} {Q':Exit→Act→World→Prop} (S:Nat→World→Prop) (hm:P.follows .mixedOrders=true) (hok:textOk ops (tOps ops)=true) (hS:∀ k,S k w.drew)
   (h:runK P ops S (Q' .normal) 0 ops.toList a w.drew):(Code.region id ops true).wp P Q' a w:=by
 refine wp_region_text (tOps ops) S hm hok (fun k _=>hS k) ?_
 have:=runT_of_K ops.toList 0 a w.drew (by simp) (fun k=>by simp) h
 rw [List.range_eq_range']
 simpa using this
theorem runK_nil {i:Nat} {a:Act} {w:World} (h:Q a w):runK P ops S Q i [] a w:=h
theorem runK_no {i:Nat} {o:Oper} {l:List Oper} {a:Act} {w:World} (hw:Region.wanted o (yielded ops a.tmps)=false) (h:runK P ops S Q (i+1) l (a.put o.dst undef) w):runK P ops S Q i (o :: l) a w :=
 .inl ⟨undef,.inr ⟨hw,rfl⟩,h⟩
theorem runK_val {i:Nat} {o:Oper} {l:List Oper} {a:Act} {w:World} {v:Value} (hw:Region.wanted o (yielded ops a.tmps)=true) (hv:∀ w,S i w→(execOp a.eval o).run P w=.ok (.value v) w)
   (h:runK P ops S Q (i+1) l (a.put o.dst v) w):runK P ops S Q i (o :: l) a w :=
 .inl ⟨v,.inl ⟨hw,hv⟩,h⟩
theorem runK_call {i:Nat} {o:Oper} {l:List Oper} {a:Act} {w w1:World} {f:FuncId} {args:Array Value} (hT:isT o=true) (hw:Region.wanted o (yielded ops a.tmps)=true)
   (hr:(execOp a.eval o).run P w=.ok (.enter f args) w1)
   (h:Calls P f args w1 fun e w'=>∃ v,e=.returned v∧(∀ k,freeOf ops i k=true→S k w')∧runK P ops S Q (i+1) l (a.put o.dst v) w'):runK P ops S Q i (o :: l) a w:=by
 refine .inr ⟨hT,hw,?_⟩
 unfold TDoes
 rw [hr]
 exact h
theorem runK_skip {i:Nat} {o:Oper} {l:List Oper} {a:Act} {w w1:World} (hT:isT o=true) (hw:Region.wanted o (yielded ops a.tmps)=true)
   (hr:(execOp a.eval o).run P w=.ok .skip w1) (hS:∀ k,freeOf ops i k=true→S k w1) (h:runK P ops S Q (i+1) l (a.put o.dst undef) w1):runK P ops S Q i (o :: l) a w:=by
 refine .inr ⟨hT,hw,?_⟩
 unfold TDoes
 rw [hr]
 exact ⟨hS,h⟩
theorem free_crit {i:Nat} {C:Nat→Bool} (h:((List.range ops.size).all fun k=>!freeOf ops i k || !C k)=true):∀ k,freeOf ops i k=true→C k=true→False:=by
 intro k hk hc
 have hks:k < ops.size:=by simp only [freeOf,Bool.and_eq_true,decide_eq_true_eq] at hk;exact hk.1.1
 have:=(List.all_eq_true.1 h) k (List.mem_range.2 hks)
 rw [hk,hc] at this
 cases this
end
end Go.Proofs.YtocndimihokcmaaGreat
namespace Go.Proofs.YtocndimihokcmaaGreat
open Go.RowKit
theorem Lh{p:Prop}(h:p):Hid p:=Lib.hid h
theorem ret_int {k:IntKind} {a b:Int} (h:a=b):Ending.returned (.int k a)=.returned (.int k b):=by rw [h]
theorem ret_bool {a b:Bool} (h:a=b):Ending.returned (.bool a)=.returned (.bool b):=by rw [h]
theorem bcell {W w:World} (h:Below W.heap.size W w):∀ b o,b < W.heap.size→w.cell? ⟨b,o,none⟩=W.cell? ⟨b,o,none⟩:=fun _ _ hb=>h.cell hb
theorem boxed (w:World) (cs:Array Value) (t:Nat):∃ W,W=w.alloc (.cells cs t)∧Below w.heap.size w W∧W.heap.size=w.heap.size+1∧(∀ i,W.cell? ⟨w.heap.size,i,none⟩=cs[i]?)∧(∀ b o,b < w.heap.size→W.cell? ⟨b,o,none⟩=w.cell? ⟨b,o,none⟩) :=
 ⟨_,rfl,(Below.refl _ _).alloc (Nat.le_refl _) _,by simp,fun i=>by rw [World.cell?_alloc_at _ _ _ _ rfl],fun b o h=>((Below.refl w.heap.size w).alloc (Nat.le_refl _) _).cell h⟩
def SameOn (F:Nat→Prop) (w w':World):Prop:=∀ k,F k→w'.heap[k]? = w.heap[k]?
theorem SameOn.refl (F:Nat→Prop) (w:World):SameOn F w w:=fun _ _=>rfl
theorem SameOn.trans {F:Nat→Prop} {a b c:World} (h:SameOn F a b) (h':SameOn F b c):SameOn F a c:=fun k hk=>(h' k hk).trans (h k hk)
theorem SameOn.mono {F G:Nat→Prop} {a b:World} (h:SameOn F a b) (hg:∀ k,G k→F k):SameOn G a b:=fun k hk=>h k (hg k hk)
theorem SameOn.of_below {F:Nat→Prop} {B:Nat} {a b:World} (h:Below B a b) (hF:∀ k,F k→k < B):SameOn F a b:=fun k hk=>h.block k (hF k hk)
def Rows (w:World) (F:Nat→Prop) (sz:Nat) (v:Value) (rows:List (List Value)):Prop :=
 ∃ A c,v=.slice A rows.length c∧rows.length≤c∧(∀ r∈rows,r.length=sz) ∧
   (rows≠[]→∃ b off,A=some ⟨b,off,none⟩∧F b∧∀ (i j:Nat) (r:List Value) (u:Value),rows[i]? = some r→r[j]? = some u→w.cell? ⟨b,off+i*sz+j,none⟩=some u)
theorem Rows.keep {w w':World} {F:Nat→Prop} {sz:Nat} {v:Value} {rows:List (List Value)} (h:Rows w F sz v rows) (hk:SameOn F w w'):Rows w' F sz v rows:=by
 obtain ⟨A,c,hv,hc,hl,hh⟩:=h
 refine ⟨A,c,hv,hc,hl,fun hne=>?_⟩
 obtain ⟨b,off,hA,hb,hcell⟩:=hh hne
 exact ⟨b,off,hA,hb,fun i j r u hr hu=>(World.cell?_of_block (w:=w) (hk b hb)).trans (hcell i j r u hr hu)⟩
theorem Rows.mono {w:World} {F G:Nat→Prop} {sz:Nat} {v:Value} {rows:List (List Value)} (h:Rows w F sz v rows) (hk:∀ k,F k→G k):Rows w G sz v rows:=by
 obtain ⟨A,c,hv,hc,hl,hh⟩:=h
 refine ⟨A,c,hv,hc,hl,fun hne=>?_⟩
 obtain ⟨b,off,hA,hb,hcell⟩:=hh hne
 exact ⟨b,off,hA,hk _ hb,hcell⟩
def byteV (x:UInt8):Value:=.int .u8 x.toNat
def BytesAt (w:World) (F:Nat→Prop) (v:Value) (l:List UInt8):Prop:=Rows w F 1 v (l.map fun x=>[byteV x])
theorem BytesAt.keep {w w':World} {F:Nat→Prop} {v:Value} {l:List UInt8} (h:BytesAt w F v l) (hk:SameOn F w w'):BytesAt w' F v l:=Rows.keep h hk
theorem BytesAt.mono {w:World} {F G:Nat→Prop} {v:Value} {l:List UInt8} (h:BytesAt w F v l) (hk:∀ k,F k→G k):BytesAt w G v l:=Rows.mono h hk
structure Reg where
 base:Nat
 bytes:List UInt8
 write:Bool
structure Ent where
 key:Nat
 ad:Option Addr
 n:Nat
 c:Nat
 wr:Bool
def entRow (x:Ent):List Value:=[.int .u64 x.key,.slice x.ad x.n x.c,.bool x.wr]
structure EntSrc (w:World) (F:Nat→Prop) (r:Reg) (e:Ent):Prop where
 key:e.key=r.base
 n:e.n=r.bytes.length
 wr:e.wr=r.write
 bytes:BytesAt w F (.slice e.ad e.n e.c) r.bytes
 base64:r.base < 18446744073709551616
 len:r.bytes.length≤9223372036854775807
theorem EntSrc.keep {w w':World} {F:Nat→Prop} {r:Reg} {e:Ent} (h:EntSrc w F r e) (hk:SameOn F w w'):EntSrc w' F r e:=⟨h.key,h.n,h.wr,h.bytes.keep hk,h.base64,h.len⟩
theorem EntSrc.mono {w:World} {F G:Nat→Prop} {r:Reg} {e:Ent} (h:EntSrc w F r e) (hk:∀ k,F k→G k):EntSrc w G r e:=⟨h.key,h.n,h.wr,h.bytes.mono hk,h.base64,h.len⟩
def RegsAt (w:World) (F:Nat→Prop) (v:Value) (l:List Reg):Prop :=
 ∃ P:List (Reg×Ent),P.map (·.1)=l∧Rows w F 3 v (P.map fun x=>entRow x.2)∧∀ x∈P,EntSrc w F x.1 x.2
theorem RegsAt.take {w:World} {F:Nat→Prop} {A:Option Addr} {n c:Nat} {l:List Reg} (h:RegsAt w F (.slice A n c) l) {k:Nat} (hk:k≤n):RegsAt w F (.slice A k c) (l.take k):=by
 obtain ⟨P,hP,⟨A1,c1,hv,hc1,hl,hne⟩,hs⟩:=h
 cases hv
 simp only [List.length_map] at hk hc1
 have hkl:(P.take k).length=k:=by simp;omega
 refine ⟨P.take k,by rw [←hP,List.map_take],⟨A,c,by simp [hk],by simp;omega,fun r hr=>hl r ?_,fun hne'=>?_⟩,fun x hx=>hs x (List.mem_of_mem_take hx)⟩
 · rw [List.map_take] at hr;exact List.mem_of_mem_take hr
 · obtain ⟨b,off,hA,hF,hc⟩:=hne (fun e=>hne' (by rw [List.map_take,e];simp))
   refine ⟨b,off,hA,hF,fun i j r u hr hu=>hc i j r u ?_ hu⟩
   rw [List.map_take,List.getElem?_take] at hr
   split at hr
   · exact hr
   · cases hr
theorem RegsAt.len {w:World} {F:Nat→Prop} {A:Option Addr} {n c:Nat} {l:List Reg} (h:RegsAt w F (.slice A n c) l):n=l.length∧n≤c:=by
 obtain ⟨P,hP,⟨A1,c1,hv,hc1,hl,hne⟩,hs⟩:=h
 cases hv
 rw [←hP]
 exact ⟨by simp,hc1⟩
theorem RegsAt.form {w:World} {F:Nat→Prop} {v:Value} {l:List Reg} (h:RegsAt w F v l):∃ A c,v=.slice A l.length c∧l.length≤c:=by
 obtain ⟨P,hP,⟨A1,c1,hv,hc1,hl,hne⟩,hs⟩:=h
 rw [←hP]
 exact ⟨A1,c1,by rw [hv];simp,by simpa using hc1⟩
theorem RegsAt.at_ {w:World} {F:Nat→Prop} {A:Option Addr} {n c:Nat} {l:List Reg} (h:RegsAt w F (.slice A n c) l) {k:Nat} {r:Reg} (hk:l[k]? = some r) :
   ∃ b off A' c',A=some ⟨b,off,none⟩∧F b∧w.cell? ⟨b,off+k*3,none⟩=some (.int .u64 r.base)∧w.cell? ⟨b,off+k*3+1,none⟩=some (.slice A' r.bytes.length c') ∧
     w.cell? ⟨b,off+k*3+2,none⟩=some (.bool r.write)∧BytesAt w F (.slice A' r.bytes.length c') r.bytes∧r.base < 18446744073709551616∧r.bytes.length≤9223372036854775807:=by
 obtain ⟨P,hP,⟨A1,c1,hv,hc1,hl,hne⟩,hs⟩:=h
 cases hv
 rw [←hP,List.getElem?_map] at hk
 cases hpk:P[k]? with
 | none=>rw [hpk] at hk;cases hk
 | some x =>
   rw [hpk] at hk
   cases hk
   have hx:=hs x (List.mem_of_getElem? hpk)
   have hr:(P.map fun x=>entRow x.2)[k]? = some (entRow x.2):=by rw [List.getElem?_map,hpk];rfl
   obtain ⟨b,off,hA,hF,hcell⟩:=hne (fun e=>by rw [e] at hr;cases hr)
   have hb:=hx.bytes
   have hn:=hx.n
   rw [hn] at hb
   refine ⟨b,off,x.2.ad,x.2.c,hA,hF,?_,?_,?_,hb,hx.base64,hx.len⟩
   · rw [←hx.key];exact hcell k 0 _ _ hr rfl
   · rw [←hn];exact hcell k 1 _ _ hr rfl
   · rw [←hx.wr];exact hcell k 2 _ _ hr rfl
theorem RegsAt.keep {w w':World} {F:Nat→Prop} {v:Value} {l:List Reg} (h:RegsAt w F v l) (hk:SameOn F w w'):RegsAt w' F v l:=by
 obtain ⟨P,hP,hr,hs⟩:=h
 exact ⟨P,hP,hr.keep hk,fun x hx=>(hs x hx).keep hk⟩
theorem RegsAt.mono {w:World} {F G:Nat→Prop} {v:Value} {l:List Reg} (h:RegsAt w F v l) (hk:∀ k,F k→G k):RegsAt w G v l:=by
 obtain ⟨P,hP,hr,hs⟩:=h
 exact ⟨P,hP,hr.mono hk,fun x hx=>(hs x hx).mono hk⟩
theorem RegsAt.below {w w':World} {F:Nat→Prop} {v:Value} {l:List Reg} {B:Nat} (h:RegsAt w F v l) (hb:Below B w w') (hF:∀ k,F k→k < B):RegsAt w' F v l:=h.keep (SameOn.of_below hb hF)
theorem Rows.flat {w:World} {F:Nat→Prop} {sz:Nat} {ad:Addr} {n c:Nat} {rows:List (List Value)} (h:Rows w F sz (.slice (some ad) n c) rows) (hsz:0 < sz) :
   rows.flatten.length=n*sz∧∀ (j:Nat) (u:Value),rows.flatten[j]? = some u→w.cell? (ad.add j)=some u:=by
 obtain ⟨A,c1,hv,hc,hl,hne⟩:=h
 cases hv
 have hlen:∀ rows:List (List Value),(∀ r∈rows,r.length=sz)→rows.flatten.length=rows.length*sz:=by
   intro rows
   induction rows with
   | nil=>intro _;simp
   | cons q qs ih=>intro hq;rw [List.flatten_cons,List.length_append,ih (fun r hr=>hq r (List.mem_cons_of_mem _ hr)),hq q (List.mem_cons_self ..),List.length_cons,Nat.succ_mul];omega
 refine ⟨hlen rows hl,fun j u hu=>?_⟩
 have hjl:j < rows.length*sz:=by
   rw [←hlen rows hl]
   rcases Nat.lt_or_ge j rows.flatten.length with h | h
   · exact h
   · rw [List.getElem?_eq_none h] at hu;cases hu
 obtain ⟨b,off,hA,_,hcell⟩:=hne (fun e=>by rw [e] at hjl;simp at hjl)
 cases hA
 have key:∀ (rows:List (List Value)) (j:Nat),(∀ r∈rows,r.length=sz)→rows.flatten[j]? = some u→∃ r,rows[j / sz]? = some r∧r[j % sz]? = some u:=by
   intro rows
   induction rows with
   | nil=>intro j _ h;simp at h
   | cons q qs ih =>
     intro j hq hj
     have hql:=hq q (List.mem_cons_self ..)
     rw [List.flatten_cons] at hj
     rcases Nat.lt_or_ge j sz with h | h
     · rw [List.getElem?_append_left (by omega)] at hj
       exact ⟨q,by rw [Nat.div_eq_of_lt h];rfl,by rw [Nat.mod_eq_of_lt h];exact hj⟩
     · rw [List.getElem?_append_right (by omega),hql] at hj
       obtain ⟨r,h1,h2⟩:=ih (j - sz) (fun r hr=>hq r (List.mem_cons_of_mem _ hr)) hj
       refine ⟨r,?_,?_⟩
       · rw [show j / sz=(j - sz) / sz+1 from by rw [Nat.div_eq_sub_div hsz h]]
         simpa using h1
       · rw [Nat.mod_eq_sub_mod h];exact h2
 obtain ⟨r,h1,h2⟩:=key rows j hl hu
 have:=hcell _ _ r u h1 h2
 have hdm:j / sz*sz+j % sz=j:=by rw [Nat.mul_comm];exact Nat.div_add_mod j sz
 rw [show off+j / sz*sz+j % sz=off+j from by omega] at this
 unfold Addr.add
 split
 · rename_i h0;subst h0;simpa using this
 · exact this
end Go.Proofs.YtocndimihokcmaaGreat
namespace Go.Proofs.YtocndimihokcmaaGreat
open Go.RowKit
structure Chg (F:Nat→Prop) (w w':World):Prop where
 os:w'.os=w.os
 tape:w'.tape=w.tape
 output:w'.output=w.output
 size:w.heap.size≤w'.heap.size
 block:∀ k,k < w.heap.size→¬ F k→w'.heap[k]? = w.heap[k]?
theorem Chg.refl (F:Nat→Prop) (w:World):Chg F w w:=⟨rfl,rfl,rfl,Nat.le_refl _,fun _ _ _=>rfl⟩
theorem Chg.trans {F:Nat→Prop} {a b c:World} (h:Chg F a b) (h':Chg F b c):Chg F a c :=
 ⟨h'.os.trans h.os,h'.tape.trans h.tape,h'.output.trans h.output,Nat.le_trans h.size h'.size,fun k hk hF=>(h'.block k (Nat.lt_of_lt_of_le hk h.size) hF).trans (h.block k hk hF)⟩
theorem Chg.trans' {F G:Nat→Prop} {a b c:World} (h:Chg F a b) (h':Chg G b c) (hg:∀ k,k < a.heap.size→G k→F k):Chg F a c :=
 ⟨h'.os.trans h.os,h'.tape.trans h.tape,h'.output.trans h.output,Nat.le_trans h.size h'.size,fun k hk hF=>(h'.block k (Nat.lt_of_lt_of_le hk h.size) (fun hG=>hF (hg k hk hG))).trans (h.block k hk hF)⟩
theorem Chg.mono {F G:Nat→Prop} {a b:World} (h:Chg F a b) (hg:∀ k,k < a.heap.size→F k→G k):Chg G a b:=⟨h.os,h.tape,h.output,h.size,fun k hk hG=>h.block k hk fun hF=>hG (hg k hk hF)⟩
theorem Chg.of_below {F:Nat→Prop} {a b:World} (h:Below a.heap.size a b):Chg F a b:=⟨h.os,h.tape,h.output,h.size,fun k hk _=>h.block k hk⟩
theorem Chg.below {F:Nat→Prop} {a b:World} {B:Nat} (h:Chg F a b) (hF:∀ k,k < B→¬ F k) (hB:B≤a.heap.size):Below B a b:=⟨h.os,h.tape,h.output,h.size,fun k hk=>h.block k (Nat.lt_of_lt_of_le hk hB) (hF k hk)⟩
theorem Chg.same {F G:Nat→Prop} {a b:World} (h:Chg F a b) (hG:∀ k,G k→k < a.heap.size∧¬ F k):SameOn G a b:=fun k hk=>h.block k (hG k hk).1 (hG k hk).2
theorem Chg.drew {F:Nat→Prop} {a b:World} (h:Chg F a b):Chg F a b.drew:=⟨h.os,h.tape,h.output,h.size,h.block⟩
theorem Chg.setCell {F:Nat→Prop} {a b:World} (h:Chg F a b) {p:Addr} (hp:F p.block∨a.heap.size≤p.block) (u:Value):Chg F a (b.setCell p u) :=
 ⟨h.os,h.tape,h.output,by have:=h.size;simpa [World.setCell] using this,fun k hk hF=>(Below.heap_setCell _ _ _ _ (fun e=>by subst e;rcases hp with hp | hp;exact hF hp;omega)).trans (h.block k hk hF)⟩
theorem Chg.alloc {F:Nat→Prop} {a b:World} (h:Chg F a b) (o:Obj):Chg F a (b.alloc o):=h.trans (.of_below ((Below.refl _ _).alloc (Nat.le_refl _) o))
def RowsBlk (w:World) (g e sz:Nat) (rows:List (List Value)):Prop :=
 ∃ cur,w.heap[g]? = some (.cells cur e (0,0))∧(∀ (i j:Nat) (r:List Value) (u:Value),rows[i]? = some r→r[j]? = some u→cur[i*sz+j]? = some u)∧∀ r∈rows,r.length=sz
theorem RowsBlk.keep {w w':World} {g e sz:Nat} {rows:List (List Value)} (h:RowsBlk w g e sz rows) (hk:w'.heap[g]? = w.heap[g]?):RowsBlk w' g e sz rows:=by
 obtain ⟨cur,h1,h2⟩:=h
 exact ⟨cur,hk.trans h1,h2⟩
theorem RowsBlk.drew {w:World} {g e sz:Nat} {rows:List (List Value)} (h:RowsBlk w g e sz rows):RowsBlk w.drew g e sz rows:=h
theorem RowsBlk.lt {w:World} {g e sz:Nat} {rows:List (List Value)} (h:RowsBlk w g e sz rows):g < w.heap.size:=by
 obtain ⟨cur,h1,_⟩:=h
 rcases Nat.lt_or_ge g w.heap.size with h | h
 · exact h
 · rw [Array.getElem?_eq_none h] at h1;cases h1
theorem RowsBlk.cell {w:World} {g e sz:Nat} {rows:List (List Value)} (h:RowsBlk w g e sz rows) {i j:Nat} {r:List Value} {u:Value} (hr:rows[i]? = some r) (hu:r[j]? = some u):w.cell? ⟨g,i*sz+j,none⟩=some u:=by
 obtain ⟨cur,h1,h2,_⟩:=h
 simp only [World.cell?,h1]
 exact h2 i j r u hr hu
theorem RowsBlk.frozen {w:World} {g e sz:Nat} {rows:List (List Value)} (h:RowsBlk w g e sz rows) (i:Nat):w.frozen? ⟨g,i,none⟩=false:=by
 obtain ⟨cur,h1,_⟩:=h
 simp [World.frozen?,h1]
theorem idx3 {i j i' j' sz:Nat} (hj:j < sz) (hj':j' < sz) (h:i*sz+j=i'*sz+j'):i=i'∧j=j':=by
 have h1:(i*sz+j) / sz=i:=by rw [Nat.mul_comm,Nat.mul_add_div (by omega)];simp [Nat.div_eq_of_lt hj]
 have h2:(i'*sz+j') / sz=i':=by rw [Nat.mul_comm,Nat.mul_add_div (by omega)];simp [Nat.div_eq_of_lt hj']
 have:i=i':=by rw [←h1,←h2,h]
 subst this
 exact ⟨rfl,by omega⟩
theorem RowsBlk.set_ {w:World} {g e sz:Nat} {rows:List (List Value)} (h:RowsBlk w g e sz rows) {i j:Nat} {r:List Value} (hr:rows[i]? = some r) (hj:j < sz) (u:Value) :
   RowsBlk (w.setCell ⟨g,i*sz+j,none⟩ u) g e sz (rows.set i (r.set j u)):=by
 obtain ⟨cur,h1,h2,h3⟩:=h
 have hrl:=h3 r (List.mem_of_getElem? hr)
 have hil:i < rows.length:=by
   rcases Nat.lt_or_ge i rows.length with h | h
   · exact h
   · rw [List.getElem?_eq_none h] at hr;cases hr
 refine ⟨cur.setIfInBounds (i*sz+j) u,by simp [World.setCell,Array.getElem?_modify,h1],fun i' j' r' u' hr' hu'=>?_,fun r' hr'=>?_⟩
 · have hj':j' < sz:=by
     have:r'∈rows.set i (r.set j u):=List.mem_of_getElem? hr'
     have hl':r'.length=sz:=by
       rcases List.mem_or_eq_of_mem_set this with h | h
       · exact h3 r' h
       · rw [h];simpa using hrl
     rcases Nat.lt_or_ge j' sz with h | h
     · exact h
     · rw [List.getElem?_eq_none (by omega)] at hu';cases hu'
   by_cases hii:i=i'
   · subst hii
     rw [List.getElem?_set_self hil] at hr'
     cases hr'
     by_cases hjj:j=j'
     · subst hjj
       rw [List.getElem?_set_self (by omega)] at hu'
       cases hu'
       have:cur[i*sz+j]? = some (r[j]'(by omega)):=h2 i j r _ hr (List.getElem?_eq_getElem (by omega))
       rw [Array.getElem?_setIfInBounds_self_of_lt]
       rcases Nat.lt_or_ge (i*sz+j) cur.size with h | h
       · exact h
       · rw [Array.getElem?_eq_none h] at this;cases this
     · rw [List.getElem?_set_ne hjj] at hu'
       rw [Array.getElem?_setIfInBounds_ne (by omega)]
       exact h2 i j' r u' hr hu'
   · rw [List.getElem?_set_ne hii] at hr'
     rw [Array.getElem?_setIfInBounds_ne (fun e=>hii (idx3 hj hj' e).1)]
     exact h2 i' j' r' u' hr' hu'
 · rcases List.mem_or_eq_of_mem_set hr' with h | h
   · exact h3 r' h
   · rw [h];simpa using hrl
theorem RowsBlk.set3 {w:World} {g e:Nat} {rows:List (List Value)} (h:RowsBlk w g e 3 rows) {i:Nat} (hi:i < rows.length) (a b c:Value) :
   RowsBlk (((w.setCell ⟨g,i*3,none⟩ a).setCell ⟨g,i*3+1,none⟩ b).setCell ⟨g,i*3+2,none⟩ c) g e 3 (rows.set i [a,b,c]):=by
 have hr:rows[i]? = some (rows[i]'hi):=List.getElem?_eq_getElem hi
 have hl:(rows[i]'hi).length=3:=h.choose_spec.2.2 _ (List.getElem_mem hi)
 obtain ⟨x,y,z,hxyz⟩:∃ x y z,rows[i]'hi=[x,y,z]:=by
   match h:rows[i]'hi,hl with
   | [x,y,z],_=>exact ⟨x,y,z,rfl⟩
 rw [hxyz] at hr
 have s1:=h.set_ hr (j:=0) (by omega) a
 have s2:=s1.set_ (i:=i) (r:=[a,y,z]) (by rw [List.getElem?_set_self hi];rfl) (j:=1) (by omega) b
 have s3:=s2.set_ (i:=i) (r:=[a,b,z]) (by rw [List.getElem?_set_self (by simpa using hi)];rfl) (j:=2) (by omega) c
 simpa using s3
theorem RowsBlk.mid3 {w:World} {g e:Nat} {rows:List (List Value)} (h:RowsBlk w g e 3 rows) {i:Nat} (hi:i < rows.length) (a b:Value) :
   (∃ u,w.cell? ⟨g,i*3,none⟩=some u)∧(∃ u,(w.setCell ⟨g,i*3,none⟩ a).cell? ⟨g,i*3+1,none⟩=some u)∧(∃ u,((w.setCell ⟨g,i*3,none⟩ a).setCell ⟨g,i*3+1,none⟩ b).cell? ⟨g,i*3+2,none⟩=some u):=by
 have hr:rows[i]? = some (rows[i]'hi):=List.getElem?_eq_getElem hi
 have hl:(rows[i]'hi).length=3:=h.choose_spec.2.2 _ (List.getElem_mem hi)
 obtain ⟨x,y,z,hxyz⟩:∃ x y z,rows[i]'hi=[x,y,z]:=by
   match h:rows[i]'hi,hl with
   | [x,y,z],_=>exact ⟨x,y,z,rfl⟩
 rw [hxyz] at hr
 have s1:=h.set_ hr (j:=0) (by omega) a
 have s2:=s1.set_ (i:=i) (r:=[a,y,z]) (by rw [List.getElem?_set_self hi];rfl) (j:=1) (by omega) b
 exact ⟨⟨_,by simpa using h.cell hr (j:=0) (by rfl)⟩,⟨_,s1.cell (i:=i) (r:=[a,y,z]) (by rw [List.getElem?_set_self hi];rfl) (j:=1) (by rfl)⟩,
   ⟨_,s2.cell (i:=i) (r:=[a,b,z]) (by rw [List.getElem?_set_self (by simpa using hi)];rfl) (j:=2) (by rfl)⟩⟩
theorem rowsBlk_of_own {w:World} {base e sz n:Nat} {v:Value} {rows:List (List Value)} (h:w.ownsRow base e sz v n rows.flatten) (hsz:∀ r∈rows,r.length=sz) (hpos:0 < n) :
   ∃ g cap,v=.slice (some ⟨g,0,none⟩) n cap∧base≤g∧n≤cap∧RowsBlk w g e sz rows:=by
 rcases h.2 with ⟨_,h0⟩ | ⟨g,cap,cur,hv,hg,hh,hnc,hcm,hcs,htk⟩
 · omega
 · refine ⟨g,cap,hv,hg,hnc,cur,hh,fun i j r u hr hu=>?_,hsz⟩
   have key:∀ (rows:List (List Value)) (i:Nat),(∀ r∈rows,r.length=sz)→rows[i]? = some r→rows.flatten[i*sz+j]? = some u:=by
     intro rows
     induction rows with
     | nil=>intro i _ h;simp at h
     | cons q qs ih =>
       intro i hq hi
       have hql:=hq q (List.mem_cons_self ..)
       have hjs:j < sz:=by
         have hrl:=hq r (List.mem_of_getElem? hi)
         rcases Nat.lt_or_ge j sz with h | h
         · exact h
         · rw [List.getElem?_eq_none (by omega)] at hu;cases hu
       cases i with
       | zero =>
         simp at hi
         subst hi
         rw [List.flatten_cons,List.getElem?_append_left (by omega)]
         simpa using hu
       | succ i =>
         rw [List.flatten_cons,List.getElem?_append_right (by rw [hql,Nat.succ_mul];omega),hql]
         have:(i+1)*sz+j - sz=i*sz+j:=by rw [Nat.succ_mul];omega
         rw [this]
         exact ih i (fun r hr=>hq r (List.mem_cons_of_mem _ hr)) (by simpa using hi)
   have hk:=key rows i hsz hr
   rw [←htk,List.getElem?_take] at hk
   split at hk
   · simpa using hk
   · cases hk
end Go.Proofs.YtocndimihokcmaaGreat
namespace Go.Proofs.YtocndimihokcmaaGreat
theorem i64_and1 (n:Int):Go.bits .and .i64 n 1=n % 2:=by
 have hm:(BitVec.ofInt 64 1).toNat=2 ^ 1 - 1:=by decide
 have key:(BitVec.ofInt 64 n &&& BitVec.ofInt 64 1).toNat=(n % ((2 ^ 64:Nat):Int)).toNat % 2 ^ 1:=by
   rw [BitVec.toNat_and,BitVec.toNat_ofInt,hm,Nat.and_two_pow_sub_one_eq_mod]
 show IntKind.i64.wrap ((BitVec.ofInt 64 n &&& BitVec.ofInt 64 1).toNat:Nat)=n % 2
 rw [key,IntKind.wrap_i64]
 omega
theorem i64_and7 (n:Int):Go.bits .and .i64 n 7=n % 8:=by
 have hm:(BitVec.ofInt 64 7).toNat=2 ^ 3 - 1:=by decide
 have key:(BitVec.ofInt 64 n &&& BitVec.ofInt 64 7).toNat=(n % ((2 ^ 64:Nat):Int)).toNat % 2 ^ 3:=by
   rw [BitVec.toNat_and,BitVec.toNat_ofInt,hm,Nat.and_two_pow_sub_one_eq_mod]
 show IntKind.i64.wrap ((BitVec.ofInt 64 n &&& BitVec.ofInt 64 7).toNat:Nat)=n % 8
 rw [key,IntKind.wrap_i64]
 omega
theorem i64_and15 (n:Int):Go.bits .and .i64 n 15=n % 16:=by
 have hm:(BitVec.ofInt 64 15).toNat=2 ^ 4 - 1:=by decide
 have key:(BitVec.ofInt 64 n &&& BitVec.ofInt 64 15).toNat=(n % ((2 ^ 64:Nat):Int)).toNat % 2 ^ 4:=by
   rw [BitVec.toNat_and,BitVec.toNat_ofInt,hm,Nat.and_two_pow_sub_one_eq_mod]
 show IntKind.i64.wrap ((BitVec.ofInt 64 n &&& BitVec.ofInt 64 15).toNat:Nat)=n % 16
 rw [key,IntKind.wrap_i64]
 omega
theorem wraps_i64 (n:Int) (h₀:0≤n) (h₁:n < 2 ^ 63):IntKind.i64.wrap n=n:=by rw [IntKind.wrap_i64];omega
theorem i64_join (i:Nat) (x y:Int) (hx₀:0≤x) (hx:x % 2 ^ i=0) (hx₁:x < 2 ^ 63) (hy₀:0≤y) (hy:y < 2 ^ i) (hy₁:y < 2 ^ 63):Go.bits .or .i64 x y=x+y :=
 Go.bits_join .i64 63 (by decide) wraps_i64 i x y hx₀ hx hx₁ hy₀ hy hy₁
theorem u8_join (i:Nat) (x y:Int) (hx₀:0≤x) (hx:x % 2 ^ i=0) (hx₁:x < 2 ^ 8) (hy₀:0≤y) (hy:y < 2 ^ i) (hy₁:y < 2 ^ 8):Go.bits .or .u8 x y=x+y :=
 Go.bits_join .u8 8 (by decide) wraps_u8 i x y hx₀ hx hx₁ hy₀ hy hy₁
theorem bits_or_comm (k:IntKind) (x y:Int):Go.bits .or k x y=Go.bits .or k y x:=by simp only [Go.bits,BitVec.or_comm]
theorem i64_and248:∀ b:Fin 256,Go.bits .and .i64 ((b:Nat):Int) 248=((b:Nat) / 8*8:Nat):=by decide +kernel
theorem i64_xor1:∀ b:Fin 2,Go.bits .xor .i64 ((b:Nat):Int) 1=(1 - (b:Nat):Nat):=by decide +kernel
end Go.Proofs.YtocndimihokcmaaGreat
namespace Go.Proofs.YtocndimihokcmaaGreat
open Go.RowKit
def u8V (l:List Nat):List Value:=l.map fun x:Nat=>Value.int .u8 x
theorem u8V_len (l:List Nat):(u8V l).length=l.length:=List.length_map ..
theorem u8V_app (a b:List Nat):u8V (a++b)=u8V a++u8V b:=List.map_append ..
theorem u8V_one (l:List Nat):∀ u∈u8V l,u.oneCell'=true:=by
 intro u hu
 obtain ⟨x,_,rfl⟩:=List.mem_map.1 hu
 rfl
theorem infoU8b:(Tryz.prog.info? 5).map (fun i=>(i.zero,i.size,i.bytes))=some (some (.int .u8 0),1,1):=by kernel_rfl
def BytesTold (l:List Nat) (w:World) (e:Ending) (w':World):Prop:=∃ A n c,e=.returned (.slice A n c)∧w'.ownsRow w.heap.size 5 1 (.slice A n c) n (u8V l)∧n=l.length∧Below w.heap.size w w'
theorem own_cells8 {w:World} {base n c:Nat} {ad:Addr} {l:List Nat} (h:w.ownsRow base 5 1 (.slice (some ad) n c) n (u8V l)):∀ j u,(u8V l)[j]? = some u→w.cell? (ad.add j)=some u:=by
 rcases h.2 with ⟨h1,_⟩ | ⟨g,c',cur,hv,_⟩
 · cases h1
 · cases hv
   exact h.cells (g:=g) rfl
theorem own_formB {w:World} {base e sz n:Nat} {v:Value} {xs:List Value} (h:w.ownsRow base e sz v n xs):∃ A c,v=.slice A n c∧(A=none→n=0∧c=0):=by
 rcases h.2 with ⟨rfl,rfl⟩ | ⟨g,cap,cur,rfl,_⟩
 · exact ⟨none,0,rfl,fun _=>⟨rfl,rfl⟩⟩
 · exact ⟨_,_,rfl,fun h=>(by cases h)⟩
theorem own_cap {w:World} {base e sz n:Nat} {A:Option Addr} {c:Nat} {xs:List Value} (h:w.ownsRow base e sz (.slice A n c) n xs):n≤c:=by
 rcases h.2 with ⟨h1,rfl⟩ | ⟨g,cap,cur,hv,_,_,hn,_⟩
 · exact Nat.zero_le _
 · cases hv;exact hn
theorem run_app8 (w:World) (base base2:Nat) (ty:TypeId) (v u:Value) (n m:Nat) (xs ys:List Nat) (hown:w.ownsRow base 5 1 v n (u8V xs)) (hu:w.ownsRow base2 5 1 u m (u8V ys)) (h1:n+m≤1000000) (hbase:base≤w.heap.size) :
   ∃ v' w',(Builtin.append_ #[70,70] ty #[v,u]).run Tryz.prog w=.ok v' w'∧w'.ownsRow base 5 1 v' (n+m) (u8V (xs++ys))∧w.grownBy w' v.ownBlock:=by
 obtain ⟨i0,hi,hz0,hz1,hz2⟩:=info_parts infoU8b
 obtain ⟨Au,cu,rfl,hn0⟩:=own_formB hu
 cases Au with
 | none =>
   obtain ⟨rfl,rfl⟩:=hn0 rfl
   have hy:ys=[]:=by
     have:=hu.1
     rw [u8V_len] at this
     exact List.eq_nil_of_length_eq_zero (by omega)
   subst hy
   obtain ⟨Av,cv,rfl,_⟩:=own_formB hown
   have hcap:=own_cap hown
   refine ⟨.slice Av n cv,w,?_,by rw [List.append_nil];exact hown,World.grownBy.refl _ _⟩
   cases Av <;> simp [Builtin.append_,run_underlying Tryz.underlying70,sizeOf,typeInfo,hi,Builtin.lenOf,Builtin.firstCells,storeCells,hcap]
 | some ad =>
   obtain ⟨v',w',h2,h3,h4,_,_⟩:=run_append_own_at (P:=Tryz.prog) w base 70 ty 5 i0 (.int .u8 0) 1 1 Tryz.underlying70 hi hz0 hz1 hz2 rfl (by decide) v n (u8V xs) hown ad m cu (u8V ys) (by have:=hu.1;omega) (own_cells8 hu) (u8V_one ys) (by unfold maxLen;omega) (by omega) hbase
   exact ⟨v',w',h2,by rw [u8V_app];exact h3,h4⟩
theorem wpList_app8 {ops:Array Oper} {rest:List Oper} {o:Oper} {a:Act} {w:World} {Q:Exit→Act→World→Prop} (hgd:o.guard=none) (s x:Operand)
   (ho:o.op=.call { callee:=.builtin .append,args:=#[s,x],argTypes:=#[70,70] })
   (base base2:Nat) (v u:Value) (n m:Nat) (xs ys:List Nat) (hs:a.eval s=v) (hx:a.eval x=u) (hown:w.ownsRow base 5 1 v n (u8V xs)) (hu:w.ownsRow base2 5 1 u m (u8V ys)) (h1:n+m≤1000000) (hbase:base≤w.heap.size)
   (h:∀ v' w',w'.ownsRow base 5 1 v' (n+m) (u8V (xs++ys))→w.grownBy w' v.ownBlock→wpList Tryz.prog ops Q rest (a.put o.dst v') w') :
   wpList Tryz.prog ops Q (o :: rest) a w:=by
 refine wpList_plain hgd fun K hK=>?_
 obtain ⟨v',w',hr,h2,h3⟩:=run_app8 w base base2 o.type v u n m xs ys hown hu h1 hbase
 unfold Oper.wp execOp
 simp only [ho,resolve,invoke,builtin,Sem.run_bind,Sem.run_pure,Result.andThen_ok,List.map_toArray,List.map_cons,List.map_nil,hs,hx,hr]
 exact hK _ _ (h v' w' h2 h3)
theorem own_lit8 {w w':World} {base:Nat} (l:List Nat) (cs:Array Value) (hcs:cs=(u8V l).toArray) (hb:base≤w.heap.size) (h0:0 < l.length) (hl:l.length≤1000000) (hw:w'.heap[w.heap.size]? = some (.cells cs 5 (0,0))) (n:Nat) (hn:n=l.length):w'.ownsRow base 5 1 (.slice (some ⟨w.heap.size,0,none⟩) n n) n (u8V l):=by
 subst hn
 refine ⟨by rw [u8V_len,Nat.mul_one],.inr ⟨w.heap.size,l.length,cs,rfl,hb,hw,Nat.le_refl _,by unfold maxLen;omega,by rw [hcs];simp [u8V_len],?_⟩⟩
 rw [hcs,Nat.mul_one,List.take_of_length_le (by rw [u8V_len];exact Nat.le_refl _)]
end Go.Proofs.YtocndimihokcmaaGreat
