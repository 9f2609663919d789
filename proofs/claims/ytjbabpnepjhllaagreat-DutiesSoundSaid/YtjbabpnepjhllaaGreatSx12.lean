/- Part 12 of a claim; what it proves stands in its last text. -/
import Derived.Test.YtjbabpnepjhllaaGreatSx1
namespace Go.Proofs.YtjbabpnepjhllaaGreat
open Go
def tIn (ops:Array Oper) (i:Nat):Bool:=match ops[i]? with | some o=>isT o | none=>false
def pairB (ops:Array Oper) (i j:Nat):Bool:=direct ops i j || direct ops j i || (tIn ops i && tIn ops j) || match ops[i]?,ops[j]? with
 | some x,some y=>x.apart ops y && y.apart ops x
 | _,_=>false
def branchOk (ops:Array Oper):Bool :=
 Region.noSelect ops && (List.range ops.size).all fun j=>(match ops[j]? with | some o=>o.after.all fun e=>!Region.binds .any e || decide (e.on < j) | none=>false) && (List.range ops.size).all fun i=>i == j || pairB ops i j
def runB (P:Program) (ops:Array Oper) (S:World→Prop) (Q:Act→World→Prop):Nat→List Nat→Act→World→Prop
 | 0,l,a,w=>l=[]∧Q a w
 | n+1,l,a,w =>
   (∃ i∈l,tIn ops i=false∧(∀ k∈l,direct ops i k=false)∧∃ o,ops[i]? = some o∧∃ v,YieldsIf P ops S o v a∧runB P ops S Q n (l.erase i) (a.put o.dst v) w) ∨
   ((∀ j∈l,tIn ops j=false→∃ k∈l,reaches ops ops.size j k=true)∧∀ j∈l,tIn ops j=true→(∀ k∈l,direct ops j k=false) →
     ∃ o,ops[j]? = some o∧Region.wanted o (yielded ops a.tmps)=true∧TDoes P o a w fun v w'=>S w'∧runB P ops S Q n (l.erase j) (a.put o.dst v) w')
section
variable {P:Program} {ops:Array Oper} {S:World→Prop} {Q:Act→World→Prop}
theorem runB_pull (hns:∀ (j:Nat) (o:Oper) cs b,ops[j]? = some o→o.op≠.select cs b) (hpb:∀ i j,i < ops.size→j < ops.size→i≠j→pairB ops i j=true) {listed:Array Bool} (hc:Closed ops listed) {j:Nat} {oj:Oper} (hj:ops[j]? = some oj) (hjT:tIn ops j=false)
   (hdir:∀ i,direct ops j i=true→listed.getD i false=true) :
   ∀ (n:Nat) (l:List Nat) (a:Act) (w:World),l.Nodup→(∀ i∈l,i < ops.size∧listed.getD i false=false)→j∈l→runB P ops S Q n l a w→S w →
     ∃ v,YieldsIf P ops S oj v a∧∃ m,n=m+1∧runB P ops S Q m (l.erase j) (a.put oj.dst v) w:=by
 intro n
 induction n with
 | zero=>intro l a w _ _ hjl h;rw [h.1] at hjl;cases hjl
 | succ n ih =>
   intro l a w hnd hl hjl h hS
   rcases h with ⟨i,hil,hiT,hid,oi,hoi,u,hy,hr⟩ | ⟨hall,_⟩
   · by_cases hij:i=j
     · subst hij
       rw [hj] at hoi
       cases hoi
       exact ⟨u,hy,n,rfl,hr⟩
     · have hji:direct ops j i=false:=by
         cases hd:direct ops j i
         · rfl
         · have:=hdir i hd;rw [(hl i hil).2] at this;cases this
       have hp:=hpb i j (hl i hil).1 (hl j hjl).1 hij
       simp only [pairB,hid j hjl,hji,hiT,Bool.false_and,Bool.false_or,hoi,hj,Bool.and_eq_true] at hp
       obtain ⟨h1,h2,h3⟩:=Oper.apart_spec hp.1
       have hsel:∀ cs b,oj.op≠.select cs b:=fun cs b=>hns j oj cs b hj
       have hseli:∀ cs b,oi.op≠.select cs b:=fun cs b=>hns i oi cs b hoi
       have hjl':j∈l.erase i:=(List.Nodup.mem_erase_iff hnd).2 ⟨Ne.symm hij,hjl⟩
       have hil':i∈l.erase j:=(List.Nodup.mem_erase_iff hnd).2 ⟨hij,hil⟩
       obtain ⟨v,hv,m,hm,hr'⟩:=ih (l.erase i) _ w (hnd.erase i) (fun k hk=>hl k (List.mem_of_mem_erase hk)) hjl' hr hS
       refine ⟨v,hv.of_same (execOp_put oj hsel a oi.dst u h1).symm (wanted_put oj a oi.dst u h1).symm,n,rfl,?_⟩
       subst hm
       refine .inl ⟨i,hil',hiT,fun k hk=>hid k (List.mem_of_mem_erase hk),oi,hoi,u,hy.of_same (execOp_put oi hseli a oj.dst v h3) (wanted_put oi a oj.dst v h3),?_⟩
       rw [←Act.put_comm a u v h2,List.erase_comm]
       exact hr'
   · exfalso
     obtain ⟨k,hk,hr⟩:=hall j hjl hjT
     have:=reaches_listed hc _ _ _ hr hdir
     rw [(hl k hk).2] at this;cases this
theorem runB_pullT (hns:∀ (j:Nat) (o:Oper) cs b,ops[j]? = some o→o.op≠.select cs b) (hpb:∀ i j,i < ops.size→j < ops.size→i≠j→pairB ops i j=true) {listed:Array Bool} {j:Nat} {oj:Oper} (hj:ops[j]? = some oj) (hjT:tIn ops j=true)
   (hdir:∀ i,direct ops j i=true→listed.getD i false=true) :
   ∀ (n:Nat) (l:List Nat) (a:Act) (w:World),l.Nodup→(∀ i∈l,i < ops.size∧listed.getD i false=false)→j∈l→runB P ops S Q n l a w→S w →
     ∃ m,n=m+1∧wpOp P ops (fun _ _ _=>False) j (fun a' w'=>S w'∧runB P ops S Q m (l.erase j) a' w') a w:=by
 intro n
 induction n with
 | zero=>intro l a w _ _ hjl h;rw [h.1] at hjl;cases hjl
 | succ n ih =>
   intro l a w hnd hl hjl h hS
   have hmin:∀ k∈l,direct ops j k=false:=fun k hk=>by
     cases hd:direct ops j k
     · rfl
     · have:=hdir k hd;rw [(hl k hk).2] at this;cases this
   rcases h with ⟨i,hil,hiT,hid,oi,hoi,u,hy,hr⟩ | ⟨_,hall⟩
   · have hij:i≠j:=fun e=>by rw [e,hjT] at hiT;cases hiT
     have hp:=hpb i j (hl i hil).1 (hl j hjl).1 hij
     simp only [pairB,hid j hjl,hmin i hil,hiT,Bool.false_and,Bool.false_or,hoi,hj,Bool.and_eq_true] at hp
     have hsel:∀ cs b,oj.op≠.select cs b:=fun cs b=>hns j oj cs b hj
     have hseli:∀ cs b,oi.op≠.select cs b:=fun cs b=>hns i oi cs b hoi
     have hjl':j∈l.erase i:=(List.Nodup.mem_erase_iff hnd).2 ⟨Ne.symm hij,hjl⟩
     have hil':i∈l.erase j:=(List.Nodup.mem_erase_iff hnd).2 ⟨hij,hil⟩
     obtain ⟨m,rfl,h1⟩:=ih (l.erase i) _ w (hnd.erase i) (fun k hk=>hl k (List.mem_of_mem_erase hk)) hjl' hr hS
     refine ⟨m+1,rfl,?_⟩
     have h2:=wpOp_putIf hj hp.1 hseli hsel (fun _ _ _ h=>h) hy h1
     exact wpOp_mono (fun a' w' ⟨hy',hS',hr'⟩=>⟨hS',.inl ⟨i,hil',hiT,fun k hk=>hid k (List.mem_of_mem_erase hk),oi,hoi,u,hy',by rw [List.erase_comm];exact hr'⟩⟩) h2
   · obtain ⟨o,ho,hw,hd⟩:=hall j hjl hjT hmin
     rw [hj] at ho
     cases ho
     refine ⟨n,rfl,?_⟩
     unfold wpOp
     simp only [hj,hw,if_true]
     exact .inl (hd.wp fun v w' h=>h)
theorem branch_orders (hok:branchOk ops=true) {Q':Exit→Act→World→Prop} (hQ:∀ a w,Q a w→Q' .normal a w) :
   ∀ (n:Nat) (l:List Nat) (listed:Array Bool) (a:Act) (w:World),l.length=n→listed.size=ops.size→Closed ops listed→l.Nodup→(∀ k,k∈l↔k < ops.size∧listed.getD k true=false) →
     runB P ops S Q n l a w→S w→wpAny P .any ops Q' n listed a w:=by
 simp only [branchOk,Bool.and_eq_true,List.all_eq_true,List.mem_range] at hok
 obtain ⟨hns,hall⟩:=hok
 have hsel:=Region.noSelect_spec hns
 have hpb:∀ i j,i < ops.size→j < ops.size→i≠j→pairB ops i j=true:=fun i j hi hj hij=>by
   have:=(hall j hj).2 i hi
   simpa [hij] using this
 have hafter:∀ x,x < ops.size→∀ o,ops[x]? = some o→∀ e∈o.after,Region.binds .any e=true→e.on < x:=fun x hx o ho e he hb=>by
   have hb':=(hall x hx).1
   rw [ho] at hb'
   have:=(Array.all_eq_true_iff_forall_mem.1 hb') e he
   rw [hb] at this
   simpa using this
 intro n
 induction n with
 | zero =>
   intro l listed a w hn hsz hc hnd hl h _
   obtain rfl:=List.eq_nil_of_length_eq_zero hn
   refine ⟨?_,hQ _ _ h.2⟩
   refine List.eq_nil_iff_forall_not_mem.2 fun k hk=>?_
   obtain ⟨h1,o,ho,_⟩:=mem_ready.1 hk
   have:k < ops.size:=by
     rcases Nat.lt_or_ge k ops.size with h | h
     · exact h
     · rw [Array.getElem?_eq_none h] at ho;cases ho
   exact absurd ((hl k).2 ⟨this,h1⟩) (by simp)
 | succ n ih =>
   intro l listed a w hn hsz hc hnd hl h hS
   have unl:∀ i∈l,i < ops.size∧listed.getD i false=false:=fun i hi=>by
     have:=(hl i).1 hi
     have hlt':i < listed.size:=by omega
     exact ⟨this.1,by simpa [hlt'] using this.2⟩
   have hlist:∀ k,k < ops.size→k ∉ l→listed.getD k false=true:=fun k hk hkl=>by
     cases hg:listed.getD k false
     · exfalso
       apply hkl
       refine (hl k).2 ⟨hk,?_⟩
       have hlt':k < listed.size:=by omega
       simp [hlt'] at hg ⊢;exact hg
     · rfl
   refine ⟨fun hr=>?_,fun j hj=>?_⟩
   · exfalso
     have hex:∃ x∈l,∀ y∈l,x≤y:=by
       have:∀ (l:List Nat),l≠[]→∃ x∈l,∀ y∈l,x≤y:=by
         intro l
         induction l with
         | nil=>intro h;exact absurd rfl h
         | cons z l ihl =>
           intro _
           by_cases he:l=[]
           · subst he;exact ⟨z,by simp,by simp⟩
           · obtain ⟨x,hx,hm⟩:=ihl he
             by_cases hzx:z≤x
             · exact ⟨z,by simp,fun y hy=>by rcases List.mem_cons.1 hy with rfl | hy;omega;have:=hm y hy;omega⟩
             · exact ⟨x,by simp [hx],fun y hy=>by rcases List.mem_cons.1 hy with rfl | hy;omega;exact hm y hy⟩
       exact this l (by intro e;rw [e] at hn;cases hn)
     obtain ⟨x,hxl,hmin⟩:=hex
     have hx:=(hl x).1 hxl
     have:x∈Region.ready .any ops listed:=by
       have ho:ops[x]? = some (ops[x]'hx.1):=Array.getElem?_eq_getElem hx.1
       refine mem_ready.2 ⟨hx.2,_,ho,fun e he hb=>?_⟩
       have hlt:=hafter x hx.1 _ ho e he hb
       exact hlist e.on (by omega) fun hm=>by have:=hmin _ hm;omega
     rw [hr] at this
     cases this
   · obtain ⟨hjun,oj,hoj,hall'⟩:=mem_ready.1 hj
     have hjs:j < ops.size:=by
       rcases Nat.lt_or_ge j ops.size with h | h
       · exact h
       · rw [Array.getElem?_eq_none h] at hoj;cases hoj
     have hjl:j∈l:=(hl j).2 ⟨hjs,hjun⟩
     have hdir:∀ i,direct ops j i=true→listed.getD i false=true:=fun i hi=>by
       obtain ⟨e,he,hb,rfl⟩:=(direct_iff hoj).1 hi
       exact hall' e he hb
     have main:wpOp P ops (fun _ _ _=>False) j (fun a' w'=>S w'∧runB P ops S Q n (l.erase j) a' w') a w:=by
       cases hjT:tIn ops j
       · obtain ⟨v,hy,m,hm,hr⟩:=runB_pull hsel hpb hc hoj hjT hdir (n+1) l a w hnd unl hjl h hS
         cases hm
         exact hy.wpOp hoj hS ⟨hS,hr⟩
       · obtain ⟨m,hm,hw⟩:=runB_pullT hsel hpb hoj hjT hdir (n+1) l a w hnd unl hjl h hS
         cases hm
         exact hw
     refine wpOp_mono (fun a' w' ⟨hS',hr'⟩=>?_) (wpOp_weaken main)
     refine ih (l.erase j) (listed.setIfInBounds j true) a' w' (by rw [List.length_erase_of_mem hjl];omega) (by simpa using hsz) ?_ (hnd.erase j) ?_ hr' hS'
     · intro k o hk hlk e he hb
       by_cases hkj:j=k
       · subst hkj
         rw [hoj] at hk
         cases hk
         exact getD_set_true (hall' e he hb)
       · rw [getD_set_ne false hkj] at hlk
         exact getD_set_true (hc k o hk hlk e he hb)
     · intro k
       rw [List.Nodup.mem_erase_iff hnd,hl k]
       by_cases hkj:j=k
       · subst hkj
         have hlt':j < listed.size:=by omega
         simp [hlt']
       · rw [getD_set_ne true hkj]
         constructor
         · rintro ⟨_,h⟩;exact h
         · intro h;exact ⟨Ne.symm hkj,h⟩
theorem wp_region_branch {id:Nat} {a:Act} {w:World} {Q':Exit→Act→World→Prop} (S:World→Prop) (hm:P.follows .mixedOrders=true) (hok:branchOk ops=true) (hS:S w.drew)
   (h:runB P ops S (Q' .normal) ops.size (List.range ops.size) a w.drew):(Code.region id ops true).wp P Q' a w:=by
 refine wp_region_any hm ?_
 refine branch_orders hok (Q':=Q') (fun _ _ h=>h) ops.size (List.range ops.size) (Array.replicate ops.size false) a w.drew (by simp) (by simp) ?_ List.nodup_range ?_ h hS
 · intro j o ho hl
   have hlt:j < ops.size:=by
     rcases Nat.lt_or_ge j ops.size with h | h
     · exact h
     · rw [Array.getElem?_eq_none h] at ho;cases ho
   simp [hlt] at hl
 · intro k
   simp only [List.mem_range]
   constructor
   · intro h;exact ⟨h,by simp [h]⟩
   · exact fun h=>h.1
def oAt:List Oper→Nat→Option Oper
 | [],_=>none
 | o :: _,0=>some o
 | _ :: l,n+1=>oAt l n
theorem oAt_eq:∀ (l:List Oper) (i:Nat),oAt l i=l[i]?
 | [],_=>rfl
 | _ :: _,0=>rfl
 | _ :: l,n+1=>by rw [oAt,oAt_eq l n];rfl
theorem oAt_get {ops:Array Oper} {i:Nat} {o:Oper} (h:oAt ops.toList i=some o):ops[i]? = some o:=by
 rw [oAt_eq] at h;simpa using h
theorem runB_nil {a:Act} {w:World} (h:Q a w):runB P ops S Q 0 [] a w:=⟨rfl,h⟩
def nextT (ops:Array Oper) (l:List Nat):List Nat:=l.filter fun j=>tIn ops j && l.all fun k=>!direct ops j k
def stuckB (ops:Array Oper) (l:List Nat):Bool:=l.all fun j=>tIn ops j || l.any fun k=>reaches ops ops.size j k
theorem runB_next {n:Nat} {l:List Nat} {a:Act} {w:World} (L:List Nat) (hL:nextT ops l=L) (hs:stuckB ops l=true)
   (h:∀ j∈L,∃ o,ops[j]? = some o∧Region.wanted o (yielded ops a.tmps)=true∧TDoes P o a w fun v w'=>S w'∧runB P ops S Q n (l.erase j) (a.put o.dst v) w'):runB P ops S Q (n+1) l a w:=by
 refine .inr ⟨fun j hj hT=>?_,fun j hj hT hd=>h j ?_⟩
 · have:=List.all_eq_true.1 hs j hj
   rw [hT,Bool.false_or,List.any_eq_true] at this
   exact this
 · rw [←hL]
   simp only [nextT,List.mem_filter,Bool.and_eq_true,List.all_eq_true,Bool.not_eq_true']
   exact ⟨hj,hT,hd⟩
theorem runB_one {n:Nat} {l:List Nat} {a:Act} {w:World} (j:Nat) (hL:nextT ops l=[j]) (hs:stuckB ops l=true) {o:Oper} (ho:oAt ops.toList j=some o) (hw:Region.wanted o (yielded ops a.tmps)=true)
   (h:TDoes P o a w fun v w'=>S w'∧runB P ops S Q n (l.erase j) (a.put o.dst v) w'):runB P ops S Q (n+1) l a w :=
 runB_next [j] hL hs fun k hk=>by rw [List.mem_singleton] at hk;subst hk;exact ⟨o,oAt_get ho,hw,h⟩
theorem runB_two {n:Nat} {l:List Nat} {a:Act} {w:World} (j k:Nat) (hL:nextT ops l=[j,k]) (hs:stuckB ops l=true) {o p:Oper} (ho:oAt ops.toList j=some o) (hw:Region.wanted o (yielded ops a.tmps)=true) (hp:oAt ops.toList k=some p) (hwp:Region.wanted p (yielded ops a.tmps)=true)
   (h:TDoes P o a w fun v w'=>S w'∧runB P ops S Q n (l.erase j) (a.put o.dst v) w') (h':TDoes P p a w fun v w'=>S w'∧runB P ops S Q n (l.erase k) (a.put p.dst v) w'):runB P ops S Q (n+1) l a w :=
 runB_next [j,k] hL hs fun x hx=>by
   rcases List.mem_cons.1 hx with rfl | hx
   · exact ⟨o,oAt_get ho,hw,h⟩
   · rw [List.mem_singleton] at hx;subst hx;exact ⟨p,oAt_get hp,hwp,h'⟩
theorem tdoes_call {o:Oper} {a:Act} {w w1:World} {K:Value→World→Prop} {f:FuncId} {args:Array Value} (hr:(execOp a.eval o).run P w=.ok (.enter f args) w1) (h:Calls P f args w1 fun e w'=>∃ v,e=.returned v∧K v w'):TDoes P o a w K:=by
 unfold TDoes;rw [hr];exact h
theorem tdoes_op {o:Oper} {a:Act} {w w1:World} {K:Value→World→Prop} {v:Value} (hr:(execOp a.eval o).run P w=.ok (.value v) w1) (h:K v w1):TDoes P o a w K:=by
 unfold TDoes;rw [hr];exact h
theorem tdoes_skip {o:Oper} {a:Act} {w w1:World} {K:Value→World→Prop} (hr:(execOp a.eval o).run P w=.ok .skip w1) (h:K undef w1):TDoes P o a w K:=by
 unfold TDoes;rw [hr];exact h
end
end Go.Proofs.YtjbabpnepjhllaaGreat
