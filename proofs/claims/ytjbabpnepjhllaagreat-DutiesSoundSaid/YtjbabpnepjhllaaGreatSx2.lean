/- Part 2 of a claim; what it proves stands in its last text. -/
import Derived.WalkKit
import Derived.Test.YtjbabpnepjhllaaGreatSx1
import Derived.Great.BuildSlice
import Derived.Laws.Bits64
import Derived.Laws.Bits64b
import Derived.Outline
import Derived.Deep.Cut
import Derived.Deep.LoopGhost
namespace Go.Proofs.YtjbabpnepjhllaaGreat
structure Fct where
 kind:Int
 a:Int
 b:Int
theorem Fct.ext_ {x y:Fct} (h1:x.kind=y.kind) (h2:x.a=y.a) (h3:x.b=y.b):x=y:=by cases x;cases y;simp at *;exact ⟨h1,h2,h3⟩
instance:DecidableEq Fct:=fun x y=>if h:x.kind=y.kind∧x.a=y.a∧x.b=y.b then .isTrue (Fct.ext_ h.1 h.2.1 h.2.2) else .isFalse fun e=>h (by subst e;exact ⟨rfl,rfl,rfl⟩)
def ltF (x y:Fct):Bool:=decide (x.kind < y.kind) || (x.kind == y.kind && (decide (x.a < y.a) || (x.a == y.a && decide (x.b < y.b))))
theorem ltF_iff (x y:Fct):ltF x y=true↔x.kind < y.kind∨(x.kind=y.kind∧(x.a < y.a∨(x.a=y.a∧x.b < y.b))):=by
 unfold ltF
 simp only [Bool.or_eq_true,Bool.and_eq_true,decide_eq_true_eq,beq_iff_eq]
theorem ltF_irr (x:Fct):ltF x x=false:=by
 cases h:ltF x x
 · rfl
 · rw [ltF_iff] at h;omega
theorem ltF_trans {x y z:Fct} (h1:ltF x y=true) (h2:ltF y z=true):ltF x z=true:=by
 rw [ltF_iff] at *;omega
theorem ltF_total {x y:Fct} (h1:ltF x y=false) (h2:x≠y):ltF y x=true:=by
 rw [ltF_iff]
 have h3:¬ (x.kind < y.kind∨(x.kind=y.kind∧(x.a < y.a∨(x.a=y.a∧x.b < y.b)))):=fun h=>by rw [(ltF_iff x y).2 h] at h1;cases h1
 have h4:¬ (x.kind=y.kind∧x.a=y.a∧x.b=y.b):=fun h=>h2 (Fct.ext_ h.1 h.2.1 h.2.2)
 omega
theorem ltF_asymm {x y:Fct} (h:ltF x y=true):ltF y x=false:=by
 cases h2:ltF y x
 · rfl
 · have:=ltF_trans h h2;rw [ltF_irr] at this;cases this
def OrdF (l:List Fct):Prop:=l.Pairwise fun x y=>ltF x y=true
theorem ordF_ext:∀ {a b:List Fct},OrdF a→OrdF b→(∀ f,f∈a↔f∈b)→a=b
 | [],[],_,_,_=>rfl
 | [],y :: b,_,_,h=>absurd ((h y).2 List.mem_cons_self) (by simp)
 | x :: a,[],_,_,h=>absurd ((h x).1 List.mem_cons_self) (by simp)
 | x :: a,y :: b,ha,hb,h=>by
   obtain ⟨h1,h2⟩:=List.pairwise_cons.1 ha
   obtain ⟨h3,h4⟩:=List.pairwise_cons.1 hb
   have e:x=y:=by
     rcases List.mem_cons.1 ((h x).1 List.mem_cons_self) with e | hx
     · exact e
     · rcases List.mem_cons.1 ((h y).2 List.mem_cons_self) with e | hy
       · exact e.symm
       · have g1:=h3 x hx
         have g2:=h1 y hy
         rw [ltF_asymm g1] at g2;cases g2
   subst e
   refine congrArg _ (ordF_ext h2 h4 fun f=>⟨fun hf=>?_,fun hf=>?_⟩)
   · rcases List.mem_cons.1 ((h f).1 (List.mem_cons_of_mem _ hf)) with e | h5
     · subst e;have:=h1 _ hf;rw [ltF_irr] at this;cases this
     · exact h5
   · rcases List.mem_cons.1 ((h f).2 (List.mem_cons_of_mem _ hf)) with e | h5
     · subst e;have:=h3 _ hf;rw [ltF_irr] at this;cases this
     · exact h5
def insF (f:Fct):List Fct→List Fct
 | []=>[f]
 | x :: r=>if ltF x f then x :: insF f r else if x=f then x :: r else f :: x :: r
theorem mem_insF {f g:Fct}:∀ {l:List Fct},g∈insF f l↔g=f∨g∈l
 | []=>by simp [insF]
 | x :: r=>by
   unfold insF
   split
   · simp only [List.mem_cons,mem_insF (l:=r)]
     constructor
     · rintro (h | h | h) <;> simp [h]
     · rintro (h | h | h) <;> simp [h]
   · split
     · rename_i e
       subst e
       simp
     · simp
theorem ord_insF {f:Fct}:∀ {l:List Fct},OrdF l→OrdF (insF f l)
 | [],_=>List.pairwise_singleton _ _
 | x :: r,h=>by
   obtain ⟨h1,h2⟩:=List.pairwise_cons.1 h
   unfold insF
   split
   · rename_i hx
     refine List.pairwise_cons.2 ⟨fun g hg=>?_,ord_insF h2⟩
     rcases mem_insF.1 hg with e | hg
     · subst e;exact hx
     · exact h1 g hg
   · split
     · exact h
     · rename_i hx he
       have hfx:ltF f x=true:=ltF_total (by simpa using hx) he
       refine List.pairwise_cons.2 ⟨fun g hg=>?_,h⟩
       rcases List.mem_cons.1 hg with e | hg
       · subst e;exact hfx
       · exact ltF_trans hfx (h1 g hg)
def mayF (f:Fct):Bool:=!(f.kind == 2 && f.a == f.b)
def putF (l:List Fct) (f:Fct):List Fct:=if mayF f then insF f l else l
theorem mem_putF {l:List Fct} {f g:Fct}:g∈putF l f↔(g=f∧mayF f=true)∨g∈l:=by
 unfold putF
 split
 · rename_i h;rw [mem_insF];simp [h]
 · rename_i h;simp [h]
theorem ord_putF {l:List Fct} {f:Fct} (h:OrdF l):OrdF (putF l f):=by
 unfold putF
 split
 · exact ord_insF h
 · exact h
def putsF (l more:List Fct):List Fct:=more.foldl putF l
theorem mem_putsF {more:List Fct}:∀ {l:List Fct} {g:Fct},g∈putsF l more↔(g∈more∧mayF g=true)∨g∈l:=by
 induction more with
 | nil=>intro l g;simp [putsF]
 | cons f r ih =>
   intro l g
   show g∈putsF (putF l f) r↔_
   rw [ih,mem_putF,List.mem_cons]
   constructor
   · rintro (⟨h1,h2⟩ | ⟨rfl,h2⟩ | h)
     · exact .inl ⟨.inr h1,h2⟩
     · exact .inl ⟨.inl rfl,h2⟩
     · exact .inr h
   · rintro (⟨rfl | h1,h2⟩ | h)
     · exact .inr (.inl ⟨rfl,h2⟩)
     · exact .inl ⟨h1,h2⟩
     · exact .inr (.inr h)
theorem ord_putsF {more:List Fct}:∀ {l:List Fct},OrdF l→OrdF (putsF l more):=by
 induction more with
 | nil=>exact fun h=>h
 | cons f r ih=>exact fun h=>ih (ord_putF h)
def sortF (l:List Fct):List Fct:=putsF [] l
theorem mem_sortF {l:List Fct} {g:Fct}:g∈sortF l↔g∈l∧mayF g=true:=by unfold sortF;rw [mem_putsF];simp
theorem ord_sortF (l:List Fct):OrdF (sortF l):=ord_putsF List.Pairwise.nil
def saysF (x f:Fct):Bool:=x == f || (f.kind == 3 && ((x.kind == 1 && x.a == f.a) || (x.kind == 2 && x.b == f.a)))
def knowsF (l:List Fct) (f:Fct):Bool:=l.any fun x=>saysF x f
theorem knowsF_mem {l:List Fct} {f:Fct} (h:f∈l):knowsF l f=true:=List.any_eq_true.2 ⟨f,h,by simp [saysF]⟩
def hasF (f:Fct) (v:Int):Bool:=f.a == v || (f.kind == 2 && f.b == v)
structure KOp where
 kind:Int
 d:Int
 e:Int
 a:Int
 b:Int
 c:Int
 imm:Nat
structure KVar where
 limbs:Int
 secret:Bool
 mode:Int
structure Krn where
 vars:List KVar
 ops:List KOp
 reqs:List KOp
def aloneF (k a:Int):Fct:=⟨k,a,-1⟩
def lessF (a b:Int):Fct:=⟨2,a,b⟩
def needsF (o:KOp):List Fct :=
 if o.kind=9 then [aloneF 3 o.c]
 else if o.kind=10∨o.kind=11 then [lessF o.a o.c,lessF o.b o.c]
 else if o.kind=12 then [aloneF 1 o.c,lessF o.a o.c,lessF o.b o.c]
 else if o.kind=13 then [aloneF 1 o.c,lessF o.a o.c]
 else if o.kind=17 then
   if o.imm=2 then [lessF o.a o.b] else if o.imm=1 then [aloneF 1 o.a] else if o.imm=3 then [aloneF 3 o.a] else []
 else []
def askF (l:List Fct) (of:Int→Fct) (a b:Int) (told:List Int):List Fct:=if knowsF l (of a) && knowsF l (of b) then told.map of else []
def bothF (n:Nat) (l:List Fct) (a b p q:Int) (told:List Int):List Fct :=
 askF l (aloneF 1) a b told++askF l (aloneF 3) a b told++((List.range n).map fun y:Nat=>if (y:Int)=p∨(y:Int)=q then [] else askF l (fun v=>lessF v y) a b told++askF l (fun v=>lessF y v) a b told).flatten
def copyF (l:List Fct) (u v:Int):List Fct:=(l.filter fun f=>hasF f u && !hasF f v).map fun f=>if f.a=u then ⟨f.kind,v,f.b⟩ else ⟨f.kind,f.a,v⟩
def limbsF (vs:List KVar) (v:Int):Int:=(vs.getD v.toNat ⟨0,false,0⟩).limbs
def newsF (vs:List KVar) (o:KOp) (l:List Fct):List Fct :=
 if o.kind=1 then (if o.imm % 2=1 then [aloneF 1 o.d] else [])++(if 0 < o.imm then [aloneF 3 o.d] else [])
 else if o.kind=2 then (if limbsF vs o.a≤limbsF vs o.d then copyF l o.a o.d else [])
 else if o.kind=9∨o.kind=10∨o.kind=11∨o.kind=12∨o.kind=13 then (if o.d≠o.c then [lessF o.d o.c] else [])
 else if o.kind=8 then bothF vs.length l o.a o.b o.d o.d [o.d]
 else if o.kind=14 then bothF vs.length l o.d o.e o.d o.e [o.d,o.e]
 else if o.kind=17 then needsF o
 else []
def goneF (o:KOp) (f:Fct):Bool:=(decide (0≤o.d) && hasF f o.d) || (decide (0≤o.e) && hasF f o.e)
def afterF (vs:List KVar) (o:KOp) (l:List Fct):List Fct :=
 if o.kind=2∧o.d=o.a then l else putsF ((sortF l).filter fun f=>!goneF o f) (newsF vs o l)
theorem ord_afterF {vs:List KVar} {o:KOp} {l:List Fct} (h:OrdF l):OrdF (afterF vs o l):=by
 unfold afterF
 split
 · exact h
 · exact ord_putsF ((ord_sortF l).filter _)
theorem mem_afterF {vs:List KVar} {o:KOp} {l:List Fct} (h:¬ (o.kind=2∧o.d=o.a)) (f:Fct):f∈afterF vs o l↔mayF f=true∧(f∈newsF vs o l∨(f∈l∧goneF o f=false)):=by
 unfold afterF
 rw [if_neg h,mem_putsF,List.mem_filter,mem_sortF]
 constructor
 · rintro (⟨h1,h2⟩ | ⟨⟨h1,h2⟩,h3⟩)
   · exact ⟨h2,.inl h1⟩
   · exact ⟨h2,.inr ⟨h1,by simpa using h3⟩⟩
 · rintro ⟨h1,h2 | ⟨h2,h3⟩⟩
   · exact .inl ⟨h2,h1⟩
   · exact .inr ⟨⟨h2,h1⟩,by simpa using h3⟩
end Go.Proofs.YtjbabpnepjhllaaGreat
namespace Go.Proofs.YtjbabpnepjhllaaGreat
open Go.RowKit
def factRow (f:Fct):List Value:=[.int .i64 f.kind,.int .i64 f.a,.int .i64 f.b]
def kvarRow (v:KVar):List Value:=[.int .i64 v.limbs,.bool v.secret,.int .i64 v.mode]
def kopRow (o:KOp):List Value:=[.int .i64 o.kind,.int .i64 o.d,.int .i64 o.e,.int .i64 o.a,.int .i64 o.b,.int .i64 o.c,.int .u64 o.imm]
def FactsAt (w:World) (F:Nat→Prop) (v:Value) (l:List Fct):Prop:=Rows w F 3 v (l.map factRow)
def KVarsAt (w:World) (F:Nat→Prop) (v:Value) (l:List KVar):Prop:=Rows w F 3 v (l.map kvarRow)
def KOpsAt (w:World) (F:Nat→Prop) (v:Value) (l:List KOp):Prop:=Rows w F 7 v (l.map kopRow)
def NumsAt (w:World) (F:Nat→Prop) (v:Value) (l:List Int):Prop:=Rows w F 1 v (l.map fun x=>[Value.int .i64 x])
def BitsAt (w:World) (F:Nat→Prop) (v:Value) (l:List Bool):Prop:=Rows w F 1 v (l.map fun x=>[Value.bool x])
theorem rows_form {w:World} {F:Nat→Prop} {sz:Nat} {v:Value} {T:Type} {f:T→List Value} {l:List T} (h:Rows w F sz v (l.map f)):∃ A c,v=.slice A l.length c∧l.length≤c:=by
 obtain ⟨A,c,rfl,hc,_,_⟩:=h
 rw [List.length_map] at hc ⊢
 exact ⟨A,c,rfl,hc⟩
theorem rows_len {w:World} {F:Nat→Prop} {sz:Nat} {T:Type} {f:T→List Value} {l:List T} {A:Option Addr} {n c:Nat} (h:Rows w F sz (.slice A n c) (l.map f)):n=l.length∧n≤c:=by
 obtain ⟨A',c',hv,hc,_,_⟩:=h
 cases hv
 rw [List.length_map] at *
 exact ⟨rfl,hc⟩
theorem rows_at {w:World} {F:Nat→Prop} {sz:Nat} {A:Option Addr} {n c:Nat} {T:Type} {f:T→List Value} {l:List T} (h:Rows w F sz (.slice A n c) (l.map f)) {k:Nat} {x:T} (hk:l[k]? = some x) :
   ∃ b o,A=some ⟨b,o,none⟩∧F b∧∀ (j:Nat) (u:Value),(f x)[j]? = some u→w.cell? ⟨b,o+k*sz+j,none⟩=some u:=by
 obtain ⟨A',c',hv,hc,hl,hne⟩:=h
 cases hv
 have h1:(l.map f)[k]? = some (f x):=by rw [List.getElem?_map,hk];rfl
 obtain ⟨b,o,rfl,hF,hat⟩:=hne (fun e=>by rw [e] at h1;cases h1)
 exact ⟨b,o,rfl,hF,fun j u hu=>hat k j _ u h1 hu⟩
theorem KOpsAt.at_ {w:World} {F:Nat→Prop} {A:Option Addr} {n c:Nat} {l:List KOp} (h:KOpsAt w F (.slice A n c) l) {k:Nat} {x:KOp} (hk:l[k]? = some x) :
   ∃ b o,A=some ⟨b,o,none⟩∧F b∧w.cell? ⟨b,o+k*7,none⟩=some (.int .i64 x.kind)∧w.cell? ⟨b,o+k*7+1,none⟩=some (.int .i64 x.d)∧w.cell? ⟨b,o+k*7+2,none⟩=some (.int .i64 x.e) ∧
     w.cell? ⟨b,o+k*7+3,none⟩=some (.int .i64 x.a)∧w.cell? ⟨b,o+k*7+4,none⟩=some (.int .i64 x.b)∧w.cell? ⟨b,o+k*7+5,none⟩=some (.int .i64 x.c) ∧
     w.cell? ⟨b,o+k*7+6,none⟩=some (.int .u64 x.imm):=by
 obtain ⟨b,o,hA,hF,hc⟩:=rows_at h hk
 exact ⟨b,o,hA,hF,hc 0 _ rfl,hc 1 _ rfl,hc 2 _ rfl,hc 3 _ rfl,hc 4 _ rfl,hc 5 _ rfl,hc 6 _ rfl⟩
theorem KVarsAt.at_ {w:World} {F:Nat→Prop} {A:Option Addr} {n c:Nat} {l:List KVar} (h:KVarsAt w F (.slice A n c) l) {k:Nat} {x:KVar} (hk:l[k]? = some x) :
   ∃ b o,A=some ⟨b,o,none⟩∧F b∧w.cell? ⟨b,o+k*3,none⟩=some (.int .i64 x.limbs)∧w.cell? ⟨b,o+k*3+1,none⟩=some (.bool x.secret)∧w.cell? ⟨b,o+k*3+2,none⟩=some (.int .i64 x.mode):=by
 obtain ⟨b,o,hA,hF,hc⟩:=rows_at h hk
 exact ⟨b,o,hA,hF,hc 0 _ rfl,hc 1 _ rfl,hc 2 _ rfl⟩
theorem FactsAt.at_ {w:World} {F:Nat→Prop} {A:Option Addr} {n c:Nat} {l:List Fct} (h:FactsAt w F (.slice A n c) l) {k:Nat} {x:Fct} (hk:l[k]? = some x) :
   ∃ b o,A=some ⟨b,o,none⟩∧F b∧w.cell? ⟨b,o+k*3,none⟩=some (.int .i64 x.kind)∧w.cell? ⟨b,o+k*3+1,none⟩=some (.int .i64 x.a)∧w.cell? ⟨b,o+k*3+2,none⟩=some (.int .i64 x.b):=by
 obtain ⟨b,o,hA,hF,hc⟩:=rows_at h hk
 exact ⟨b,o,hA,hF,hc 0 _ rfl,hc 1 _ rfl,hc 2 _ rfl⟩
theorem NumsAt.at_ {w:World} {F:Nat→Prop} {A:Option Addr} {n c:Nat} {l:List Int} (h:NumsAt w F (.slice A n c) l) {k:Nat} {x:Int} (hk:l[k]? = some x) :
   ∃ b o,A=some ⟨b,o,none⟩∧F b∧w.cell? ⟨b,o+k,none⟩=some (.int .i64 x):=by
 obtain ⟨b,o,hA,hF,hc⟩:=rows_at h hk
 exact ⟨b,o,hA,hF,by simpa using hc 0 _ rfl⟩
theorem BitsAt.at_ {w:World} {F:Nat→Prop} {A:Option Addr} {n c:Nat} {l:List Bool} (h:BitsAt w F (.slice A n c) l) {k:Nat} {x:Bool} (hk:l[k]? = some x) :
   ∃ b o,A=some ⟨b,o,none⟩∧F b∧w.cell? ⟨b,o+k,none⟩=some (.bool x):=by
 obtain ⟨b,o,hA,hF,hc⟩:=rows_at h hk
 exact ⟨b,o,hA,hF,by simpa using hc 0 _ rfl⟩
def In64 (x:Int):Prop:=-9223372036854775808≤x∧x≤9223372036854775807
structure FctOk (f:Fct):Prop where
 kind:In64 f.kind
 a:In64 f.a
 b:In64 f.b
structure KOpOk (o:KOp):Prop where
 kind:In64 o.kind
 d:In64 o.d
 e:In64 o.e
 a:In64 o.a
 b:In64 o.b
 c:In64 o.c
 imm:o.imm < 18446744073709551616
structure KernAt (w:World) (F:Nat→Prop) (cs:List Value) (k:Krn):Prop where
 row:∃ vv vo vr,cs=[vv,vo,vr]∧KVarsAt w F vv k.vars∧KOpsAt w F vo k.ops∧KOpsAt w F vr k.reqs
 nv:k.vars.length≤9223372036854775807
 no:k.ops.length≤9223372036854775807
 nr:k.reqs.length≤9223372036854775807
 vars:∀ v∈k.vars,In64 v.limbs∧In64 v.mode
 ops:∀ o∈k.ops,KOpOk o
 reqs:∀ o∈k.reqs,KOpOk o
theorem KernAt.keep {w w':World} {F:Nat→Prop} {cs:List Value} {k:Krn} (h:KernAt w F cs k) (hk:SameOn F w w'):KernAt w' F cs k:=by
 obtain ⟨vv,vo,vr,h1,h2,h3,h4⟩:=h.row
 exact ⟨⟨vv,vo,vr,h1,Rows.keep h2 hk,Rows.keep h3 hk,Rows.keep h4 hk⟩,h.nv,h.no,h.nr,h.vars,h.ops,h.reqs⟩
theorem KernAt.mono {w:World} {F G:Nat→Prop} {cs:List Value} {k:Krn} (h:KernAt w F cs k) (hk:∀ k,F k→G k):KernAt w G cs k:=by
 obtain ⟨vv,vo,vr,h1,h2,h3,h4⟩:=h.row
 exact ⟨⟨vv,vo,vr,h1,Rows.mono h2 hk,Rows.mono h3 hk,Rows.mono h4 hk⟩,h.nv,h.no,h.nr,h.vars,h.ops,h.reqs⟩
theorem kern_next {w w':World} {cs:List Value} {k:Krn} (h:KernAt w (fun k=>k < w.heap.size) cs k) (hb:Below w.heap.size w w'):KernAt w' (fun k=>k < w'.heap.size) cs k :=
 (h.keep (SameOn.of_below hb fun _ hk=>hk)).mono fun _ hk=>Nat.lt_of_lt_of_le hk hb.size
theorem rows_next {w w':World} {sz:Nat} {v:Value} {l:List (List Value)} (h:Rows w (fun k=>k < w.heap.size) sz v l) (hb:Below w.heap.size w w'):Rows w' (fun k=>k < w'.heap.size) sz v l :=
 (h.keep (SameOn.of_below hb fun _ hk=>hk)).mono fun _ hk=>Nat.lt_of_lt_of_le hk hb.size
end Go.Proofs.YtjbabpnepjhllaaGreat
namespace Go.Proofs.YtjbabpnepjhllaaGreat
open Go.RowKit
theorem infoI:(Tryz.prog.info? 3).map (fun i=>(i.zero,i.size,i.bytes))=some (some (.int .i64 0),1,8):=by kernel_rfl
def intV (l:List Int):List Value:=l.map (Value.int .i64)
theorem flat_ints (l:List Int):(l.map fun n=>[Value.int .i64 n]).flatten=intV l:=by
 unfold intV
 induction l with
 | nil=>rfl
 | cons a l ih=>simp only [List.map_cons,List.flatten_cons,ih];rfl
theorem own_form {w:World} {base e sz n:Nat} {v:Value} {xs:List Value} (h:w.ownsRow base e sz v n xs):∃ A c,v=.slice A n c:=by
 rcases h.2 with ⟨rfl,rfl⟩ | ⟨g,cap,cur,rfl,_⟩
 · exact ⟨none,0,rfl⟩
 · exact ⟨_,_,rfl⟩
theorem own_lt {w:World} {base e sz n:Nat} {v:Value} {xs:List Value} (h:w.ownsRow base e sz v n xs):∀ g,v.ownBlock=some g→g < w.heap.size∧base≤g:=by
 intro k hk
 rcases h.2 with ⟨h1,_⟩ | ⟨g,cap,cur,h1,hg,h2,_⟩
 · rw [h1] at hk;cases hk
 · rw [h1] at hk
   cases hk
   rcases Nat.lt_or_ge g w.heap.size with h' | h'
   · exact ⟨h',hg⟩
   · rw [Array.getElem?_eq_none h'] at h2;cases h2
theorem nums_own {w:World} {base:Nat} {v:Value} {l:List Int} (h:w.ownsRow base 3 1 v l.length (intV l)):NumsAt w (fun k=>v.ownBlock=some k) v l:=by
 have hsz:∀ r∈(l.map fun n=>[Value.int .i64 n]),r.length=1:=by intro r hr;obtain ⟨x,_,rfl⟩:=List.mem_map.1 hr;rfl
 have hfl:=flat_ints l
 rcases Nat.eq_zero_or_pos l.length with h0 | hpos
 · obtain rfl:=List.eq_nil_of_length_eq_zero h0
   rcases h.2 with ⟨rfl,_⟩ | ⟨g,cap,cur,rfl,_,_,hnc,_⟩
   · exact ⟨none,0,rfl,by simp,by simp,fun h=>absurd rfl h⟩
   · exact ⟨_,cap,rfl,by simp,by simp,fun h=>absurd rfl h⟩
 · rw [←hfl] at h
   obtain ⟨g,cap,rfl,hg,hnc,hrow⟩:=rowsBlk_of_own h hsz hpos
   refine ⟨_,cap,by simp,by simpa using hnc,hsz,fun _=>⟨g,0,rfl,rfl,fun i j r u hr hu=>?_⟩⟩
   rw [Nat.zero_add]
   exact hrow.cell hr hu
theorem nums_blk {w:World} {g:Nat} {l:List Int} {t:Nat} (h:w.heap[g]? = some (.cells (intV l).toArray t (0,0))):NumsAt w (fun k=>k=g) (.slice (some ⟨g,0,none⟩) l.length l.length) l:=by
 refine ⟨_,l.length,by simp,by simp,by intro r hr;obtain ⟨x,_,rfl⟩:=List.mem_map.1 hr;rfl,fun _=>⟨g,0,rfl,rfl,fun i j r u hr hu=>?_⟩⟩
 have hm:=List.mem_of_getElem? hr
 obtain ⟨x,_,rfl⟩:=List.mem_map.1 hm
 obtain ⟨rfl,rfl⟩:j=0∧u=.int .i64 x:=by
   cases j with
   | zero=>simp at hu;exact ⟨rfl,hu.symm⟩
   | succ j=>simp at hu
 rw [List.getElem?_map] at hr
 simp only [World.cell?,h]
 cases hi:l[i]? with
 | none=>rw [hi] at hr;cases hr
 | some y =>
   rw [hi] at hr
   simp only [Option.map_some,Option.some.injEq,List.cons.injEq,and_true] at hr
   unfold intV
   simp [hi,hr]
variable {o:Oper} {a:Act} {w:World}
theorem exec_int3 {p q r:Int} (x y z:Operand) (ho:o.op=.buildSlice 50 3 #[(0,x),(1,y),(2,z)]) (hx:a.eval x=.int .i64 p) (hy:a.eval y=.int .i64 q) (hz:a.eval z=.int .i64 r) :
   (execOp a.eval o).run Tryz.prog w=.ok (.value (.slice (some ⟨w.heap.size,0,none⟩) 3 3)) (w.alloc (.cells (intV [p,q,r]).toArray 3)):=by
 obtain ⟨j0,hie,hy0,hy1,hy2⟩:=info_parts infoI
 have h:=run_buildSlice (P:=Tryz.prog) w 50 3 3 #[(0,.int .i64 p),(1,.int .i64 q),(2,.int .i64 r)] #[.int .i64 p,.int .i64 q,.int .i64 r] j0 _ Tryz.underlying50 hie hy0 (by rw [hy1];decide) (by rw [hy1];decide) (by rw [hy1];kernel_rfl)
 unfold execOp
 simp only [ho,hx,hy,hz,List.map_toArray,List.map_cons,List.map_nil,Sem.run_bind,h,Result.andThen_ok,Sem.run_pure,intV]
theorem exec_store1 {P:Program} {o:Oper} {a:Act} {w:World} (ty:TypeId) (x y:Operand) (ho:o.op=.store ty x y) (g k:Nat) (v:Value) (hx:a.eval x=.pointer (some ⟨g,k,none⟩)) (hy:a.eval y=v) (hi:(P.info? ty).map (·.size)=some 1)
   (hc:(w.cell? ⟨g,k,none⟩).isSome=true) (hf:w.frozen? ⟨g,k,none⟩=false) (h1:v.oneCell'=true):(execOp a.eval o).run P w=.ok .skip (w.setCell ⟨g,k,none⟩ v):=by
 have hs:(storeVar ty ⟨g,k,none⟩ v).run P w=.ok () (w.setCell ⟨g,k,none⟩ v):=by
   have:=run_storeCells_cells (P:=P) g k [v] 0 w (fun j hj=>by
     obtain rfl:j=0:=by simpa using hj
     simpa using hc) (fun j hj=>by
     obtain rfl:j=0:=by simpa using hj
     simpa using hf) (fun u hu=>by simp at hu;subst hu;exact h1)
   have hcs:v.cells=#[v]:=by cases v <;> first | rfl | cases h1
   cases hq:P.info? ty with
   | none=>simp [hq] at hi
   | some i =>
     have hs:i.size=1:=by simpa [hq] using hi
     simp only [Nat.add_zero,World.setCells] at this
     simp [storeVar,sizeOf,typeInfo,hq,hcs,hs,this]
 unfold execOp
 simp only [ho,hx,hy,Instr.storeAt,Instr.sureAddr,Sem.run_bind,Sem.run_pure,Result.andThen_ok,hs]
end Go.Proofs.YtjbabpnepjhllaaGreat
namespace Go.Proofs.YtjbabpnepjhllaaGreat
abbrev LB:Nat:=18446744073709551616
def natV:List Nat→Nat
 | []=>0
 | x :: r=>x+LB*natV r
def LimbOk (l:List Nat):Prop:=∀ x∈l,x < LB
theorem natV_append:∀ (a b:List Nat),natV (a++b)=natV a+LB ^ a.length*natV b
 | [],b=>by simp [natV]
 | x :: a,b=>by
   simp only [List.cons_append,natV,natV_append a b,List.length_cons,Nat.pow_succ]
   rw [Nat.mul_add,Nat.add_assoc]
   congr 2
   rw [←Nat.mul_assoc,Nat.mul_comm LB]
theorem natV_lt:∀ {l:List Nat},LimbOk l→natV l < LB ^ l.length
 | [],_=>by simp [natV]
 | x :: r,h=>by
   have h1:=natV_lt (l:=r) fun y hy=>h y (List.mem_cons_of_mem _ hy)
   have h2:=h x List.mem_cons_self
   simp only [natV,List.length_cons,Nat.pow_succ]
   have h3:LB*(natV r+1)≤LB*LB ^ r.length:=Nat.mul_le_mul_left _ h1
   rw [Nat.mul_comm (LB ^ _)]
   rw [Nat.mul_add] at h3
   omega
theorem natV_zeros (n:Nat):natV (List.replicate n 0)=0:=by
 induction n with
 | zero=>rfl
 | succ n ih=>simp [List.replicate_succ,natV,ih]
theorem limbOk_append {a b:List Nat} (ha:LimbOk a) (hb:LimbOk b):LimbOk (a++b):=fun x hx=>by
 rcases List.mem_append.1 hx with h | h
 · exact ha x h
 · exact hb x h
theorem limbOk_take {a:List Nat} (ha:LimbOk a) (n:Nat):LimbOk (a.take n):=fun x hx=>ha x (List.mem_of_mem_take hx)
theorem limbOk_one {x:Nat} (h:x < LB):LimbOk [x]:=fun y hy=>by simp at hy;omega
def limbsOf (n:Nat):List Nat:=if _h:n=0 then [] else n % LB :: limbsOf (n / LB)
decreasing_by exact Nat.div_lt_self (Nat.pos_of_ne_zero _h) (by decide)
theorem limbsOf_zero:limbsOf 0=[]:=by rw [limbsOf];simp
theorem limbsOf_pos {n:Nat} (h:n≠0):limbsOf n=n % LB :: limbsOf (n / LB):=by rw [limbsOf];simp [h]
theorem natV_limbs (n:Nat):natV (limbsOf n)=n:=by
 induction n using Nat.strongRecOn with
 | ind n ih =>
   by_cases h:n=0
   · subst h;rw [limbsOf_zero];rfl
   · rw [limbsOf_pos h]
     simp only [natV]
     rw [ih _ (Nat.div_lt_self (Nat.pos_of_ne_zero h) (by decide))]
     exact Nat.mod_add_div n LB
theorem limbsOf_ok (n:Nat):LimbOk (limbsOf n):=by
 induction n using Nat.strongRecOn with
 | ind n ih =>
   by_cases h:n=0
   · subst h;rw [limbsOf_zero];intro x hx;cases hx
   · rw [limbsOf_pos h]
     intro x hx
     rcases List.mem_cons.1 hx with rfl | hx
     · exact Nat.mod_lt _ (by decide)
     · exact ih _ (Nat.div_lt_self (Nat.pos_of_ne_zero h) (by decide)) x hx
theorem limbs_natV:∀ {l:List Nat},LimbOk l→(∀ x,l.getLast? = some x→x≠0)→limbsOf (natV l)=l
 | [],_,_=>limbsOf_zero
 | x :: r,h,hl=>by
   have hx:=h x List.mem_cons_self
   have hr:LimbOk r:=fun y hy=>h y (List.mem_cons_of_mem _ hy)
   have hne:natV (x :: r)≠0:=by
     intro e
     simp only [natV] at e
     have e1:x=0:=by omega
     have e2:natV r=0:=by
       have:LB*natV r=0:=by omega
       rcases Nat.mul_eq_zero.1 this with h | h
       · cases h
       · exact h
     cases r with
     | nil=>exact hl x rfl e1
     | cons y r =>
       have h2:=limbs_natV (l:=y :: r) hr fun z hz=>hl z (by simpa using hz)
       rw [e2,limbsOf_zero] at h2
       cases h2
   rw [limbsOf_pos hne]
   have e1:natV (x :: r) % LB=x:=by
     simp only [natV]
     rw [Nat.add_mul_mod_self_left,Nat.mod_eq_of_lt hx]
   have e2:natV (x :: r) / LB=natV r:=by
     simp only [natV]
     rw [Nat.add_mul_div_left _ _ (by decide),Nat.div_eq_of_lt hx,Nat.zero_add]
   rw [e1,e2]
   cases r with
   | nil=>simp [natV,limbsOf_zero]
   | cons y r=>rw [limbs_natV hr fun z hz=>hl z (by simpa using hz)]
theorem natV_take {l:List Nat} {n:Nat} (h:∀ i,n≤i→i < l.length→l[i]? = some 0):natV (l.take n)=natV l:=by
 have e:natV (l.drop n)=0:=by
   have:l.drop n=List.replicate (l.drop n).length 0:=List.eq_replicate_iff.2 ⟨rfl,fun x hx=>by
     obtain ⟨i,hi,rfl⟩:=List.mem_iff_getElem.1 hx
     rw [List.length_drop] at hi
     have h1:=h (n+i) (by omega) (by omega)
     rw [List.getElem_drop]
     rw [List.getElem?_eq_getElem (by omega)] at h1
     exact Option.some.inj h1⟩
   rw [this,natV_zeros]
 have h2:=natV_append (l.take n) (l.drop n)
 rw [List.take_append_drop,e,Nat.mul_zero,Nat.add_zero] at h2
 exact h2.symm
theorem limbs_take {l:List Nat} {n:Nat} (hok:LimbOk l) (hn:n≤l.length) (h:∀ i,n≤i→i < l.length→l[i]? = some 0) (h0:∀ x,0 < n→l[n - 1]? = some x→x≠0):limbsOf (natV l)=l.take n:=by
 rw [←natV_take h]
 refine limbs_natV (limbOk_take hok n) fun x hx=>?_
 rw [List.getLast?_eq_getElem?,List.length_take] at hx
 rcases Nat.eq_zero_or_pos n with e | e
 · subst e;simp at hx
 · rw [show min n l.length=n by omega,List.getElem?_take_of_lt (by omega)] at hx
   exact h0 x e hx
def digN (n i:Nat):Nat:=n / LB ^ i % LB
theorem digN_lt (n i:Nat):digN n i < LB:=Nat.mod_lt _ (by decide)
theorem pow_pos_LB (i:Nat):0 < LB ^ i:=Nat.pow_pos (by decide)
theorem digN_get:∀ {l:List Nat},LimbOk l→∀ i,digN (natV l) i=l.getD i 0
 | [],_,i=>by simp [digN,natV]
 | x :: r,h,0=>by
   simp only [digN,natV,Nat.pow_zero,Nat.div_one]
   rw [Nat.add_mul_mod_self_left,Nat.mod_eq_of_lt (h x List.mem_cons_self)]
   rfl
 | x :: r,h,i+1=>by
   have h1:=digN_get (l:=r) (fun y hy=>h y (List.mem_cons_of_mem _ hy)) i
   rw [List.getD_cons_succ,←h1]
   unfold digN
   rw [Nat.pow_succ,Nat.mul_comm (LB ^ i),←Nat.div_div_eq_div_mul]
   congr 2
   simp only [natV]
   rw [Nat.add_mul_div_left _ _ (by decide),Nat.div_eq_of_lt (h x List.mem_cons_self),Nat.zero_add]
theorem mod_succ (n i:Nat):n % LB ^ (i+1)=n % LB ^ i+LB ^ i*digN n i:=by
 unfold digN
 rw [Nat.pow_succ,Nat.mod_mul]
theorem div_succ (n i:Nat):n / LB ^ i=digN n i+LB*(n / LB ^ (i+1)):=by
 unfold digN
 rw [Nat.pow_succ,←Nat.div_div_eq_div_mul]
 exact (Nat.mod_add_div _ _).symm
theorem limbs_len_le {n k:Nat} (h:n < LB ^ k):(limbsOf n).length≤k:=by
 induction k generalizing n with
 | zero =>
   have:n=0:=by simpa using h
   subst this;rw [limbsOf_zero];simp
 | succ k ih =>
   by_cases h0:n=0
   · subst h0;rw [limbsOf_zero];simp
   · rw [limbsOf_pos h0,List.length_cons]
     have:n / LB < LB ^ k:=by
       rw [Nat.div_lt_iff_lt_mul (by decide)]
       rw [Nat.pow_succ] at h
       exact h
     have:=ih this
     omega
theorem limbs_lt (n:Nat):n < LB ^ (limbsOf n).length:=by
 have:=natV_lt (limbsOf_ok n)
 rwa [natV_limbs] at this
theorem limbs_nil_iff {n:Nat}:limbsOf n=[]↔n=0:=by
 constructor
 · intro h
   rw [←natV_limbs n,h];rfl
 · rintro rfl;exact limbsOf_zero
theorem limbs_len_zero {n:Nat}:(limbsOf n).length=0↔n=0:=by rw [List.length_eq_zero_iff,limbs_nil_iff]
theorem natV_low {l:List Nat} (h:LimbOk l) (k:Nat):natV (l.take k)=natV l % LB ^ k:=by
 rcases Nat.lt_or_ge k l.length with hk | hk
 · have h1:=natV_append (l.take k) (l.drop k)
   rw [List.take_append_drop,List.length_take,show min k l.length=k by omega] at h1
   rw [h1,Nat.add_mul_mod_self_left,Nat.mod_eq_of_lt]
   have:=natV_lt (limbOk_take h k)
   rwa [List.length_take,show min k l.length=k by omega] at this
 · rw [List.take_of_length_le hk,Nat.mod_eq_of_lt]
   exact Nat.lt_of_lt_of_le (natV_lt h) (Nat.pow_le_pow_right (by decide) hk)
end Go.Proofs.YtjbabpnepjhllaaGreat
namespace Go.Proofs.YtjbabpnepjhllaaGreat
open Go.RowKit
def addF (a b:Nat) (c:Bool):Nat×Bool:=((a+b+c.toNat) % 18446744073709551616,decide (18446744073709551616≤a+b+c.toNat))
def subF (a b:Nat) (c:Bool):Nat×Bool:=((18446744073709551616+a - b - c.toNat) % 18446744073709551616,decide (a < b+c.toNat))
def mulF (a b:Nat):Nat×Nat:=(a*b / 18446744073709551616,a*b % 18446744073709551616)
theorem mul_halves {a b:Nat} (_ha:a < 18446744073709551616) (_hb:b < 18446744073709551616) (x y u v m n:Nat) (hx:x=a / 4294967296) (hy:y=a % 4294967296) (hu:u=b / 4294967296) (hv:v=b % 4294967296)
   (hm:m=x*v+y*v / 4294967296) (hn:n=y*u+m % 4294967296):x*u+m / 4294967296+n / 4294967296=a*b / 18446744073709551616:=by
 have h1:a=4294967296*x+y:=by omega
 have h2:b=4294967296*u+v:=by omega
 have h3:a*b=18446744073709551616*(x*u)+4294967296*(x*v)+4294967296*(y*u)+y*v:=by
   rw [h1,h2]
   rw [Nat.add_mul,Nat.mul_add,Nat.mul_add]
   rw [show 4294967296*x*(4294967296*u)=18446744073709551616*(x*u) by
     rw [Nat.mul_mul_mul_comm],show 4294967296*x*v=4294967296*(x*v) from Nat.mul_assoc ..,show y*(4294967296*u)=4294967296*(y*u) from Nat.mul_left_comm ..]
   omega
 generalize x*u=xu at *
 generalize x*v=xv at *
 generalize y*u=yu at *
 generalize y*v=yv at *
 omega
theorem wrapU' (x:Int):IntKind.u64.wrap x=x % 18446744073709551616:=by simp [IntKind.wrap,IntKind.bits,IntKind.signed]
set_option maxHeartbeats 400000 in
theorem RAdd_any (a b:Nat) (c:Bool) (w:World) (ha:a < 18446744073709551616) (hb:b < 18446744073709551616) :
   Calls Tryz.prog 121 #[.int .u64 a,.int .u64 b,.bool c] w fun e w'=>e=.returned (.tuple #[.int .u64 ((addF a b c).1:Nat),.bool (addF a b c).2])∧w=w':=by
 obtain ⟨s,hs⟩:∃ s:Nat,s=(a+b) % 18446744073709551616:=⟨_,rfl⟩
 have e1:IntKind.u64.wrap ((a:Int)+(b:Int))=(s:Int):=by rw [wrapU'];omega
 cases c with
 | false =>
   have h1:addF a b false=(s,decide (s < a)):=by simp only [addF,Bool.toNat_false,Nat.add_zero,←hs,Prod.mk.injEq,true_and,decide_eq_decide];omega
   have H1:=Lh h1
   clear h1 hs
   go_enter Tryz.func121,Tryz.ntmps121
   go_wp2
   go_ret2
   exact ⟨by rw [H1.out];rfl,rfl⟩
 | true =>
   obtain ⟨s2,hs2⟩:∃ s2:Nat,s2=(s+1) % 18446744073709551616:=⟨_,rfl⟩
   have e2:IntKind.u64.wrap ((s:Int)+1)=(s2:Int):=by rw [wrapU'];omega
   by_cases hlt:s < a
   · have h1:addF a b true=(s2,true):=by simp only [addF,Bool.toNat_true,Prod.mk.injEq,decide_eq_true_eq];omega
     have hd:decide (s < a)=true:=by simpa using hlt
     have H1:=Lh h1
     clear h1 hs hs2 hlt
     go_enter Tryz.func121,Tryz.ntmps121
     go_wp2
     go_ret2
     exact ⟨by rw [H1.out];rfl,rfl⟩
   · have h1:addF a b true=(s2,s2 == 0):=Prod.ext (by simp only [addF,Bool.toNat_true];omega) (by simp only [addF,Bool.toNat_true];rw [Bool.eq_iff_iff,decide_eq_true_eq,beq_iff_eq];omega)
     have hd:decide (s < a)=false:=by simpa using hlt
     have hz:((s2:Int) == 0)=(s2 == 0):=by rw [Bool.eq_iff_iff,beq_iff_eq,beq_iff_eq];omega
     generalize (s2 == 0)=z at *
     have H1:=Lh h1
     clear h1 hs hs2 hlt
     go_enter Tryz.func121,Tryz.ntmps121
     go_wp2
     go_ret2
     exact ⟨by rw [H1.out];rfl,rfl⟩
set_option maxHeartbeats 400000 in
theorem RSub_any (a b:Nat) (c:Bool) (w:World) (ha:a < 18446744073709551616) (hb:b < 18446744073709551616) :
   Calls Tryz.prog 122 #[.int .u64 a,.int .u64 b,.bool c] w fun e w'=>e=.returned (.tuple #[.int .u64 ((subF a b c).1:Nat),.bool (subF a b c).2])∧w=w':=by
 obtain ⟨s,hs⟩:∃ s:Nat,s=(18446744073709551616+a - b) % 18446744073709551616:=⟨_,rfl⟩
 have e1:IntKind.u64.wrap ((a:Int) - (b:Int))=(s:Int):=by rw [wrapU'];omega
 cases c with
 | false =>
   have h1:subF a b false=(s,decide (a < b)):=by simp only [subF,Bool.toNat_false,Nat.add_zero,Nat.sub_zero,←hs]
   have H1:=Lh h1
   clear h1 hs
   go_enter Tryz.func122,Tryz.ntmps122
   go_wp2
   go_ret2
   exact ⟨by rw [H1.out];rfl,rfl⟩
 | true =>
   obtain ⟨s2,hs2⟩:∃ s2:Nat,s2=(18446744073709551616+s - 1) % 18446744073709551616:=⟨_,rfl⟩
   have e2:IntKind.u64.wrap ((s:Int) - 1)=(s2:Int):=by rw [wrapU'];omega
   by_cases hlt:a < b
   · have h1:subF a b true=(s2,true):=by simp only [subF,Bool.toNat_true,Prod.mk.injEq,decide_eq_true_eq];omega
     have hd:decide (a < b)=true:=by simpa using hlt
     have H1:=Lh h1
     clear h1 hs hs2 hlt
     go_enter Tryz.func122,Tryz.ntmps122
     go_wp2
     go_ret2
     exact ⟨by rw [H1.out];rfl,rfl⟩
   · have h1:subF a b true=(s2,s == 0):=Prod.ext (by simp only [subF,Bool.toNat_true];omega) (by simp only [subF,Bool.toNat_true];rw [Bool.eq_iff_iff,decide_eq_true_eq,beq_iff_eq];omega)
     have hd:decide (a < b)=false:=by simpa using hlt
     have hz:((s:Int) == 0)=(s == 0):=by rw [Bool.eq_iff_iff,beq_iff_eq,beq_iff_eq];omega
     generalize (s == 0)=z at *
     have H1:=Lh h1
     clear h1 hs hs2 hlt
     go_enter Tryz.func122,Tryz.ntmps122
     go_wp2
     go_ret2
     exact ⟨by rw [H1.out];rfl,rfl⟩
theorem low_half (a:Nat) (h:a < 18446744073709551616):Go.bits .and .u64 (a:Int) 4294967295=((a % 4294967296:Nat):Int):=by
 have:=bits_and_u64_nat a 4294967295 h (by decide)
 rw [show ((4294967295:Nat):Int)=4294967295 from rfl] at this
 rw [this,show (4294967295:Nat)=2 ^ 32 - 1 from rfl,Nat.and_two_pow_sub_one_eq_mod]
set_option maxHeartbeats 400000 in
theorem RMul_any (a b:Nat) (w:World) (ha:a < 18446744073709551616) (hb:b < 18446744073709551616) :
   Calls Tryz.prog 123 #[.int .u64 a,.int .u64 b] w fun e w'=>e=.returned (.tuple #[.int .u64 ((mulF a b).1:Nat),.int .u64 ((mulF a b).2:Nat)])∧w=w':=by
 obtain ⟨x,hx⟩:∃ x:Nat,x=a / 4294967296:=⟨_,rfl⟩
 obtain ⟨y,hy⟩:∃ y:Nat,y=a % 4294967296:=⟨_,rfl⟩
 obtain ⟨u,hu⟩:∃ u:Nat,u=b / 4294967296:=⟨_,rfl⟩
 obtain ⟨v,hv⟩:∃ v:Nat,v=b % 4294967296:=⟨_,rfl⟩
 have ea:=low_half a ha
 have eb:=low_half b hb
 rw [←hy] at ea
 rw [←hv] at eb
 have ax:(a:Int) / 4294967296=(x:Int):=by omega
 have bu:(b:Int) / 4294967296=(u:Int):=by omega
 have lim:∀ p q:Nat,p≤4294967295→q≤4294967295→p*q≤18446744065119617025:=fun p q h1 h2=>Nat.mul_le_mul h1 h2
 have l1:=lim y v (by omega) (by omega)
 have l2:=lim x v (by omega) (by omega)
 have l3:=lim y u (by omega) (by omega)
 have l4:=lim x u (by omega) (by omega)
 have hm:=mul_halves ha hb x y u v _ _ hx hy hu hv rfl rfl
 have w5:IntKind.u64.wrap ((a:Int)*(b:Int))=((mulF a b).2:Int):=by rw [wrapU',←Int.natCast_mul];simp only [mulF];omega
 have c1:(y:Int)*(v:Int)=((y*v:Nat):Int):=by simp
 have c2:(x:Int)*(v:Int)=((x*v:Nat):Int):=by simp
 have c3:(y:Int)*(u:Int)=((y*u:Nat):Int):=by simp
 have c4:(x:Int)*(u:Int)=((x*u:Nat):Int):=by simp
 have hbig:a*b / 18446744073709551616≤18446744073709551615:=by
   have:=Nat.mul_le_mul (Nat.le_of_lt_succ ha) (Nat.le_of_lt_succ hb)
   omega
 generalize hf:y*v=f at *
 generalize hg:x*v=g at *
 generalize hh:y*u=h at *
 generalize hk:x*u=k at *
 have d1:IntKind.u64.wrap (f:Int)=(f:Int):=by rw [wrapU'];omega
 have d2:IntKind.u64.wrap (g:Int)=(g:Int):=by rw [wrapU'];omega
 have d3:IntKind.u64.wrap (h:Int)=(h:Int):=by rw [wrapU'];omega
 have d4:IntKind.u64.wrap (k:Int)=(k:Int):=by rw [wrapU'];omega
 obtain ⟨m,hmm⟩:∃ m:Nat,m=g+f / 4294967296:=⟨_,rfl⟩
 rw [←hmm] at hm
 obtain ⟨n,hnn⟩:∃ n:Nat,n=h+m % 4294967296:=⟨_,rfl⟩
 rw [←hnn] at hm
 have em:=low_half m (by omega)
 obtain ⟨q,hq⟩:∃ q:Nat,q=m % 4294967296:=⟨_,rfl⟩
 rw [←hq] at em
 have w1:IntKind.u64.wrap ((g:Int)+(f:Int) / 4294967296)=(m:Int):=by rw [wrapU'];omega
 have w2:IntKind.u64.wrap ((h:Int)+(q:Int))=(n:Int):=by rw [wrapU'];omega
 obtain ⟨p,hp⟩:∃ p:Nat,p=k+m / 4294967296:=⟨_,rfl⟩
 have w3:IntKind.u64.wrap ((k:Int)+(m:Int) / 4294967296)=(p:Int):=by rw [wrapU'];omega
 obtain ⟨z,hz⟩:∃ z:Nat,z=(mulF a b).1:=⟨_,rfl⟩
 have hz2:z=p+n / 4294967296:=by rw [hz,hp];exact hm.symm
 have w4:IntKind.u64.wrap ((p:Int)+(n:Int) / 4294967296)=(z:Int):=by rw [wrapU'];omega
 obtain ⟨z',hz'⟩:∃ z':Nat,z'=(mulF a b).2:=⟨_,rfl⟩
 rw [←hz,←hz']
 rw [←hz'] at w5
 clear hx hy hu hv hm hmm hnn hf hg hh hk l1 l2 l3 l4 lim hbig hp hq hz hz2 hz'
 go_enter Tryz.func123,Tryz.ntmps123
 go_wp2
 go_ret2
 exact ⟨rfl,rfl⟩
end Go.Proofs.YtjbabpnepjhllaaGreat
namespace Go.Proofs.YtjbabpnepjhllaaGreat
open Go.RowKit
set_option maxRecDepth 100000
theorem infoU:(Tryz.prog.info? 41).map (fun i=>(i.zero,i.size,i.bytes))=some (some (.int .u64 0),1,8):=by kernel_rfl
def uRow (x:Nat):List Value:=[.int .u64 x]
def cellsU (l:List Nat):List Value:=l.map fun x:Nat=>.int .u64 x
theorem cellsU_flat (l:List Nat):(l.map uRow).flatten=cellsU l:=by
 unfold cellsU
 induction l with
 | nil=>rfl
 | cons a l ih=>simp only [List.map_cons,List.flatten_cons,ih,uRow];rfl
theorem cellsU_snoc (l:List Nat) (x:Nat):cellsU (l++[x])=cellsU l++[.int .u64 x]:=by simp [cellsU]
theorem cellsU_len (l:List Nat):(cellsU l).length=l.length:=by simp [cellsU]
theorem cellsU_one (l:List Nat):∀ u∈cellsU l,u.oneCell'=true:=fun u hu=>by
 obtain ⟨x,_,rfl⟩:=List.mem_map.1 hu
 rfl
def UsAt (w:World) (F:Nat→Prop) (v:Value) (l:List Nat):Prop:=Rows w F 1 v (l.map uRow)
theorem UsAt.at_ {w:World} {F:Nat→Prop} {A:Option Addr} {n c:Nat} {l:List Nat} (h:UsAt w F (.slice A n c) l) {k x:Nat} (hk:l[k]? = some x) :
   ∃ b o,A=some ⟨b,o,none⟩∧F b∧w.cell? ⟨b,o+k,none⟩=some (.int .u64 x):=by
 obtain ⟨b,o,hA,hF,hc⟩:=rows_at h hk
 exact ⟨b,o,hA,hF,by simpa using hc 0 _ rfl⟩
theorem us_own {w:World} {base:Nat} {v:Value} {l:List Nat} (h:w.ownsRow base 41 1 v l.length (cellsU l)):UsAt w (fun k=>v.ownBlock=some k) v l:=by
 have hsz:∀ r∈(l.map uRow),r.length=1:=by intro r hr;obtain ⟨x,_,rfl⟩:=List.mem_map.1 hr;rfl
 have hfl:=cellsU_flat l
 rcases Nat.eq_zero_or_pos l.length with h0 | hpos
 · obtain rfl:=List.eq_nil_of_length_eq_zero h0
   rcases h.2 with ⟨rfl,_⟩ | ⟨g,cap,cur,rfl,_,_,hnc,_⟩
   · exact ⟨none,0,rfl,by simp,by simp,fun h=>absurd rfl h⟩
   · exact ⟨_,cap,rfl,by simp,by simp,fun h=>absurd rfl h⟩
 · rw [←hfl] at h
   obtain ⟨g,cap,rfl,hg,hnc,hrow⟩:=rowsBlk_of_own h hsz hpos
   refine ⟨_,cap,by simp,by simpa using hnc,hsz,fun _=>⟨g,0,rfl,rfl,fun i j r u hr hu=>?_⟩⟩
   rw [Nat.zero_add]
   exact hrow.cell hr hu
theorem us_mine {w:World} {base n:Nat} {v:Value} {l:List Nat} (h:w.ownsRow base 41 1 v n (cellsU l)) (hn:n=l.length):UsAt w (fun k=>k < w.heap.size) v l:=by
 subst hn
 exact Rows.mono (us_own h) fun q hq=>(own_lt h q hq).1
theorem us_len {w:World} {F:Nat→Prop} {A:Option Addr} {n c:Nat} {l:List Nat} (h:UsAt w F (.slice A n c) l):n=l.length∧n≤c:=rows_len h
theorem us_none {w:World} {F:Nat→Prop} {n c:Nat} {l:List Nat} (h:UsAt w F (.slice none n c) l):n=0∧l=[]:=by
 have hn:=(us_len h).1
 cases l with
 | nil=>exact ⟨hn,rfl⟩
 | cons x r =>
   obtain ⟨b,o,hA,_⟩:=UsAt.at_ (k:=0) (x:=x) h rfl
   cases hA
def NatSay (x:Nat) (w:World) (e:Ending) (w':World):Prop:=∃ A n c,e=.returned (.slice A n c)∧w'.ownsRow w.heap.size 41 1 (.slice A n c) n (cellsU (limbsOf x))∧n=(limbsOf x).length∧n≤c∧Below w.heap.size w w'
set_option maxHeartbeats 400000 in
theorem limb_any (A:Option Addr) (n c:Nat) (l:List Nat) (i:Int) (w:World) (F:Nat→Prop) (hl:UsAt w F (.slice A n c) l) (hok:LimbOk l) (hi:0≤i) (hi2:i≤9000000000) :
   Calls Tryz.prog 95 #[.slice A n c,.int .i64 i] w fun e w'=>e=.returned (.int .u64 (digN (natV l) i.toNat:Nat))∧w=w':=by
 obtain ⟨k,rfl⟩:∃ k:Nat,i=k:=⟨i.toNat,by omega⟩
 rw [Int.toNat_natCast,digN_get hok k]
 have hn1:=(us_len hl).1
 have d1:decide ((k:Int) ≥ 0)=true:=decide_eq_true (by omega)
 have d2:decide (0≤(k:Int))=true:=decide_eq_true (by omega)
 by_cases hk:k < n
 · have d3:decide (k < n)=true:=decide_eq_true hk
   obtain ⟨x,hx⟩:∃ x,l[k]? = some x:=⟨_,List.getElem?_eq_getElem (by omega)⟩
   have e1:l.getD k 0=x:=by rw [List.getD_eq_getElem?_getD,hx];rfl
   obtain ⟨b,o,rfl,_,p0⟩:=hl.at_ hx
   rw [e1]
   have i0:(0:Int)≤(k:Int):=by omega
   have i1:(k:Int) < (n:Int):=by omega
   clear hl hok hx hi hi2 hn1 e1
   go_enter Tryz.func95,Tryz.ntmps95
   go_wp2
   go_ret
   exact ⟨rfl,rfl⟩
 · have d3:decide (k < n)=false:=decide_eq_false hk
   have e1:l.getD k 0=0:=by rw [List.getD_eq_getElem?_getD,List.getElem?_eq_none (by omega)];rfl
   rw [e1]
   clear hl hok hi hi2 hn1 e1
   go_enter Tryz.func95,Tryz.ntmps95
   go_wp2
   go_ret
   exact ⟨rfl,rfl⟩
theorem own_zeroU (w:World) (e sz:Nat):(w.alloc (.cells #[] e)).ownsRow w.heap.size e sz (.slice (some ⟨w.heap.size,0,none⟩) 0 0) 0 [] :=
 ⟨by simp,.inr ⟨w.heap.size,0,#[],rfl,Nat.le_refl _,heap_alloc_new w _,Nat.le_refl _,by decide,by simp,by simp⟩⟩
theorem cellsU_take {l:List Nat} {k j:Nat} {u:Value} (h:(cellsU (l.take k))[j]? = some u):(cellsU l)[j]? = some u:=by
 unfold cellsU at *
 rw [List.map_take] at h
 rw [←h,List.getElem?_take_of_lt]
 have:=(List.getElem?_eq_some_iff.1 h).1
 rw [List.length_take] at this
 omega
theorem us_cells {w:World} {F:Nat→Prop} {ad:Addr} {n c:Nat} {l:List Nat} (h:UsAt w F (.slice (some ad) n c) l):∀ w',Below w.heap.size w w'→∀ (j:Nat) (u:Value),(cellsU l)[j]? = some u→w'.cell? (ad.add j)=some u:=fun w' hb j u hu=>by
 rw [←cellsU_flat] at hu
 have h1:=(Rows.flat (rows:=l.map uRow) h (by decide)).2 j u hu
 rw [←h1]
 exact World.cell?_of_block (hb.block _ (World.block_lt_of_cell? w _ h1))
theorem append_nil_u {P:Program} (w:World) (t ty e:TypeId) (i:TypeInfo) (ht:P.underlying t=some (.slice e)) (hi:P.info? e=some i) (a:Addr) (n cap c:Nat) (hn:n≤cap) :
   (Builtin.append_ #[t,t] ty #[.slice (some a) n cap,.slice none 0 c]).run P w=.ok (.slice (some a) n cap) w:=by
 simp [Builtin.append_,run_underlying ht,sizeOf,typeInfo,hi,Builtin.lenOf,Builtin.firstCells,storeCells,hn]
set_option maxHeartbeats 1000000 in
theorem Trim_any (A:Option Addr) (n c:Nat) (l:List Nat) (w:World) (F:Nat→Prop) (hl:UsAt w F (.slice A n c) l) (hok:LimbOk l) (hn:n≤1000000) :
   Calls Tryz.prog 45 #[.slice A n c] w (NatSay (natV l) w):=by
 obtain ⟨i0,hi,hz0,hz1,hz2⟩:=info_parts infoU
 have hnl:=(us_len hl).1
 have hnc:=(us_len hl).2
 have h0:=fun (w:World) (a:Addr) (c:Nat)=>append_nil_u (P:=Tryz.prog) w 68 68 41 i0 Tryz.underlying68 hi a 0 0 c (Nat.le_refl _)
 have HL:=Lh hl
 have HOK:=Lh hok
 have HN:=Lh hnl
 have HI:=Lh (And.intro hi (And.intro hz0 (And.intro hz1 hz2)))
 clear hl hok hnl hz0 hz1 hz2
 go_enter Tryz.func45,Tryz.ntmps45
 go_wp2
 go_loopw [3] (fun s3 wr=>∃ m:Nat,m≤n∧s3=.int .i64 (m:Nat)∧(∀ i,m≤i→i < n→l[i]? = some 0)∧w=wr) (fun s3 _=>(intOf s3).toNat)
 case atStart=>exact ⟨n,Nat.le_refl _,rfl,fun i h1 h2=>absurd h2 (by omega),rfl⟩
 case round =>
   obtain ⟨m,hm,rfl,hz,hw⟩:=hrel
   subst hw
   by_cases h1:0 < m
   · obtain ⟨k,rfl⟩:∃ k,m=k+1:=⟨m - 1,by omega⟩
     obtain ⟨x,hx⟩:∃ x,l[k]? = some x:=⟨_,List.getElem?_eq_getElem (by have:=HN.out;omega)⟩
     obtain ⟨b,o,rfl,_,p0⟩:=HL.out.at_ hx
     have d1:decide ((0:Int) < ((k+1:Nat):Int))=true:=decide_eq_true (by omega)
     have d2:decide (0 < k+1)=true:=decide_eq_true (by omega)
     have d3:decide (((k+1:Nat):Int) > 0)=true:=decide_eq_true (by omega)
     have i9:IntKind.i64.wrap (((k+1:Nat):Int) - 1)=(k:Int):=by rw [IntKind.wrap_i64];omega
     have i1:(0:Int)≤(k:Int):=by omega
     have i2:(k:Int) < (n:Int):=by omega
     have HX:=Lh hx
     have HZ:=Lh hz
     obtain ⟨k1,hk1⟩:∃ k1,k1=k+1:=⟨_,rfl⟩
     have HK:=Lh hk1
     rw [←hk1] at d1 d2 d3 i9 ⊢
     have i3:IntKind.i64.wrap ((k1:Int) - 1)=(k:Int):=i9
     clear hx hz i9 h1
     by_cases hx0:x=0
     · have q0:((x:Int) == 0)=true:=by rw [hx0];rfl
       have HX0:=Lh hx0
       clear hx0 hk1
       go_wp2
       go_roundw
       case rel =>
         refine ⟨k,by have:=HK.out;omega,rfl,fun i h1 h2=>?_,by trivial⟩
         rcases Nat.eq_or_lt_of_le h1 with e | e
         · subst e;rw [HX.out,HX0.out]
         · exact HZ.out i (by have:=HK.out;omega) h2
       case measure=>simp [intOf];have:=HK.out;omega
     · have q0:((x:Int) == 0)=false:=beq_eq_false_iff_ne.2 (by omega)
       have i4:(k1:Int)≤(c:Int):=by have:=HK.out;omega
       have i5:(0:Int)≤(k1:Int):=by omega
       have i6:(k1:Int)≤(n:Int):=by have:=HK.out;omega
       have HTK:=Lh (limbs_take HOK.out (n:=k1) (by have:=HN.out;omega) (fun i h1 h2=>HZ.out i (by omega) (by have:=HN.out;omega)) (fun y h1 hy=>by
         rw [show k1 - 1=k by have:=HK.out;omega,HX.out] at hy
         cases hy;exact hx0))
       have HK1:=Lh (show k1≤n by have:=HK.out;omega)
       have HC:=Lh (us_cells HL.out)
       clear hx0 hk1
       go_wp2_with (at_builtin;(refine wpList_append_own_at _ rfl _ _ 68 rfl w.heap.size 41 i0 (.int .u64 0) 1 8 Tryz.underlying68 HI.out.1 HI.out.2.1 HI.out.2.2.1 HI.out.2.2.2 rfl (by decide) _ 0 [] rfl (own_zeroU w _ _) ⟨b,o,none⟩ k1 c (cellsU (l.take k1)) rfl (by rw [cellsU_len,List.length_take];have:=HN.out;have:=HK1.out;omega) (fun j u hu=>HC.out _ ((Below.refl _ _).alloc (Nat.le_refl _) _) j u (cellsU_take hu)) (cellsU_one _) (by unfold maxLen;have:=HK1.out;omega) (by have:=HK1.out;omega) (by simp) ?_);intro v w1 hown hg hnn _;have HOWN:=Lh hown;have HG:=Lh hg;have HNN:=Lh hnn;clear hown hg hnn)
       go_ret
       have ho:=HOWN.out
       rw [Nat.zero_add,List.nil_append,←HTK.out] at ho
       have hlen:k1=(limbsOf (natV l)).length:=by rw [HTK.out,List.length_take];have:=HN.out;have:=HK1.out;omega
       rcases ho.2 with ⟨h1,h2⟩ | ⟨g,cap,cur,hv,hg,hh,hnc,_⟩
       · exact absurd h1 fun e=>(nomatch ((HNN.out.1 e).1))
       · subst hv
         exact ⟨_,k1,cap,rfl,ho,hlen,hnc,((Below.refl _ _).alloc (Nat.le_refl _) _).grown HG.out (by simp) (fun k hk=>Nat.le_of_eq (Option.some.inj hk))⟩
   · obtain rfl:m=0:=by omega
     have HTK:=Lh (limbs_take HOK.out (n:=0) (Nat.zero_le _) (fun i _ h2=>hz i (by omega) (by have:=HN.out;omega)) (fun y h1 hy=>absurd h1 (by omega)))
     have HZ0:=Lh (show natV l=0 by
       have:=natV_limbs (natV l)
       rw [HTK.out] at this
       exact this.symm)
     have i4:(0:Int)≤(c:Int):=by omega
     clear hz h1 hm
     cases A with
     | none =>
       go_wp2
       go_ret
       rw [HZ0.out]
       exact ⟨_,0,0,rfl,by rw [limbsOf_zero];exact own_zeroU w _ _,by rw [limbsOf_zero];rfl,Nat.le_refl _,(Below.refl _ _).alloc (Nat.le_refl _) _⟩
     | some ad =>
       have HC:=Lh (us_cells HL.out)
       go_wp2_with (at_builtin;(refine wpList_append_own_at _ rfl _ _ 68 rfl w.heap.size 41 i0 (.int .u64 0) 1 8 Tryz.underlying68 HI.out.1 HI.out.2.1 HI.out.2.2.1 HI.out.2.2.2 rfl (by decide) _ 0 [] rfl (own_zeroU w _ _) ad 0 c [] rfl (by rfl) (fun j u hu=>by cases hu) (fun u hu=>by cases hu) (by unfold maxLen;omega) (by omega) (by simp) ?_);intro v w1 hown hg hnn _;have HOWN:=Lh hown;have HG:=Lh hg;have HNN:=Lh hnn;clear hown hg hnn)
       go_ret
       have ho:=HOWN.out
       rw [HZ0.out]
       rcases ho.2 with ⟨h1,h2⟩ | ⟨g,cap,cur,hv,hg,hh,hnc,_⟩
       · exact absurd h1 fun e=>(nomatch ((HNN.out.1 e).1))
       · subst hv
         exact ⟨_,0,cap,rfl,by rw [limbsOf_zero];exact ho,by rw [limbsOf_zero];rfl,hnc,((Below.refl _ _).alloc (Nat.le_refl _) _).grown HG.out (by simp) (fun k hk=>Nat.le_of_eq (Option.some.inj hk))⟩
end Go.Proofs.YtjbabpnepjhllaaGreat
namespace Go.Proofs.YtjbabpnepjhllaaGreat
open Go.RowKit
set_option maxRecDepth 100000
def cmpN (a b:Nat):Int:=if a < b then -1 else if b < a then 1 else 0
theorem lt_of_div {a b k:Nat} (h:a / LB ^ k < b / LB ^ k):a < b:=by
 rcases Nat.lt_or_ge a b with h1 | h1
 · exact h1
 · have:=Nat.div_le_div_right (c:=LB ^ k) h1;omega
theorem div_high {l:List Nat} (h:LimbOk l) {m:Nat} (hm:l.length≤m):natV l / LB ^ m=0:=Nat.div_eq_of_lt (Nat.lt_of_lt_of_le (natV_lt h) (Nat.pow_le_pow_right (by decide) hm))
set_option maxHeartbeats 1000000 in
theorem Compare_any (A B:Option Addr) (n c m d:Nat) (la lb:List Nat) (w:World) (F:Nat→Prop) (ha:UsAt w F (.slice A n c) la) (hb:UsAt w F (.slice B m d) lb) (oka:LimbOk la) (okb:LimbOk lb) (hn:n≤1000000) (hm:m≤1000000) :
   Calls Tryz.prog 73 #[.slice A n c,.slice B m d] w fun e w'=>e=.returned (.int .i64 (cmpN (natV la) (natV lb)))∧w=w':=by
 have HLA:=Lh (fun (k:Nat) (hk:k≤1000000)=>limb_any A n c la (k:Int) w F ha oka (by omega) (by omega))
 have HLB:=Lh (fun (k:Nat) (hk:k≤1000000)=>limb_any B m d lb (k:Int) w F hb okb (by omega) (by omega))
 have hna:=(us_len ha).1
 have hnb:=(us_len hb).1
 by_cases hnm:n < m
 · have HD:=Lh (show natV la / LB ^ m=natV lb / LB ^ m by rw [div_high oka (by omega),div_high okb (by omega)])
   obtain ⟨a,hha⟩:∃ a,a=natV la:=⟨_,rfl⟩
   obtain ⟨b,hhb⟩:∃ b,b=natV lb:=⟨_,rfl⟩
   rw [←hha] at HLA HD
   rw [←hhb] at HLB HD
   rw [←hha,←hhb]
   have HM:=Lh (show m≤1000000 by omega)
   have i0:IntKind.i64.wrap ((m:Int) - 1)=(m:Int) - 1:=by rw [IntKind.wrap_i64];omega
   clear ha hb oka okb hna hnb hha hhb
   go_enter Tryz.func73,Tryz.ntmps73
   go_wp2
   go_loopw [4,5,6,7] (fun _ s5 _ _ wr=>∃ j:Nat,j≤m∧s5=.int .i64 ((j:Int) - 1)∧a / LB ^ j=b / LB ^ j∧w=wr) (fun _ s5 _ _ _=>(intOf s5+1).toNat)
   case atStart=>exact ⟨m,Nat.le_refl _,rfl,HD.out,rfl⟩
   case round =>
     obtain ⟨j,hj,rfl,hd,hw⟩:=hrel
     subst hw
     have HJ:=Lh hd
     clear hd
     rcases Nat.eq_zero_or_pos j with h0 | h0
     · subst h0
       have hab:a=b:=by have:=HJ.out;simpa using this
       have HX:=Lh (show cmpN a b=0 by rw [hab];simp [cmpN])
       clear hab
       go_wp2
       go_ret
       exact ⟨by rw [HX.out];rfl,rfl⟩
     · obtain ⟨k,rfl⟩:∃ k,j=k+1:=⟨j - 1,by omega⟩
       have ek:((k+1:Nat):Int) - 1=(k:Int):=by omega
       rw [ek]
       have d1:decide ((k:Int) ≥ 0)=true:=decide_eq_true (by omega)
       have d2:decide ((0:Int)≤(k:Int))=true:=decide_eq_true (by omega)
       have i1:IntKind.i64.wrap ((k:Int) - 1)=(k:Int) - 1:=by rw [IntKind.wrap_i64];have:=HM.out;omega
       have hda:=div_succ a k
       have hdb:=div_succ b k
       have HH:=Lh (show k≤1000000 by have:=HM.out;omega)
       rw [HJ.out] at hda
       obtain ⟨x,hx⟩:∃ x,x=digN a k:=⟨_,rfl⟩
       obtain ⟨y,hy⟩:∃ y,y=digN b k:=⟨_,rfl⟩
       have HLA':=Lh (HLA.out k HH.out)
       have HLB':=Lh (HLB.out k HH.out)
       simp only [Int.toNat_natCast,←hx,←hy] at HLA' HLB'
       rw [←hx] at hda
       rw [←hy] at hdb
       by_cases h1:x < y
       · have d3:decide (x < y)=true:=decide_eq_true h1
         have HX:=Lh (show cmpN a b = -1 by
           unfold cmpN
           rw [if_pos (lt_of_div (k:=k) (by omega))])
         clear h1 hda hdb hx hy ek
         go_wp2_with (first | ((with_reducible refine HLA'.out.mono ?_);rintro e w1 ⟨rfl,hw⟩;subst hw) | ((with_reducible refine HLB'.out.mono ?_);rintro e w1 ⟨rfl,hw⟩;subst hw))
         go_ret
         exact ⟨by rw [HX.out];rfl,rfl⟩
       · by_cases h2:y < x
         · have d3:decide (x < y)=false:=decide_eq_false h1
           have d4:decide (y < x)=true:=decide_eq_true h2
           have HX:=Lh (show cmpN a b=1 by
             have:=lt_of_div (a:=b) (b:=a) (k:=k) (by omega)
             unfold cmpN
             rw [if_neg (by omega),if_pos this])
           clear h1 h2 hda hdb hx hy ek
           go_wp2_with (first | ((with_reducible refine HLA'.out.mono ?_);rintro e w1 ⟨rfl,hw⟩;subst hw) | ((with_reducible refine HLB'.out.mono ?_);rintro e w1 ⟨rfl,hw⟩;subst hw))
           go_ret
           exact ⟨by rw [HX.out];rfl,rfl⟩
         · have d3:decide (x < y)=false:=decide_eq_false h1
           have d4:decide (y < x)=false:=decide_eq_false h2
           have HX:=Lh (show a / LB ^ k=b / LB ^ k by omega)
           clear h1 h2 hda hdb hx hy ek
           go_wp2_with (first | ((with_reducible refine HLA'.out.mono ?_);rintro e w1 ⟨rfl,hw⟩;subst hw) | ((with_reducible refine HLB'.out.mono ?_);rintro e w1 ⟨rfl,hw⟩;subst hw))
           go_roundw
           case rel=>exact ⟨k,by omega,rfl,HX.out,by trivial⟩
           case measure=>simp [intOf] <;> omega
 · have HD:=Lh (show natV la / LB ^ n=natV lb / LB ^ n by rw [div_high oka (by omega),div_high okb (by omega)])
   obtain ⟨a,hha⟩:∃ a,a=natV la:=⟨_,rfl⟩
   obtain ⟨b,hhb⟩:∃ b,b=natV lb:=⟨_,rfl⟩
   rw [←hha] at HLA HD
   rw [←hhb] at HLB HD
   rw [←hha,←hhb]
   have HM:=Lh (show n≤1000000 by omega)
   have i0:IntKind.i64.wrap ((n:Int) - 1)=(n:Int) - 1:=by rw [IntKind.wrap_i64];omega
   clear ha hb oka okb hna hnb hha hhb
   go_enter Tryz.func73,Tryz.ntmps73
   go_wp2
   go_loopw [4,5,6,7] (fun _ s5 _ _ wr=>∃ j:Nat,j≤n∧s5=.int .i64 ((j:Int) - 1)∧a / LB ^ j=b / LB ^ j∧w=wr) (fun _ s5 _ _ _=>(intOf s5+1).toNat)
   case atStart=>exact ⟨n,Nat.le_refl _,rfl,HD.out,rfl⟩
   case round =>
     obtain ⟨j,hj,rfl,hd,hw⟩:=hrel
     subst hw
     have HJ:=Lh hd
     clear hd
     rcases Nat.eq_zero_or_pos j with h0 | h0
     · subst h0
       have hab:a=b:=by have:=HJ.out;simpa using this
       have HX:=Lh (show cmpN a b=0 by rw [hab];simp [cmpN])
       clear hab
       go_wp2
       go_ret
       exact ⟨by rw [HX.out];rfl,rfl⟩
     · obtain ⟨k,rfl⟩:∃ k,j=k+1:=⟨j - 1,by omega⟩
       have ek:((k+1:Nat):Int) - 1=(k:Int):=by omega
       rw [ek]
       have d1:decide ((k:Int) ≥ 0)=true:=decide_eq_true (by omega)
       have d2:decide ((0:Int)≤(k:Int))=true:=decide_eq_true (by omega)
       have i1:IntKind.i64.wrap ((k:Int) - 1)=(k:Int) - 1:=by rw [IntKind.wrap_i64];have:=HM.out;omega
       have hda:=div_succ a k
       have hdb:=div_succ b k
       have HH:=Lh (show k≤1000000 by have:=HM.out;omega)
       rw [HJ.out] at hda
       obtain ⟨x,hx⟩:∃ x,x=digN a k:=⟨_,rfl⟩
       obtain ⟨y,hy⟩:∃ y,y=digN b k:=⟨_,rfl⟩
       have HLA':=Lh (HLA.out k HH.out)
       have HLB':=Lh (HLB.out k HH.out)
       simp only [Int.toNat_natCast,←hx,←hy] at HLA' HLB'
       rw [←hx] at hda
       rw [←hy] at hdb
       by_cases h1:x < y
       · have d3:decide (x < y)=true:=decide_eq_true h1
         have HX:=Lh (show cmpN a b = -1 by
           unfold cmpN
           rw [if_pos (lt_of_div (k:=k) (by omega))])
         clear h1 hda hdb hx hy ek
         go_wp2_with (first | ((with_reducible refine HLA'.out.mono ?_);rintro e w1 ⟨rfl,hw⟩;subst hw) | ((with_reducible refine HLB'.out.mono ?_);rintro e w1 ⟨rfl,hw⟩;subst hw))
         go_ret
         exact ⟨by rw [HX.out];rfl,rfl⟩
       · by_cases h2:y < x
         · have d3:decide (x < y)=false:=decide_eq_false h1
           have d4:decide (y < x)=true:=decide_eq_true h2
           have HX:=Lh (show cmpN a b=1 by
             have:=lt_of_div (a:=b) (b:=a) (k:=k) (by omega)
             unfold cmpN
             rw [if_neg (by omega),if_pos this])
           clear h1 h2 hda hdb hx hy ek
           go_wp2_with (first | ((with_reducible refine HLA'.out.mono ?_);rintro e w1 ⟨rfl,hw⟩;subst hw) | ((with_reducible refine HLB'.out.mono ?_);rintro e w1 ⟨rfl,hw⟩;subst hw))
           go_ret
           exact ⟨by rw [HX.out];rfl,rfl⟩
         · have d3:decide (x < y)=false:=decide_eq_false h1
           have d4:decide (y < x)=false:=decide_eq_false h2
           have HX:=Lh (show a / LB ^ k=b / LB ^ k by omega)
           clear h1 h2 hda hdb hx hy ek
           go_wp2_with (first | ((with_reducible refine HLA'.out.mono ?_);rintro e w1 ⟨rfl,hw⟩;subst hw) | ((with_reducible refine HLB'.out.mono ?_);rintro e w1 ⟨rfl,hw⟩;subst hw))
           go_roundw
           case rel=>exact ⟨k,by omega,rfl,HX.out,by trivial⟩
           case measure=>simp [intOf] <;> omega
end Go.Proofs.YtjbabpnepjhllaaGreat
