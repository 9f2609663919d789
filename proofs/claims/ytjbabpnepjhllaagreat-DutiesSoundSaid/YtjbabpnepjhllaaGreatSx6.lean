/- Part 6 of a claim; what it proves stands in its last text. -/
import Derived.Test.YtjbabpnepjhllaaGreatSx5
import Derived.Test.YtjbabpnepjhllaaGreatSx2
import Derived.Test.YtjbabpnepjhllaaGreatSx4
import Derived.Maps.OwnSet
import Derived.Maps.OwnOps
import Derived.Maps.Views
import Derived.Lib.SlMapFilter
import Derived.DeepKeys4
import Derived.RangeFuncNested
import Derived.RangeFuncGives
import Derived.Sort.MapsRangeIn
import Derived.Sort.KeysCollected
import Derived.Maps.AppendAt
import Derived.Shelf.AbstractIn
import Derived.RegionIn
import Derived.LoopNIn
import Derived.LoopIn
import Derived.TacticsInMore
import Derived.OwnWalkIn
import Derived.Shelf.Abstract
namespace Go.Proofs.YtjbabpnepjhllaaGreat
theorem in64_small {x:Int} (h:-1≤x∧x < 4294967296):In64 x:=⟨by omega,by omega⟩
theorem askF_mem {l:List Fct} {of:Int→Fct} {a b:Int} {told:List Int} {f:Fct} (h:f∈askF l of a b told):∃ v∈told,f=of v:=by
 unfold askF at h
 split at h
 · obtain ⟨v,hv,rfl⟩:=List.mem_map.1 h;exact ⟨v,hv,rfl⟩
 · cases h
theorem bothF_mem {n:Nat} {l:List Fct} {a b p q:Int} {told:List Int} {f:Fct} (h:f∈bothF n l a b p q told):∃ v∈told,f=aloneF 1 v∨f=aloneF 3 v∨∃ y:Nat,y < n∧(f=lessF v y∨f=lessF y v):=by
 unfold bothF at h
 simp only [List.mem_append,List.mem_flatten,List.mem_map,List.mem_range] at h
 rcases h with (h | h) | ⟨s,⟨y,hy,rfl⟩,h⟩
 · obtain ⟨v,hv,rfl⟩:=askF_mem h;exact ⟨v,hv,.inl rfl⟩
 · obtain ⟨v,hv,rfl⟩:=askF_mem h;exact ⟨v,hv,.inr (.inl rfl)⟩
 · split at h
   · cases h
   · rcases List.mem_append.1 h with h | h
     · obtain ⟨v,hv,rfl⟩:=askF_mem h;exact ⟨v,hv,.inr (.inr ⟨y,hy,.inl rfl⟩)⟩
     · obtain ⟨v,hv,rfl⟩:=askF_mem h;exact ⟨v,hv,.inr (.inr ⟨y,hy,.inr rfl⟩)⟩
theorem copyF_mem {l:List Fct} {u v:Int} {f:Fct} (h:f∈copyF l u v):∃ x∈l,hasF x u=true∧f=if x.a=u then ⟨x.kind,v,x.b⟩ else ⟨x.kind,x.a,v⟩:=by
 unfold copyF at h
 obtain ⟨x,hx,rfl⟩:=List.mem_map.1 h
 obtain ⟨h1,h2⟩:=List.mem_filter.1 hx
 rw [Bool.and_eq_true] at h2
 exact ⟨x,h1,h2.1,rfl⟩
theorem newsF_mem {vs:List KVar} {o:KOp} {l:List Fct} {f:Fct} (h:f∈newsF vs o l) :
   (o.kind=1∧(f=aloneF 1 o.d∨f=aloneF 3 o.d))∨(o.kind=2∧f∈copyF l o.a o.d)∨((o.kind=9∨o.kind=10∨o.kind=11∨o.kind=12∨o.kind=13)∧o.d≠o.c∧f=lessF o.d o.c) ∨
   (o.kind=8∧f∈bothF vs.length l o.a o.b o.d o.d [o.d])∨(o.kind=14∧f∈bothF vs.length l o.d o.e o.d o.e [o.d,o.e])∨(o.kind=17∧f∈needsF o):=by
 unfold newsF at h
 split at h
 · rename_i hk
   refine .inl ⟨hk,?_⟩
   rcases List.mem_append.1 h with h | h
   · split at h
     · exact .inl (List.mem_singleton.1 h)
     · cases h
   · split at h
     · exact .inr (List.mem_singleton.1 h)
     · cases h
 split at h
 · rename_i hk
   split at h
   · exact .inr (.inl ⟨hk,h⟩)
   · cases h
 split at h
 · rename_i hk
   split at h
   · rename_i hd
     exact .inr (.inr (.inl ⟨hk,hd,List.mem_singleton.1 h⟩))
   · cases h
 split at h
 · rename_i hk;exact .inr (.inr (.inr (.inl ⟨hk,h⟩)))
 split at h
 · rename_i hk;exact .inr (.inr (.inr (.inr (.inl ⟨hk,h⟩))))
 split at h
 · rename_i hk;exact .inr (.inr (.inr (.inr (.inr ⟨hk,h⟩))))
 · cases h
theorem needsF_mem {o:KOp} {f:Fct} (h:f∈needsF o) :
   (o.kind=9∧f=aloneF 3 o.c)∨((o.kind=10∨o.kind=11)∧(f=lessF o.a o.c∨f=lessF o.b o.c))∨(o.kind=12∧(f=aloneF 1 o.c∨f=lessF o.a o.c∨f=lessF o.b o.c)) ∨
   (o.kind=13∧(f=aloneF 1 o.c∨f=lessF o.a o.c))∨(o.kind=17∧((o.imm=2∧f=lessF o.a o.b)∨(o.imm=1∧f=aloneF 1 o.a)∨(o.imm=3∧f=aloneF 3 o.a))):=by
 unfold needsF at h
 split at h
 · rename_i hk;exact .inl ⟨hk,List.mem_singleton.1 h⟩
 split at h
 · rename_i hk;exact .inr (.inl ⟨hk,by simpa using h⟩)
 split at h
 · rename_i hk;exact .inr (.inr (.inl ⟨hk,by simpa using h⟩))
 split at h
 · rename_i hk;exact .inr (.inr (.inr (.inl ⟨hk,by simpa using h⟩)))
 split at h
 · rename_i hk
   refine .inr (.inr (.inr (.inr ⟨hk,?_⟩)))
   split at h
   · rename_i h1;exact .inl ⟨h1,List.mem_singleton.1 h⟩
   split at h
   · rename_i h1;exact .inr (.inl ⟨h1,List.mem_singleton.1 h⟩)
   split at h
   · rename_i h1;exact .inr (.inr ⟨h1,List.mem_singleton.1 h⟩)
   · cases h
 · cases h
theorem alone_ok {k a:Int} (hk:0≤k∧k≤3) (ha:In64 a):FctOk (aloneF k a):=⟨in64_small (x:=k) (by omega),ha,in64_small (x:=-1) (by decide)⟩
theorem less_ok {a b:Int} (ha:In64 a) (hb:In64 b):FctOk (lessF a b):=⟨in64_small (x:=2) (by decide),ha,hb⟩
theorem needsF_ok {o:KOp} (ho:KOpOk o):∀ f∈needsF o,FctOk f:=fun f h=>by
 rcases needsF_mem h with ⟨_,rfl⟩ | ⟨_,rfl | rfl⟩ | ⟨_,rfl | rfl | rfl⟩ | ⟨_,rfl | rfl⟩ | ⟨_,⟨_,rfl⟩ | ⟨_,rfl⟩ | ⟨_,rfl⟩⟩
 all_goals first | exact alone_ok (by decide) ho.c | exact less_ok ho.a ho.c | exact less_ok ho.b ho.c | exact less_ok ho.a ho.b | exact alone_ok (by decide) ho.a
theorem newsF_ok {vs:List KVar} {o:KOp} {l:List Fct} (ho:KOpOk o) (hl:∀ f∈l,FctOk f) (hv:vs.length≤4294967295):∀ f∈newsF vs o l,FctOk f:=fun f h=>by
 have hb:∀ {a b p q:Int} {told:List Int},(∀ v∈told,In64 v)→f∈bothF vs.length l a b p q told→FctOk f:=fun ht h=>by
   obtain ⟨v,hv',rfl | rfl | ⟨y,hy,rfl | rfl⟩⟩:=bothF_mem h
   · exact alone_ok (by decide) (ht v hv')
   · exact alone_ok (by decide) (ht v hv')
   · exact less_ok (ht v hv') (in64_small (by omega))
   · exact less_ok (in64_small (by omega)) (ht v hv')
 rcases newsF_mem h with ⟨_,rfl | rfl⟩ | ⟨_,h⟩ | ⟨_,_,rfl⟩ | ⟨_,h⟩ | ⟨_,h⟩ | ⟨_,h⟩
 · exact alone_ok (by decide) ho.d
 · exact alone_ok (by decide) ho.d
 · obtain ⟨x,hx,_,rfl⟩:=copyF_mem h
   split
   · exact ⟨(hl x hx).kind,ho.d,(hl x hx).b⟩
   · exact ⟨(hl x hx).kind,(hl x hx).a,ho.d⟩
 · exact less_ok ho.d ho.c
 · exact hb (fun v hv=>by rw [List.mem_singleton] at hv;subst hv;exact ho.d) h
 · exact hb (fun v hv=>by simp only [List.mem_cons,List.not_mem_nil,or_false] at hv;rcases hv with rfl | rfl;exact ho.d;exact ho.e) h
 · exact needsF_ok ho f h
theorem askF_len' (l:List Fct) (of:Int→Fct) (a b:Int) (told:List Int):(askF l of a b told).length≤told.length:=by
 unfold askF;split <;> simp
theorem bothF_len (l:List Fct) (a b p q:Int) (told:List Int):∀ n,(bothF n l a b p q told).length≤(2+2*n)*told.length:=by
 intro n
 induction n with
 | zero=>unfold bothF;have h1:=askF_len' l (aloneF 1) a b told;have h2:=askF_len' l (aloneF 3) a b told;simp;omega
 | succ n ih =>
   have e:bothF (n+1) l a b p q told=bothF n l a b p q told++(if (n:Int)=p∨(n:Int)=q then [] else askF l (fun v=>lessF v n) a b told++askF l (fun v=>lessF n v) a b told):=by
     unfold bothF
     rw [List.range_succ,List.map_append,List.flatten_append]
     simp
   rw [e,List.length_append]
   have h1:=askF_len' l (fun v=>lessF v n) a b told
   have h2:=askF_len' l (fun v=>lessF n v) a b told
   have h3:(2+2*(n+1))*told.length=(2+2*n)*told.length+2*told.length:=by rw [←Nat.add_mul];rfl
   split
   · simp;omega
   · rw [List.length_append];omega
theorem needsF_len' (o:KOp):(needsF o).length≤3:=by
 unfold needsF
 repeat' split
 all_goals simp
theorem newsF_len (vs:List KVar) (o:KOp) (l:List Fct):(newsF vs o l).length≤l.length+(2+2*vs.length)*2+3:=by
 unfold newsF
 split
 · rw [List.length_append];split <;> split <;> simp <;> omega
 split
 · split
   · unfold copyF;rw [List.length_map];have:=List.length_filter_le (fun f=>hasF f o.a && !hasF f o.d) l;omega
   · simp
 split
 · split <;> simp
 split
 · have:=bothF_len l o.a o.b o.d o.d [o.d] vs.length
   simp only [List.length_singleton,Nat.mul_one] at this
   omega
 split
 · have:=bothF_len l o.d o.e o.d o.e [o.d,o.e] vs.length
   simp only [List.length_cons,List.length_nil] at this
   omega
 split
 · have:=needsF_len' o;omega
 · simp
def wellF (n:Nat) (f:Fct):Prop:=((f.kind=1∨f.kind=3)∧f.b = -1∧0≤f.a∧f.a < n)∨(f.kind=2∧0≤f.a∧f.a < n∧0≤f.b∧f.b < n)
theorem well_ok {n:Nat} (hn:n≤4294967295) {f:Fct} (h:wellF n f):FctOk f:=by
 rcases h with ⟨h,h1,h2,h3⟩ | ⟨h,h1,h2,h3,h4⟩
 · exact ⟨in64_small (by omega),in64_small (by omega),in64_small (by omega)⟩
 · exact ⟨in64_small (by omega),in64_small (by omega),in64_small (by omega)⟩
theorem well_alone {n:Nat} {k a:Int} (hk:k=1∨k=3) (ha:0≤a∧a < n):wellF n (aloneF k a):=.inl ⟨hk,rfl,ha⟩
theorem well_less {n:Nat} {a b:Int} (ha:0≤a∧a < n) (hb:0≤b∧b < n):wellF n (lessF a b):=.inr ⟨rfl,ha.1,ha.2,hb.1,hb.2⟩
theorem oneK_need {vs:List KVar} {o:KOp} (h:oneK vs o=true) (hk:o.kind=17):(o.imm=2→0≤o.b∧o.b < vs.length):=by
 unfold oneK at h
 rw [if_pos hk] at h
 unfold needK thereK at h
 simp only [Bool.and_eq_true,decide_eq_true_eq,beq_iff_eq] at h
 intro h2
 have:=h.2.2.2.2
 rw [if_pos h2] at this
 simpa using this
theorem well_needs {vs:List KVar} {o:KOp} (h:oneK vs o=true):∀ f∈needsF o,wellF vs.length f:=fun f hf=>by
 have hp:=oneK_parts h
 rcases needsF_mem hf with ⟨hk,rfl⟩ | ⟨hk,rfl | rfl⟩ | ⟨hk,rfl | rfl | rfl⟩ | ⟨hk,rfl | rfl⟩ | ⟨hk,⟨hi,rfl⟩ | ⟨_,rfl⟩ | ⟨_,rfl⟩⟩
 · exact well_alone (by decide) (hp.c (by omega))
 · exact well_less (hp.a (by omega)) (hp.c (by omega))
 · exact well_less (hp.b (by omega)) (hp.c (by omega))
 · exact well_alone (by decide) (hp.c (by omega))
 · exact well_less (hp.a (by omega)) (hp.c (by omega))
 · exact well_less (hp.b (by omega)) (hp.c (by omega))
 · exact well_alone (by decide) (hp.c (by omega))
 · exact well_less (hp.a (by omega)) (hp.c (by omega))
 · exact well_less (hp.a (by omega)) (oneK_need h hk hi)
 · exact well_alone (by decide) (hp.a (by omega))
 · exact well_alone (by decide) (hp.a (by omega))
theorem part_d {n:Nat} {o:KOp} (h:PartsK n o) (hk:o.kind≤14):0≤o.d∧o.d < n:=by have:=h.d;rwa [if_pos hk] at this
theorem part_e {n:Nat} {o:KOp} (h:PartsK n o) (hk:o.kind=14):0≤o.e∧o.e < n:=by have:=h.e;rw [if_pos hk] at this;exact this.1
theorem well_news {vs:List KVar} {o:KOp} {l:List Fct} (h:oneK vs o=true) (hl:∀ f∈l,wellF vs.length f):∀ f∈newsF vs o l,wellF vs.length f:=fun f hf=>by
 have hp:=oneK_parts h
 have hb:∀ {a b p q:Int} {told:List Int},(∀ v∈told,0≤v∧v < vs.length)→f∈bothF vs.length l a b p q told→wellF vs.length f:=fun ht h=>by
   obtain ⟨v,hv',rfl | rfl | ⟨y,hy,rfl | rfl⟩⟩:=bothF_mem h
   · exact well_alone (by decide) (ht v hv')
   · exact well_alone (by decide) (ht v hv')
   · exact well_less (ht v hv') (by omega)
   · exact well_less (by omega) (ht v hv')
 rcases newsF_mem hf with ⟨hk,rfl | rfl⟩ | ⟨hk,h⟩ | ⟨hk,_,rfl⟩ | ⟨hk,h⟩ | ⟨hk,h⟩ | ⟨_,h'⟩
 · exact well_alone (by decide) (part_d hp (by omega))
 · exact well_alone (by decide) (part_d hp (by omega))
 · obtain ⟨x,hx,hh,rfl⟩:=copyF_mem h
   have hd:=part_d hp (by omega)
   have hw:=hl x hx
   unfold hasF at hh
   simp only [Bool.or_eq_true,Bool.and_eq_true,beq_iff_eq] at hh
   split
   · rename_i he
     rcases hw with ⟨h1,h2,h3,h4⟩ | ⟨h1,h2,h3,h4,h5⟩
     · exact .inl ⟨h1,h2,hd⟩
     · exact .inr ⟨h1,hd.1,hd.2,h4,h5⟩
   · rename_i he
     rcases hw with ⟨h1,h2,h3,h4⟩ | ⟨h1,h2,h3,h4,h5⟩
     · omega
     · exact .inr ⟨h1,h2,h3,hd⟩
 · exact well_less (part_d hp (by omega)) (hp.c (by omega))
 · exact hb (fun v hv=>by rw [List.mem_singleton] at hv;subst hv;exact part_d hp (by omega)) h
 · exact hb (fun v hv=>by
     simp only [List.mem_cons,List.not_mem_nil,or_false] at hv
     rcases hv with rfl | rfl
     · exact part_d hp (by omega)
     · exact part_e hp hk) h
 · exact well_needs h f h'
structure WellL (n:Nat) (l:List Fct):Prop where
 fine:FineF l
 well:∀ f∈l,wellF n f
theorem well_after {vs:List KVar} {o:KOp} {l:List Fct} (ho:oneK vs o=true) (h:WellL vs.length l):WellL vs.length (afterF vs o l):=by
 refine ⟨fine_after h.fine,fun f hf=>?_⟩
 by_cases hc:o.kind=2∧o.d=o.a
 · unfold afterF at hf
   rw [if_pos hc] at hf
   exact h.well f hf
 · rw [mem_afterF hc] at hf
   rcases hf.2 with h1 | ⟨h1,_⟩
   · exact well_news ho h.well f h1
   · exact h.well f h1
theorem well_filter {n:Nat} {l:List Fct} (h:WellL n l) (p:Fct→Bool):WellL n (l.filter p):=⟨fine_filter h.fine p,fun f hf=>h.well f (List.mem_filter.1 hf).1⟩
def allWell (n:Nat):List Fct:=(List.range n).map (fun a:Nat=>aloneF 1 a)++((List.range n).map (fun a:Nat=>aloneF 3 a)++((List.range n).map fun a:Nat=>(List.range n).map fun b:Nat=>lessF a b).flatten)
theorem allWell_len (n:Nat):(allWell n).length=n+(n+n*n):=by
 have:∀ m,((List.range m).map fun a:Nat=>(List.range n).map fun b:Nat=>lessF a b).flatten.length=m*n:=by
   intro m
   induction m with
   | zero=>simp
   | succ m ih=>rw [List.range_succ,List.map_append,List.flatten_append,List.length_append,ih];simp [Nat.add_mul]
 simp [allWell,this,-List.length_flatten]
theorem mem_allWell {n:Nat} {f:Fct} (h:wellF n f):f∈allWell n:=by
 unfold allWell
 rcases h with ⟨h | h,h1,h2,h3⟩ | ⟨h,h1,h2,h3,h4⟩
 · refine List.mem_append_left _ (List.mem_map.2 ⟨f.a.toNat,List.mem_range.2 (by omega),Fct.ext_ ?_ ?_ ?_⟩)
   · exact h.symm
   · show ((f.a.toNat:Nat):Int)=f.a;omega
   · exact h1.symm
 · refine List.mem_append_right _ (List.mem_append_left _ (List.mem_map.2 ⟨f.a.toNat,List.mem_range.2 (by omega),Fct.ext_ ?_ ?_ ?_⟩))
   · exact h.symm
   · show ((f.a.toNat:Nat):Int)=f.a;omega
   · exact h1.symm
 · refine List.mem_append_right _ (List.mem_append_right _ (List.mem_flatten.2 ⟨_,List.mem_map.2 ⟨f.a.toNat,List.mem_range.2 (by omega),rfl⟩,List.mem_map.2 ⟨f.b.toNat,List.mem_range.2 (by omega),Fct.ext_ ?_ ?_ ?_⟩⟩))
   · exact h.symm
   · show ((f.a.toNat:Nat):Int)=f.a;omega
   · show ((f.b.toNat:Nat):Int)=f.b;omega
theorem ord_nodup {l:List Fct} (h:OrdF l):l.Nodup:=h.imp fun {x y} h e=>by subst e;rw [ltF_irr] at h;cases h
theorem well_len {n:Nat} {l:List Fct} (h:WellL n l):l.length≤n+(n+n*n):=by
 rw [←allWell_len]
 exact List.Nodup.length_le_of_subset (ord_nodup h.fine.ord) fun f hf=>mem_allWell (h.well f hf)
end Go.Proofs.YtjbabpnepjhllaaGreat
namespace Go.Proofs.YtjbabpnepjhllaaGreat
def getV (v:List Nat) (x:Int):Nat:=v.getD x.toNat 0
def holdsF (v:List Nat) (f:Fct):Bool:=if f.kind=1 then getV v f.a % 2 == 1 else if f.kind=3 then decide (0 < getV v f.a) else if f.kind=2 then decide (getV v f.a < getV v f.b) else false
def argK (v:List Nat) (x:Int):Nat:=if 0≤x then getV v x else 0
def limbN (vs:List KVar) (x:Int):Nat:=(limbsF vs x).toNat
def rawK (vs:List KVar) (o:KOp) (v:List Nat):Nat :=
 let a:=argK v o.a
 let b:=argK v o.b
 let c:=argK v o.c
 if o.kind=1 then o.imm
 else if o.kind=2 then a
 else if o.kind=3 then a+b
 else if o.kind=4 then a % LB ^ limbN vs o.d+LB ^ limbN vs o.d - b % LB ^ limbN vs o.d
 else if o.kind=5∨o.kind=6 then a*b
 else if o.kind=7 then (if a < b then 1 else 0)
 else if o.kind=8 then (if c % 2=1 then a else b)
 else if o.kind=9 then a % c
 else if o.kind=10 then (a+b) % c
 else if o.kind=11 then (a % c+c - b % c) % c
 else if o.kind=12 then montN (a*b) c (limbN vs o.c)
 else if o.kind=13 then a ^ b % c
 else 0
def valK (vs:List KVar) (o:KOp) (v:List Nat):Nat:=rawK vs o v % LB ^ limbN vs o.d
def swapV (v:List Nat) (d e:Int):List Nat:=(v.set d.toNat (getV v e)).set e.toNat (getV v d)
def stepV (vs:List KVar) (o:KOp) (v:List Nat):List Nat :=
 if o.kind=17 then v else if o.kind=14 then (if getV v o.c % 2=1 then swapV v o.d o.e else v) else v.set o.d.toNat (valK vs o v)
structure ValOk (vs:List KVar) (v:List Nat):Prop where
 len:v.length=vs.length
 lt:∀ x:Int,0≤x→x < vs.length→getV v x < LB ^ limbN vs x
def SatV (v:List Nat) (l:List Fct):Prop:=∀ f∈l,holdsF v f=true
theorem getV_set {v:List Nat} {d x:Int} {u:Nat} (hd:0≤d∧d < v.length) (hx:0≤x):getV (v.set d.toNat u) x=if x=d then u else getV v x:=by
 unfold getV
 rw [List.getD_eq_getElem?_getD,List.getD_eq_getElem?_getD]
 by_cases h:x=d
 · subst h
   rw [if_pos rfl,List.getElem?_set_self (by omega)]
   rfl
 · rw [if_neg h,List.getElem?_set_ne (by omega)]
theorem holds_alone (v:List Nat) (k a:Int) (hk:k=1∨k=3):holdsF v (aloneF k a)=(if k=1 then getV v a % 2 == 1 else decide (0 < getV v a)):=by
 unfold holdsF aloneF
 rcases hk with rfl | rfl <;> rfl
theorem holds_less (v:List Nat) (a b:Int):holdsF v (lessF a b)=decide (getV v a < getV v b):=by
 unfold holdsF lessF
 rfl
theorem knows_holds {v:List Nat} {l:List Fct} (hs:SatV v l) {f:Fct} (hk:knowsF l f=true):holdsF v f=true:=by
 obtain ⟨x,hx,h1⟩:=List.any_eq_true.1 hk
 have h2:=hs x hx
 unfold saysF at h1
 simp only [Bool.or_eq_true,Bool.and_eq_true,beq_iff_eq] at h1
 rcases h1 with rfl | ⟨h3,⟨h4,h5⟩ | ⟨h4,h5⟩⟩
 · exact h2
 · unfold holdsF at h2 ⊢
   rw [if_pos h4,beq_iff_eq] at h2
   rw [if_neg (by omega),if_pos h3,←h5,decide_eq_true_eq]
   omega
 · unfold holdsF at h2 ⊢
   rw [if_neg (by omega),if_neg (by omega),if_pos h4,decide_eq_true_eq] at h2
   rw [if_neg (by omega),if_pos h3,←h5,decide_eq_true_eq]
   omega
theorem holds_same {v u:List Nat} {f:Fct} (ha:getV u f.a=getV v f.a) (hb:f.kind=2→getV u f.b=getV v f.b):holdsF u f=holdsF v f:=by
 unfold holdsF
 rw [ha]
 by_cases h:f.kind=2
 · rw [hb h]
 · rw [if_neg h,if_neg h]
theorem both_sat {v:List Nat} {n:Nat} {l:List Fct} {a b p q:Int} {told:List Int} {f:Fct} (hs:SatV v l) (hf:f∈bothF n l a b p q told) :
   ∃ u∈told,(∃ k,(k=1∨k=3)∧f=aloneF k u∧holdsF v (aloneF k a)=true∧holdsF v (aloneF k b)=true)∨(∃ y:Nat,y < n∧(y:Int)≠p∧(y:Int)≠q∧((f=lessF u y∧holdsF v (lessF a y)=true∧holdsF v (lessF b y)=true)∨(f=lessF y u∧holdsF v (lessF y a)=true∧holdsF v (lessF y b)=true))):=by
 have ask:∀ {of:Int→Fct},f∈askF l of a b told→∃ u∈told,f=of u∧holdsF v (of a)=true∧holdsF v (of b)=true:=fun {of} h=>by
   unfold askF at h
   split at h
   · rename_i hk
     rw [Bool.and_eq_true] at hk
     obtain ⟨u,hu,rfl⟩:=List.mem_map.1 h
     exact ⟨u,hu,rfl,knows_holds hs hk.1,knows_holds hs hk.2⟩
   · cases h
 unfold bothF at hf
 simp only [List.mem_append,List.mem_flatten,List.mem_map] at hf
 rcases hf with (hf | hf) | ⟨s,⟨y,hy,rfl⟩,hf⟩
 · obtain ⟨u,hu,e,h1,h2⟩:=ask hf
   exact ⟨u,hu,.inl ⟨1,.inl rfl,e,h1,h2⟩⟩
 · obtain ⟨u,hu,e,h1,h2⟩:=ask hf
   exact ⟨u,hu,.inl ⟨3,.inr rfl,e,h1,h2⟩⟩
 · split at hf
   · cases hf
   · rename_i hn
     have hyn:=List.mem_range.1 hy
     rcases List.mem_append.1 hf with hf | hf
     · obtain ⟨u,hu,e,h1,h2⟩:=ask hf
       exact ⟨u,hu,.inr ⟨y,hyn,fun h=>hn (.inl h),fun h=>hn (.inr h),.inl ⟨e,h1,h2⟩⟩⟩
     · obtain ⟨u,hu,e,h1,h2⟩:=ask hf
       exact ⟨u,hu,.inr ⟨y,hyn,fun h=>hn (.inl h),fun h=>hn (.inr h),.inr ⟨e,h1,h2⟩⟩⟩
theorem told_sat {v u:List Nat} {a b t p q:Int} {n:Nat} {f:Fct} (ht:getV u t=getV v a∨getV u t=getV v b) (hy:∀ y:Nat,y < n→(y:Int)≠p→(y:Int)≠q→getV u y=getV v y)
   (hf:(∃ k,(k=1∨k=3)∧f=aloneF k t∧holdsF v (aloneF k a)=true∧holdsF v (aloneF k b)=true)∨(∃ y:Nat,y < n∧(y:Int)≠p∧(y:Int)≠q∧((f=lessF t y∧holdsF v (lessF a y)=true∧holdsF v (lessF b y)=true)∨(f=lessF y t∧holdsF v (lessF y a)=true∧holdsF v (lessF y b)=true)))):holdsF u f=true:=by
 rcases hf with ⟨k,hk,rfl,h1,h2⟩ | ⟨y,hyn,hp,hq,⟨rfl,h1,h2⟩ | ⟨rfl,h1,h2⟩⟩
 · rw [holds_alone _ _ _ hk] at *
   rcases ht with h | h <;> rw [h] <;> assumption
 · rw [holds_less,hy y hyn hp hq] at *
   rcases ht with h | h <;> rw [h] <;> assumption
 · rw [holds_less,hy y hyn hp hq] at *
   rcases ht with h | h <;> rw [h] <;> assumption
end Go.Proofs.YtjbabpnepjhllaaGreat
namespace Go.Proofs.YtjbabpnepjhllaaGreat
theorem limb_pos {vs:List KVar} (hv:varsK vs=true) {x:Int} (h:0≤x∧x < vs.length):1≤limbN vs x∧limbN vs x≤512∧limbsF vs x=(limbN vs x:Nat):=by
 have key:∀ k,∀ n,varTo vs k=some n→∀ i,i < k→∀ v,vs[i]? = some v→varOk v=true:=by
   intro k
   induction k with
   | zero=>intro n _ i hi;omega
   | succ k ih =>
     intro n hn i hi v hvi
     simp only [varTo] at hn
     split at hn
     · rename_i m u hm hu
       split at hn
       · cases hn
       · rename_i hok
         rcases Nat.lt_or_ge i k with h1 | h1
         · exact ih m hm i h1 v hvi
         · obtain rfl:i=k:=by omega
           rw [hu] at hvi
           cases hvi
           simpa using hok
     · cases hn
 obtain ⟨v,hvx⟩:∃ v,vs[x.toNat]? = some v:=⟨_,List.getElem?_eq_getElem (by omega)⟩
 unfold varsK at hv
 split at hv
 · rename_i n hn
   have h1:=key _ n hn x.toNat (by omega) v hvx
   unfold varOk at h1
   simp only [Bool.and_eq_true,decide_eq_true_eq] at h1
   have e:limbsF vs x=v.limbs:=by unfold limbsF;rw [List.getD_eq_getElem?_getD,hvx];rfl
   unfold limbN
   rw [e]
   omega
 · cases hv
theorem agree_limbs {vs:List KVar} {o:KOp} (h:oneK vs o=true) (h17:o.kind≠17) {x y:Int} (hx:x∈alikeK o) (hy:y∈alikeK o):limbN vs x=limbN vs y:=by
 unfold oneK at h
 rw [if_neg h17] at h
 simp only [Bool.and_eq_true] at h
 obtain ⟨_,_,_,_,_,_,_,ha⟩:=h
 unfold agreeK at ha
 rw [List.all_eq_true] at ha
 have h1:=ha x hx
 have h2:=ha y hy
 rw [beq_iff_eq] at h1 h2
 unfold limbN limbsF
 unfold varK at h1 h2
 rw [h1,h2]
theorem pow_LB_le {a b:Nat} (h:a≤b):LB ^ a≤LB ^ b:=Nat.pow_le_pow_right (by decide) h
theorem argK_pos {v:List Nat} {x:Int} (h:0≤x):argK v x=getV v x:=by unfold argK;rw [if_pos h]
theorem need_holds {o:KOp} {v:List Nat} (hn:∀ f∈needsF o,holdsF v f=true) (h9:9≤o.kind) (h13:o.kind≤13):0 < getV v o.c:=by
 unfold needsF at hn
 by_cases k9:o.kind=9
 · rw [if_pos k9] at hn
   have:=hn _ List.mem_cons_self
   rw [holds_alone _ _ _ (.inr rfl),if_neg (by decide),decide_eq_true_eq] at this
   exact this
 rw [if_neg k9] at hn
 by_cases k10:o.kind=10∨o.kind=11
 · rw [if_pos k10] at hn
   have:=hn _ List.mem_cons_self
   rw [holds_less,decide_eq_true_eq] at this
   omega
 rw [if_neg k10] at hn
 have:holdsF v (aloneF 1 o.c)=true:=by
   by_cases k12:o.kind=12
   · rw [if_pos k12] at hn;exact hn _ List.mem_cons_self
   · rw [if_neg k12,if_pos (by omega)] at hn;exact hn _ List.mem_cons_self
 rw [holds_alone _ _ _ (.inl rfl),if_pos rfl,beq_iff_eq] at this
 omega
theorem raw_mod {vs:List KVar} {o:KOp} {v:List Nat} (hp:PartsK vs.length o) (hn:∀ f∈needsF o,holdsF v f=true) (h9:9≤o.kind) (h13:o.kind≤13):rawK vs o v < getV v o.c:=by
 have hc:=need_holds hn h9 h13
 have h0:=hp.c (by omega)
 unfold rawK
 simp only [argK_pos h0.1]
 rw [if_neg (by omega),if_neg (by omega),if_neg (by omega),if_neg (by omega),if_neg (by omega),if_neg (by omega),if_neg (by omega)]
 split
 · exact Nat.mod_lt _ hc
 split
 · exact Nat.mod_lt _ hc
 split
 · exact Nat.mod_lt _ hc
 split
 · exact montN_lt hc
 split
 · exact Nat.mod_lt _ hc
 · exact hc
theorem alike_mod {o:KOp} (h9:9≤o.kind) (h13:o.kind≤13):o.d∈alikeK o∧o.c∈alikeK o:=by
 unfold alikeK
 rw [if_neg (by omega),if_neg (by omega),if_neg (by omega)]
 split
 · simp
 split
 · simp
 split
 · simp
 · omega
theorem raw_small {vs:List KVar} {o:KOp} {v:List Nat} (hv:varsK vs=true) (h1:oneK vs o=true) (hk:KOpOk o) (hok:ValOk vs v) (hn:∀ f∈needsF o,holdsF v f=true) (h:o.kind=1∨o.kind=8∨(9≤o.kind∧o.kind≤13)∨(o.kind=2∧limbsF vs o.a≤limbsF vs o.d)):rawK vs o v < LB ^ limbN vs o.d:=by
 have h17:o.kind≠17:=by omega
 have hp:=oneK_parts h1
 have hd:=part_d hp (by omega)
 obtain ⟨l1,l2,l3⟩:=limb_pos hv hd
 rcases h with h | h | ⟨h9,h13⟩ | ⟨h,hl⟩
 · unfold rawK
   simp only
   rw [if_pos h]
   have h2:=hk.imm
   have h3:=pow_LB_le l1
   rw [Nat.pow_one] at h3
   exact Nat.lt_of_lt_of_le h2 h3
 · have ha:=hp.a (.inl (by omega))
   have hb:=hp.b (.inl (by omega))
   have e:alikeK o=[o.d,o.a,o.b]:=by unfold alikeK;rw [if_neg (by omega),if_neg (by omega),if_pos h]
   have ea:=agree_limbs h1 h17 (x:=o.a) (y:=o.d) (by rw [e];simp) (by rw [e];simp)
   have eb:=agree_limbs h1 h17 (x:=o.b) (y:=o.d) (by rw [e];simp) (by rw [e];simp)
   have h2:=hok.lt o.a ha.1 ha.2
   have h3:=hok.lt o.b hb.1 hb.2
   rw [ea] at h2
   rw [eb] at h3
   unfold rawK
   simp only [argK_pos ha.1,argK_pos hb.1]
   rw [if_neg (by omega),if_neg (by omega),if_neg (by omega),if_neg (by omega),if_neg (by omega),if_neg (by omega),if_pos h]
   split <;> assumption
 · have h2:=raw_mod hp hn h9 h13
   have hc:=hp.c (by omega)
   have h3:=hok.lt o.c hc.1 hc.2
   obtain ⟨m1,m2⟩:=alike_mod h9 h13
   rw [agree_limbs h1 h17 m2 m1] at h3
   omega
 · have ha:=hp.a (.inl (by omega))
   obtain ⟨_,_,a3⟩:=limb_pos hv ha
   have h2:=hok.lt o.a ha.1 ha.2
   have h3:=pow_LB_le (show limbN vs o.a≤limbN vs o.d by omega)
   unfold rawK
   simp only [argK_pos ha.1]
   rw [if_neg (by omega),if_pos h]
   omega
theorem val_raw {vs:List KVar} {o:KOp} {v:List Nat} (h:rawK vs o v < LB ^ limbN vs o.d):valK vs o v=rawK vs o v:=Nat.mod_eq_of_lt h
theorem step_get {vs:List KVar} {o:KOp} {v:List Nat} (hp:PartsK vs.length o) (hok:ValOk vs v) (h14:o.kind < 14) {x:Int} (hx:0≤x):getV (stepV vs o v) x=if x=o.d then valK vs o v else getV v x:=by
 have hd:=part_d hp (by omega)
 unfold stepV
 rw [if_neg (by omega),if_neg (by omega)]
 exact getV_set ⟨hd.1,by rw [hok.len];exact hd.2⟩ hx
theorem step_swap {vs:List KVar} {o:KOp} {v:List Nat} (hp:PartsK vs.length o) (hok:ValOk vs v) (h14:o.kind=14) {x:Int} (hx:0≤x):(x=o.d→getV (stepV vs o v) x=getV v o.d∨getV (stepV vs o v) x=getV v o.e)∧(x=o.e→getV (stepV vs o v) x=getV v o.d∨getV (stepV vs o v) x=getV v o.e)∧(x≠o.d→x≠o.e→getV (stepV vs o v) x=getV v x):=by
 have hd:=part_d hp (by omega)
 have he:=part_e hp h14
 have hne:o.d≠o.e:=by have:=hp.e;rw [if_pos h14] at this;exact this.2
 unfold stepV
 rw [if_neg (by omega),if_pos h14]
 split
 · unfold swapV
   have hl:((v.set o.d.toNat (getV v o.e)).length:Int)=vs.length:=by rw [List.length_set,hok.len]
   rw [getV_set ⟨he.1,by omega⟩ hx,getV_set ⟨hd.1,by rw [hok.len];exact hd.2⟩ hx]
   refine ⟨fun h=>?_,fun h=>?_,fun h1 h2=>?_⟩
   · rw [if_neg (by omega),if_pos h];exact .inr rfl
   · rw [if_pos h];exact .inl rfl
   · rw [if_neg h2,if_neg h1]
 · exact ⟨fun h=>.inl (by rw [h]),fun h=>.inr (by rw [h]),fun _ _=>rfl⟩
theorem val_ok {vs:List KVar} {o:KOp} {v:List Nat} (h1:oneK vs o=true) (hok:ValOk vs v) (h15:o.kind≠15) (h16:o.kind≠16):ValOk vs (stepV vs o v):=by
 have hp:=oneK_parts h1
 by_cases h17:o.kind=17
 · unfold stepV;rw [if_pos h17];exact hok
 by_cases h14:o.kind=14
 · have e:alikeK o=[o.d,o.e]:=by unfold alikeK;rw [if_neg (by omega),if_pos h14]
   have hl:=agree_limbs h1 h17 (x:=o.d) (y:=o.e) (by rw [e];simp) (by rw [e];simp)
   have hd:=part_d hp (by omega)
   have he:=part_e hp h14
   refine ⟨?_,fun x h0 hx=>?_⟩
   · unfold stepV swapV
     rw [if_neg h17,if_pos h14]
     split
     · rw [List.length_set,List.length_set];exact hok.len
     · exact hok.len
   · obtain ⟨s1,s2,s3⟩:=step_swap hp hok h14 h0
     have hvd:=hok.lt o.d hd.1 hd.2
     have hve:=hok.lt o.e he.1 he.2
     by_cases hxd:x=o.d
     · subst hxd
       rcases s1 rfl with h | h <;> rw [h]
       · exact hvd
       · rw [hl];exact hve
     by_cases hxe:x=o.e
     · subst hxe
       rcases s2 rfl with h | h <;> rw [h]
       · rw [←hl];exact hvd
       · exact hve
     rw [s3 hxd hxe]
     exact hok.lt x h0 hx
 have hk:=hp.kind
 refine ⟨?_,fun x h0 hx=>?_⟩
 · unfold stepV
   rw [if_neg h17,if_neg h14,List.length_set];exact hok.len
 · rw [step_get hp hok (by omega) h0]
   split
   · rename_i h;subst h
     exact Nat.mod_lt _ (Nat.pow_pos (by decide))
   · exact hok.lt x h0 hx
end Go.Proofs.YtjbabpnepjhllaaGreat
namespace Go.Proofs.YtjbabpnepjhllaaGreat
theorem sat_after {vs:List KVar} {o:KOp} {v:List Nat} {l:List Fct} (hv:varsK vs=true) (h1:oneK vs o=true) (hk:KOpOk o) (hok:ValOk vs v) (hn:∀ f∈needsF o,holdsF v f=true) (hw:∀ f∈l,wellF vs.length f) (hs:SatV v l) (h15:o.kind≠15) (h16:o.kind≠16):SatV (stepV vs o v) (afterF vs o l):=by
 have hp:=oneK_parts h1
 intro f hf
 by_cases h2:o.kind=2∧o.d=o.a
 ·
   unfold afterF at hf
   rw [if_pos h2] at hf
   have ha:=hp.a (.inl (by omega))
   have hraw:=raw_small hv h1 hk hok hn (.inr (.inr (.inr ⟨h2.1,by rw [h2.2];exact Int.le_refl _⟩)))
   have e:valK vs o v=getV v o.d:=by
     rw [val_raw hraw]
     unfold rawK
     simp only [argK_pos ha.1]
     rw [if_neg (by omega),if_pos h2.1,h2.2]
   have hg:∀ x:Int,0≤x→getV (stepV vs o v) x=getV v x:=fun x hx=>by
     rw [step_get hp hok (by omega) hx]
     split
     · rename_i hxd;rw [e,hxd]
     · rfl
   have hwf:=hw f hf
   unfold wellF at hwf
   rw [holds_same (hg _ (by omega)) fun _=>hg _ (by omega)]
   exact hs f hf
 rw [mem_afterF h2] at hf
 rcases hf.2 with hnew | ⟨hold,hgone⟩
 rotate_left
 ·
   have hwf:=hw f hold
   unfold wellF at hwf
   have hgd:0≤o.d→hasF f o.d=false:=fun h=>by
     cases hh:hasF f o.d
     · rfl
     · unfold goneF at hgone;rw [hh,decide_eq_true h] at hgone;simp at hgone
   have hge:0≤o.e→hasF f o.e=false:=fun h=>by
     cases hh:hasF f o.e
     · rfl
     · unfold goneF at hgone;rw [hh,decide_eq_true h] at hgone;simp at hgone
   have hnh:∀ {y:Int},hasF f y=false→f.a≠y∧(f.kind=2→f.b≠y):=fun {y} h=>by
     unfold hasF at h
     simp only [Bool.or_eq_false_iff,beq_eq_false_iff_ne,Bool.and_eq_false_iff] at h
     exact ⟨h.1,fun hk hb=>by rcases h.2 with h3 | h3 <;> contradiction⟩
   have hg:∀ x:Int,0≤x→(0≤o.d→x≠o.d)→(0≤o.e→x≠o.e)→getV (stepV vs o v) x=getV v x:=fun x hx hxd hxe=>by
     by_cases h17:o.kind=17
     · unfold stepV;rw [if_pos h17]
     by_cases h14:o.kind=14
     · exact (step_swap hp hok h14 hx).2.2 (hxd (part_d hp (by omega)).1) (hxe (part_e hp h14).1)
     · have:=hp.kind
       rw [step_get hp hok (by omega) hx,if_neg (hxd (part_d hp (by omega)).1)]
   rw [holds_same (hg _ (by omega) (fun h=>(hnh (hgd h)).1) fun h=>(hnh (hge h)).1) fun hk2=>hg _ (by omega) (fun h=>(hnh (hgd h)).2 hk2) fun h=>(hnh (hge h)).2 hk2]
   exact hs f hold
 unfold newsF at hnew
 split at hnew
 · rename_i k1
   have hd:=part_d hp (by omega)
   have hraw:=raw_small hv h1 hk hok hn (.inl k1)
   have e:getV (stepV vs o v) o.d=o.imm:=by
     rw [step_get hp hok (by omega) hd.1,if_pos rfl,val_raw hraw]
     unfold rawK
     simp only
     rw [if_pos k1]
   rcases List.mem_append.1 hnew with h | h
   · split at h
     · simp at h;subst h
       rw [holds_alone _ _ _ (.inl rfl),if_pos rfl,e,beq_iff_eq];assumption
     · cases h
   · split at h
     · simp at h;subst h
       rw [holds_alone _ _ _ (.inr rfl),if_neg (by decide),e,decide_eq_true_eq];assumption
     · cases h
 split at hnew
 · rename_i k2
   split at hnew
   · rename_i hl
     have hd:=part_d hp (by omega)
     have ha:=hp.a (.inl (by omega))
     have hda:o.d≠o.a:=fun e=>h2 ⟨k2,e⟩
     have hraw:=raw_small hv h1 hk hok hn (.inr (.inr (.inr ⟨k2,hl⟩)))
     have e:getV (stepV vs o v) o.d=getV v o.a:=by
       rw [step_get hp hok (by omega) hd.1,if_pos rfl,val_raw hraw]
       unfold rawK
       simp only [argK_pos ha.1]
       rw [if_neg (by omega),if_pos k2]
     have hg:∀ x:Int,0≤x→x≠o.d→getV (stepV vs o v) x=getV v x:=fun x hx hxd=>by rw [step_get hp hok (by omega) hx,if_neg hxd]
     unfold copyF at hnew
     obtain ⟨x,hx,rfl⟩:=List.mem_map.1 hnew
     obtain ⟨hxl,hxh⟩:=List.mem_filter.1 hx
     simp only [Bool.and_eq_true,Bool.not_eq_true'] at hxh
     have hwx:=hw x hxl
     have hsx:=hs x hxl
     have hnd:x.a≠o.d∧(x.kind=2→x.b≠o.d):=by
       have h:=hxh.2
       unfold hasF at h
       simp only [Bool.or_eq_false_iff,beq_eq_false_iff_ne,Bool.and_eq_false_iff] at h
       exact ⟨h.1,fun hk hb=>by rcases h.2 with h3 | h3 <;> contradiction⟩
     unfold wellF at hwx
     by_cases hxa:x.a=o.a
     · rw [if_pos hxa]
       unfold holdsF at hsx ⊢
       simp only
       rw [e]
       rw [hxa] at hsx
       by_cases hk2:x.kind=2
       · rw [hg x.b (by omega) (hnd.2 hk2)];exact hsx
       · rcases hwx with ⟨hk3,_⟩ | ⟨hk3,_⟩
         · rcases hk3 with hk3 | hk3
           · rw [if_pos hk3] at hsx ⊢;exact hsx
           · rw [if_neg (by omega),if_pos hk3] at hsx ⊢;exact hsx
         · contradiction
     · rw [if_neg hxa]
       have hxb:x.kind=2∧x.b=o.a:=by
         have h:=hxh.1
         unfold hasF at h
         simp only [Bool.or_eq_true,beq_iff_eq,Bool.and_eq_true] at h
         rcases h with h | h
         · contradiction
         · exact h
       unfold holdsF at hsx ⊢
       simp only
       rw [e,hg x.a (by omega) hnd.1]
       rw [hxb.2] at hsx
       exact hsx
   · cases hnew
 split at hnew
 · rename_i k9
   split at hnew
   · rename_i hdc
     simp at hnew
     subst hnew
     have hd:=part_d hp (by omega)
     have hc:=hp.c (by omega)
     have hraw:=raw_small hv h1 hk hok hn (.inr (.inr (.inl ⟨by omega,by omega⟩)))
     have hm:=raw_mod hp hn (by omega) (by omega)
     rw [holds_less,step_get hp hok (by omega) hd.1,if_pos rfl,val_raw hraw,step_get hp hok (by omega) hc.1,if_neg (fun e=>hdc e.symm),decide_eq_true_eq]
     exact hm
   · cases hnew
 split at hnew
 · rename_i k8
   have hd:=part_d hp (by omega)
   have ha:=hp.a (.inl (by omega))
   have hb:=hp.b (.inl (by omega))
   have hraw:=raw_small hv h1 hk hok hn (.inr (.inl k8))
   obtain ⟨u,hu,hf2⟩:=both_sat hs hnew
   simp at hu
   subst hu
   refine told_sat (a:=o.a) (b:=o.b) ?_ (fun y _ hy _=>?_) hf2
   · rw [step_get hp hok (by omega) hd.1,if_pos rfl,val_raw hraw]
     unfold rawK
     simp only [argK_pos ha.1,argK_pos hb.1]
     rw [if_neg (by omega),if_neg (by omega),if_neg (by omega),if_neg (by omega),if_neg (by omega),if_neg (by omega),if_pos k8]
     split
     · exact .inl rfl
     · exact .inr rfl
   · rw [step_get hp hok (by omega) (by omega),if_neg hy]
 split at hnew
 · rename_i k14
   have hd:=part_d hp (by omega)
   have he:=part_e hp k14
   obtain ⟨u,hu,hf2⟩:=both_sat hs hnew
   simp only [List.mem_cons,List.not_mem_nil,or_false] at hu
   refine told_sat (a:=o.d) (b:=o.e) ?_ (fun y _ hy1 hy2=>(step_swap hp hok k14 (by omega)).2.2 hy1 hy2) hf2
   rcases hu with rfl | rfl
   · exact (step_swap hp hok k14 hd.1).1 rfl
   · exact (step_swap hp hok k14 he.1).2.1 rfl
 split at hnew
 · rename_i k17
   unfold stepV
   rw [if_pos k17]
   exact hn f hnew
 · cases hnew
inductive DoV (vs:List KVar) (ops:List KOp):Bool→Nat→Nat→Nat→List Nat→Option (List Nat)→Prop
 | done {i t n v} (h:t≤i):DoV vs ops false i t n v (some v)
 | miss {i t n v o} (h:i < t) (ho:ops[i]? = some o) (hn:(needsF o).all (holdsF v)=false):DoV vs ops false i t n v none
 | op {i t n v o r} (h:i < t) (ho:ops[i]? = some o) (hn:(needsF o).all (holdsF v)=true) (hk:o.kind≠15) (hr:DoV vs ops false (i+1) t n (stepV vs o v) r):DoV vs ops false i t n v r
 | loopNo {i t n v o e} (h:i < t) (ho:ops[i]? = some o) (hn:(needsF o).all (holdsF v)=true) (hk:o.kind=15) (he:(kEnds ops).getD i 0=((e:Nat):Int)) (hl:DoV vs ops true i e o.imm v none):DoV vs ops false i t n v none
 | loop {i t n v o e v1 r} (h:i < t) (ho:ops[i]? = some o) (hn:(needsF o).all (holdsF v)=true) (hk:o.kind=15) (he:(kEnds ops).getD i 0=((e:Nat):Int)) (hl:DoV vs ops true i e o.imm v (some v1)) (hr:DoV vs ops false (e+1) t n v1 r):DoV vs ops false i t n v r
 | stop {i e v}:DoV vs ops true i e 0 v (some v)
 | bodyNo {i e n v} (hb:DoV vs ops false (i+1) e 0 v none):DoV vs ops true i e (n+1) v none
 | body {i e n v v1 r} (hb:DoV vs ops false (i+1) e 0 v (some v1)) (hr:DoV vs ops true i e n v1 r):DoV vs ops true i e (n+1) v r
theorem doV_ends {vs:List KVar} {ops:List KOp} (hb:KBal ops):∀ (m i t n:Nat),LiveK ops i t→t - i≤m→∀ v,∃ r,DoV vs ops false i t n v r:=by
 intro m
 induction m with
 | zero=>exact fun i t n h hn v=>⟨_,.done (by omega)⟩
 | succ m ih =>
   intro i t n h hn v
   rcases Nat.lt_or_ge i t with hi | hi
   rotate_left
   · exact ⟨_,.done hi⟩
   obtain ⟨o,ho⟩:∃ o,ops[i]? = some o:=⟨_,List.getElem?_eq_getElem (by have:=h.len;omega)⟩
   cases hnd:(needsF o).all (holdsF v)
   · exact ⟨_,.miss hi ho hnd⟩
   by_cases hk:o.kind=15
   · obtain ⟨e,he,h1,h2,h3,h4,_⟩:=h.loop hb hi ho hk
     have key:∀ (c:Nat) (v:List Nat),∃ r,DoV vs ops true i e c v r:=by
       intro c
       induction c with
       | zero=>exact fun v=>⟨_,.stop⟩
       | succ c ihc =>
         intro v
         obtain ⟨r,hr⟩:=ih (i+1) e 0 h3 (by omega) v
         cases r with
         | none=>exact ⟨_,.bodyNo hr⟩
         | some v1 =>
           obtain ⟨r2,hr2⟩:=ihc v1
           exact ⟨_,.body hr hr2⟩
     obtain ⟨r,hl⟩:=key o.imm v
     cases r with
     | none=>exact ⟨_,.loopNo hi ho hnd hk he hl⟩
     | some v1 =>
       obtain ⟨r2,hr2⟩:=ih (e+1) t n h4 (by omega) v1
       exact ⟨_,.loop hi ho hnd hk he hl hr2⟩
   · obtain ⟨_,h2⟩:=h.op hb hi ho hk
     obtain ⟨r,hr⟩:=ih (i+1) t n h2 (by omega) (stepV vs o v)
     exact ⟨_,.op hi ho hnd hk hr⟩
structure SndK (vs:List KVar) (ops:List KOp) (l':List Fct) (A:List (List Fct)):Prop where
 bal:KBal ops
 vars:varsK vs=true
 one:∀ (i:Nat) (o:KOp),ops[i]? = some o→oneK vs o=true
 ok:∀ o∈ops,KOpOk o
 good:GoodD vs ops 0 ops.length l' A
 well:∀ j,j≤ops.length→∀ f∈gvD A ops.length l' j,wellF vs.length f
 know:∀ (i:Nat) (o:KOp),ops[i]? = some o→∀ f∈needsF o,knowsF (gvD A ops.length l' i) f=true
theorem doV_sound {vs:List KVar} {ops:List KOp} {l':List Fct} {A:List (List Fct)} (H:SndK vs ops l' A) {m:Bool} {i t n:Nat} {v:List Nat} {r:Option (List Nat)} (h:DoV vs ops m i t n v r):ValOk vs v →
   match m with
   | false=>LiveK ops i t→SatV v (gvD A ops.length l' i)→∃ v',r=some v'∧ValOk vs v'∧SatV v' (gvD A ops.length l' t)
   | true=>LiveK ops (i+1) t→(∀ v1,SatV v1 (gvD A ops.length l' t)→SatV v1 (gvD A ops.length l' (i+1)))→SatV v (gvD A ops.length l' (i+1))→∃ v',r=some v'∧ValOk vs v'∧(1≤n→SatV v' (gvD A ops.length l' t)):=by
 have hneed:∀ {i:Nat} {o:KOp} {v:List Nat},ops[i]? = some o→SatV v (gvD A ops.length l' i)→∀ f∈needsF o,holdsF v f=true:=fun ho hs f hf=>knows_holds hs (H.know _ _ ho f hf)
 induction h with
 | @done i t n v h =>
   intro hv hL hs
   have e:i=t:=by have:=hL.le;omega
   subst e
   exact ⟨v,rfl,hv,hs⟩
 | @miss i t n v o h ho hn =>
   intro hv hL hs
   have h1:=hneed ho hs
   rw [List.all_eq_true.2 h1] at hn
   cases hn
 | @op i t n v o r h ho hn hk hr ih =>
   intro hv hL hs
   obtain ⟨h16,hL1⟩:=hL.op H.bal h ho hk
   have hlt:=(List.getElem?_eq_some_iff.1 ho).1
   have hg:=H.good.op i o (Nat.zero_le _) hlt ho hk h16
   refine ih (val_ok (H.one i o ho) hv hk h16) hL1 ?_
   rw [hg]
   exact sat_after H.vars (H.one i o ho) (H.ok o (List.mem_of_getElem? ho)) hv (hneed ho hs) (H.well i (by omega)) hs hk h16
 | @loopNo i t n v o e h ho hn hk he hl ih =>
   intro hv hL hs
   obtain ⟨e',he',h1,h2,hL1,hL2,_⟩:=hL.loop H.bal h ho hk
   have:e'=e:=by rw [he] at he';omega
   subst this
   have hlt:=(List.getElem?_eq_some_iff.1 ho).1
   obtain ⟨g1,g2⟩:=H.good.loop i o e' (Nat.zero_le _) hlt ho hk he
   obtain ⟨v',hr,_⟩:=ih hv hL1 (fun v1 hs1 f hf=>knows_holds hs1 (g1 f hf).2) (fun f hf=>knows_holds hs (g1 f hf).1)
   cases hr
 | @loop i t n v o e v1 r h ho hn hk he hl hr ihl ihr =>
   intro hv hL hs
   obtain ⟨e',he',h1,h2,hL1,hL2,_⟩:=hL.loop H.bal h ho hk
   have:e'=e:=by rw [he] at he';omega
   subst this
   have hlt:=(List.getElem?_eq_some_iff.1 ho).1
   obtain ⟨g1,g2⟩:=H.good.loop i o e' (Nat.zero_le _) hlt ho hk he
   obtain ⟨v',hr',hv',hs'⟩:=ihl hv hL1 (fun v1 hs1 f hf=>knows_holds hs1 (g1 f hf).2) (fun f hf=>knows_holds hs (g1 f hf).1)
   cases hr'
   have himm:1≤o.imm:=by
     have h1:=H.one i o ho
     unfold oneK numK at h1
     rw [if_neg (by omega),if_neg (by omega),if_neg (by omega),if_pos hk] at h1
     simp only [Bool.and_eq_true,decide_eq_true_eq] at h1
     exact h1.2.2.1.1
   refine ihr hv' hL2 ?_
   rw [g2]
   exact hs' himm
 | @stop i e v =>
   intro hv _ _ _
   exact ⟨v,rfl,hv,fun h=>absurd h (by decide)⟩
 | @bodyNo i e n v hb ih =>
   intro hv hL _ hs
   obtain ⟨v',hr,_⟩:=ih hv hL hs
   cases hr
 | @body i e n v v1 r hb hr ihb ihr =>
   intro hv hL himp hs
   obtain ⟨v',hr',hv',hs'⟩:=ihb hv hL hs
   cases hr'
   obtain ⟨v2,e2,hv2,hs2⟩:=ihr hv' hL himp (himp _ hs')
   refine ⟨v2,e2,hv2,fun _=>?_⟩
   cases hr with
   | stop=>cases e2;exact hs'
   | bodyNo=>exact hs2 (by omega)
   | body=>exact hs2 (by omega)
end Go.Proofs.YtjbabpnepjhllaaGreat
namespace Go.Proofs.YtjbabpnepjhllaaGreat
open Go.RowKit Go.Maps
def factV (f:Fct):Value:=.agg #[.int .i64 f.kind,.int .i64 f.a,.int .i64 f.b]
def factLits (f:Fct):List Lit:=[.int .i64 f.kind,.int .i64 f.a,.int .i64 f.b]
def keyL (f:Fct):Lit:=.string (keyBytes (factLits f))
theorem laidOut:laidOutB Tryz.prog=true:=by kernel_rfl
theorem rowFact:45 < Tryz.prog.types.size:=of_decide_eq_true (by kernel_rfl)
theorem lawFact:Go.WideMaps.KeyLaw Tryz.prog 45:=deep_law_laid laidOut (m:=2) (by omega) rowFact (by kernel_rfl) (by rw [Tryz.underlying45])
theorem keyedF:Keyed Tryz.prog 45:=Keyed.of_law lawFact
theorem keyTypeF:Tryz.prog.keyType 45=true:=by kernel_rfl
theorem cellsF:Tryz.prog.cellsOf 45=3:=by kernel_rfl
theorem cellsI:Tryz.prog.cellsOf 3=1:=by kernel_rfl
theorem wf64 {x:Int} (h:In64 x):(Lit.int .i64 x).wf=true:=by
 unfold In64 at h
 simp [Lit.wf,IntKind.min,IntKind.max,IntKind.bits,IntKind.signed]
 omega
theorem in64_of {x:Int} (h:(Lit.int .i64 x).wf=true):In64 x:=by
 simp [Lit.wf,IntKind.min,IntKind.max,IntKind.bits,IntKind.signed] at h
 exact h
theorem keyLits_int (d:Nat) (v:Value):Tryz.prog.keyLits (d+1) 3 [v]=match v with | .int q' n=>if q'=.i64∧(Lit.int .i64 n).wf=true then some [.int .i64 n] else none | _=>none:=by
 unfold Program.keyLits
 rw [Tryz.underlying3]
 cases v <;> rfl
theorem typesTwo:∃ d,Tryz.prog.types.size+1=d+2:=⟨Tryz.prog.types.size - 1,by have:=rowFact;omega⟩
theorem keyOf_any (v:Value):keyOf Tryz.prog 45 v=if v.formed Tryz.prog 45=true then
   (match v.cells.toList with
     | [x,y,z]=>(match x,y,z with
       | .int q a,.int q' b,.int q'' c=>if (q=.i64∧(Lit.int .i64 a).wf=true)∧(q'=.i64∧(Lit.int .i64 b).wf=true)∧(q''=.i64∧(Lit.int .i64 c).wf=true) then some (.string (keyBytes [.int .i64 a,.int .i64 b,.int .i64 c])) else none
       | _,_,_=>none)
     | _=>none) else none:=by
 obtain ⟨d,hd⟩:=typesTwo
 unfold keyOf
 rw [Tryz.underlying45,keyTypeF,hd]
 simp only [Bool.true_and]
 by_cases hf:v.formed Tryz.prog 45=true
 · rw [if_pos hf,if_pos hf]
   have hlen:v.cells.toList.length=3:=by
     cases v <;> simp [Value.formed,Tryz.underlying45] at hf
     rename_i xs
     rw [cellsF] at hf
     simpa [Value.cells] using hf
   match hc:v.cells.toList,hlen with
   | [x,y,z],h3 =>
     clear h3
     unfold Program.keyLits
     rw [Tryz.underlying45]
     simp only [cellsF,List.length_cons,List.length_nil,Nat.reduceAdd,true_and]
     rw [if_pos (by kernel_rfl)]
     simp only [List.mapM_cons,List.mapM_nil,List.drop_zero,List.drop_succ_cons,cellsI,List.take_succ_cons,List.take_zero,keyLits_int]
     cases x <;> try (simp;done)
     rename_i q a
     cases y <;> try (simp;done)
     rename_i q' b
     cases z <;> try (simp;done)
     rename_i q'' c
     by_cases h1:q=.i64∧(Lit.int .i64 a).wf=true
     · by_cases h2:q'=.i64∧(Lit.int .i64 b).wf=true
       · by_cases h3:q''=.i64∧(Lit.int .i64 c).wf=true
         · simp [h1,h2,h3]
         · simp [h1,h2,h3]
       · simp [h1,h2]
     · simp [h1]
 · rw [if_neg hf,if_neg hf]
theorem formedF (f:Fct):(factV f).formed Tryz.prog 45=true:=by simp [factV,Value.formed,Tryz.underlying45,cellsF]
theorem keyOf_mk {f:Fct} (h:FctOk f):keyOf Tryz.prog 45 (factV f)=some (keyL f):=by
 rw [keyOf_any,if_pos (formedF f)]
 simp only [factV,Value.cells]
 rw [if_pos ⟨⟨by trivial,wf64 h.kind⟩,⟨by trivial,wf64 h.a⟩,⟨by trivial,wf64 h.b⟩⟩]
 rfl
theorem keyOf_inv {v:Value} {kl:Lit} (h:keyOf Tryz.prog 45 v=some kl):∃ f,FctOk f∧v=factV f∧kl=keyL f:=by
 rw [keyOf_any] at h
 split at h
 · rename_i hf
   split at h
   · rename_i x y z hc
     split at h
     · rename_i q a q' b q'' c
       split at h
       · rename_i hh
         obtain ⟨⟨rfl,h1⟩,⟨rfl,h2⟩,⟨rfl,h3⟩⟩:=hh
         cases h
         refine ⟨⟨a,b,c⟩,⟨in64_of h1,in64_of h2,in64_of h3⟩,?_,rfl⟩
         cases v <;> simp [Value.formed,Tryz.underlying45] at hf
         rename_i xs
         have:xs.toList=[.int .i64 a,.int .i64 b,.int .i64 c]:=hc
         unfold factV
         congr 1
         exact Array.toList_inj.1 this
       · cases h
     · cases h
   · cases h
 · cases h
theorem factV_inj {f g:Fct} (h:factV f=factV g):f=g:=by
 unfold factV at h
 simp at h
 exact Fct.ext_ h.1 h.2.1 h.2.2
theorem keyL_inj {f g:Fct} (hf:FctOk f) (hg:FctOk g) (h:keyL f=keyL g):f=g:=factV_inj (keyedF.inj (keyOf_mk hf) (by rw [h];exact keyOf_mk hg))
theorem isKeyF (f:Fct):WideAt.IsKeyLit (keyL f):=by trivial
structure SetD (D:DataW Unit) (l:List Fct):Prop where
 is_:IsMap D
 ok:∀ f∈l,FctOk f
 has:∀ f,FctOk f→(Maps.has D (keyL f)=true↔f∈l)
theorem SetD.start:SetD (.map []) []:=⟨isMap_empty,fun f h=>by simp at h,fun f _=>by simp [Maps.has_eq]⟩
theorem SetD.put {D:DataW Unit} {l:List Fct} (h:SetD D l) {f:Fct} (hf:FctOk f):SetD (D.put (keyL f) (.agg [])) (insF f l):=by
 refine ⟨h.is_.put _ _,fun g hg=>?_,fun g hg=>?_⟩
 · rcases mem_insF.1 hg with rfl | hg
   · exact hf
   · exact h.ok g hg
 · rw [mem_insF]
   by_cases e:g=f
   · subst e
     rw [has_put_same h.is_ (isKeyF g)]
     simp
   · rw [has_put_other (fun e'=>e (keyL_inj hg hf e')),h.has g hg]
     simp [e]
theorem SetD.filter {D:DataW Unit} {l:List Fct} (h:SetD D l) (p:Fct→Bool) {pd:Lit→DataW Unit→Bool} (hp:∀ f d,FctOk f→pd (keyL f) d=p f):SetD (Lib.deleteFuncD pd D) (l.filter fun f=>!p f):=by
 obtain ⟨es,rfl⟩:=h.is_
 refine ⟨⟨_,rfl⟩,fun f hf=>h.ok f (List.mem_filter.1 hf).1,fun f hf=>?_⟩
 rw [List.mem_filter,←h.has f hf,Lib.deleteFuncD,Maps.has_eq,Maps.has_eq,List.any_filter,List.any_eq_true,List.any_eq_true]
 constructor
 · rintro ⟨x,hx,hs⟩
   rw [Bool.and_eq_true] at hs
   obtain ⟨hs1,hs2⟩:=hs
   have e:=WideAt.sameKey_eq hs2
   rw [e,hp f _ hf] at hs1
   exact ⟨⟨x,hx,hs2⟩,hs1⟩
 · rintro ⟨⟨x,hx,hs⟩,hn⟩
   have e:=WideAt.sameKey_eq hs
   exact ⟨x,hx,by rw [e,hp f _ hf,hn,WideAt.sameKey_self (isKeyF f)];rfl⟩
def SetAt (w:World) (b n:Nat) (l:List Fct):Prop:=∃ D,w.ownsMap Tryz.prog 45 (unitElem (H:=Unit)) b n D∧SetD D l
theorem SetAt.made (w:World):SetAt (w.alloc (.map #[] 0)) w.heap.size 0 []:=⟨_,World.ownsMap_made _ _ _ _,SetD.start⟩
theorem SetAt.keep {w w':World} {b n:Nat} {l:List Fct} (h:SetAt w b n l) (hb:w'.heap[b]? = w.heap[b]?):SetAt w' b n l:=by
 obtain ⟨D,⟨es,clock,h1,h2⟩,h3⟩:=h
 exact ⟨D,⟨es,clock,hb.trans h1,h2⟩,h3⟩
theorem SetAt.lt {w:World} {b n:Nat} {l:List Fct} (h:SetAt w b n l):b < w.heap.size:=by
 obtain ⟨D,hw,_⟩:=h
 exact hw.lt
theorem SetAt.of {w:World} {b n:Nat} {D:DataW Unit} {l l':List Fct} (h:w.ownsMap Tryz.prog 45 (unitElem (H:=Unit)) b n D) (hd:SetD D l) (e:l=l'):SetAt w b n l':=⟨D,h,e▸hd⟩
end Go.Proofs.YtjbabpnepjhllaaGreat
namespace Go.Proofs.YtjbabpnepjhllaaGreat
open Go.RowKit Go.Maps Go.Sort Go.Shelf
set_option maxRecDepth 100000
def CollF (D0:DataW Unit) (left:Lit→Bool) (ss:List Fct):Prop:=(ss.Nodup∧∀ f∈ss,FctOk f)∧∀ f,FctOk f→(f∈ss↔(Maps.has D0 (keyL f)=true∧left (keyL f)=false))
theorem CollF.start (D0:DataW Unit):CollF D0 (Maps.has D0) []:=⟨⟨List.nodup_nil,fun f h=>by simp at h⟩,fun f _=>by cases Maps.has D0 (keyL f) <;> simp⟩
theorem CollF.step {D0:DataW Unit} {left:Lit→Bool} {ss:List Fct} (h:CollF D0 left ss) {x:Fct} {y:DataW Unit} (hx:FctOk x) (hlk:left (keyL x)=true) (hat:∀ zd,D0.atKey (keyL x) zd=y) :
   CollF D0 (fun z=>left z && !z.sameKey (keyL x)) (ss++[x]):=by
 have hhas:Maps.has D0 (keyL x)=true:=has_true_of_atKey hat
 have hnew:x ∉ ss:=fun hm=>by have:=((h.2 x hx).1 hm).2;rw [hlk] at this;cases this
 refine ⟨⟨List.nodup_append.2 ⟨h.1.1,by simp,fun a ha b hb=>by simp at hb;subst hb;exact fun e=>hnew (e▸ha)⟩,fun f hf=>?_⟩,fun f hf=>?_⟩
 · rcases List.mem_append.1 hf with hf | hf
   · exact h.1.2 f hf
   · simp at hf;subst hf;exact hx
 · by_cases e:f=x
   · subst e;simp [hhas,WideAt.sameKey_self (isKeyF f)]
   · have hne:(keyL f).sameKey (keyL x)=false:=sameKey_ne fun e'=>e (keyL_inj hf hx e')
     simp [h.2 f hf,e,hne]
def AllOf (l ss:List Fct):Prop:=ss.Nodup∧∀ f,f∈ss↔f∈l
theorem CollF.all {D0:DataW Unit} {left:Lit→Bool} {ss l:List Fct} (h:CollF D0 left ss) (hd:SetD D0 l) (hl:∀ kl,left kl=false):AllOf l ss:=by
 refine ⟨h.1.1,fun f=>⟨fun hf=>?_,fun hf=>?_⟩⟩
 · exact (hd.has f (h.1.2 f hf)).1 ((h.2 f (h.1.2 f hf)).1 hf).1
 · exact (h.2 f (hd.ok f hf)).2 ⟨(hd.has f (hd.ok f hf)).2 hf,hl _⟩
theorem encF_inj {x y:Fct} (h:factV x=factV y):x=y:=factV_inj h
set_option maxHeartbeats 1000000 in
theorem keys1_in (F:Fence) (n:Nat) (h10:F.fn 116) (hro:F.round=none) (hn:1≤n) (l Bm b nn:Nat) (D0:DataW Unit) (L:List Fct) (hD:SetD D0 L) (J:List Fct→World→Prop)
   (hY:∀ pre x W,J pre W→pre.length < Maps.size D0→YieldAt F (n - 1) Tryz.prog l #[factV x] W fun e W'=>e=.returned (.bool true)∧J (pre++[x]) W'∧KeepsWalks W W')
   (W:World) (hJ:AbidesFrom W.heap.size J) (hm:W.cell? ⟨Bm,0,none⟩=some (.map (some b))) (hown:W.ownsMap Tryz.prog 45 (unitElem (H:=Unit)) b nn D0) (h0:J [] W) :
   CallsIn F n Tryz.prog 116 #[.func (.yield l) #[] #[],.pointer (some ⟨Bm,0,none⟩)] W fun e W'=>(∃ v,e=.returned v)∧∃ ss:List Fct,AllOf L ss∧J ss W':=by
 refine callsIn_of_wp Tryz.func116 rfl h10 ?_ hro
 simp only [Tryz.ntmps116,List.size_toArray,List.length_cons,List.length_nil,Nat.reduceAdd,Nat.reduceSub,Array.replicate_succ,Array.replicate_zero,List.push_toArray,List.append_toArray,List.nil_append,List.cons_append]
 gi_wp2_with (first
   | (gi_at_range;refine wpListIn_range_own _ rfl _ 85 rfl 45 106 keyedF Tryz.underlying85 _ b nn _ rfl hown ?_;intro w0 hrg0 hg0 hs0)
   | gi_in)
 go_frame
 gi_loopw [3] (fun _ wr=>∃ (left:Lit→Bool) (cnt:Nat) (ss:List Fct),wr.ranges Tryz.prog 45 (unitElem (H:=Unit)) b W.heap.size nn D0 left cnt∧ss.length+cnt≤Maps.size D0∧CollF D0 left ss∧J ss wr)
   (fun _ wr=>wr.rangeLeft b W.heap.size)
 case atStart =>
   exact ⟨_,_,[],hrg0,by simp,CollF.start D0,hJ [] W w0 none h0 hg0 (fun r e=>by cases e)⟩
 case round =>
   obtain ⟨left,cnt,ss,hrg,hcs,hC,hJs⟩:=hrel
   gi_wp2_with (first
     | (gi_at_next;refine wpListIn_next_ranges _ rfl _ rfl 45 keyedF (unitElem (H:=Unit)) factV (fun _:Unit=>Value.agg #[]) (fun key kl hk=>by obtain ⟨f,_,rfl,_⟩:=keyOf_inv hk;exact ⟨f,rfl⟩) (fun v y hv=>by obtain ⟨rfl,_⟩:=unitElem_inv hv;exact ⟨(),rfl⟩) b W.heap.size nn _ _ _ rfl hrg ?_ ?_)
     | gi_in)
   · intro hc0 hl0
     gi_wp2
     go_end0
     exact ⟨⟨_,rfl⟩,ss,hC.all hD hl0,hJs⟩
   · intro x c kl yd w2 cnt2 hkey hlk hv hat hrg2 hlt hg2 hs2 hen
     obtain ⟨x',hxo,ex,rfl⟩:=keyOf_inv hkey
     obtain rfl:x=x':=encF_inj ex
     have hJ2:J ss w2:=hJ ss wr w2 (some W.heap.size) hJs hg2 (fun r e=>by cases e;exact ⟨Nat.le_refl _,hrg.iter_walk⟩)
     clear hs2
     have hga:w2.grownBy (w2.alloc (.cells #[.int .i64 x.kind,.int .i64 x.a,.int .i64 x.b] 45)) none:=⟨rfl,rfl,rfl,by simp,fun k hk _=>Below.heap_alloc _ _ k hk⟩
     have hJa:=hJ ss w2 _ none hJ2 hga (fun r e=>by cases e)
     obtain ⟨fn,tmps,assign,body,hy,hR⟩:=hY ss x _ hJa (by omega)
     unfold factV at hen hy ⊢
     clear hga
     gi_wp2
     refine hR.mono ?_
     rintro e W3 ⟨rfl,hJ3,hk3⟩
     gi_wp2
     have hrg3:=hrg2.of_walks ((KeepsWalks.alloc _ _).trans hk3)
     go_roundw
     case rel=>exact ⟨_,cnt2,ss++[x],hrg3,by simp;omega,hC.step hxo hlk hat,hJ3⟩
     case measure=>rw [hrg3.left_eq,hrg.left_eq];exact hlt
theorem keys_gives (F:Fence) (n:Nat) (h10:F.fn 116) (hro:F.round=none) (hn:1≤n) (Bm b nn:Nat) (D0:DataW Unit) (L:List Fct) (hD:SetD D0 L) (w:World) (hBm:Bm < w.heap.size)
   (hm:w.cell? ⟨Bm,0,none⟩=some (.map (some b))) (hown:w.ownsMap Tryz.prog 45 (unitElem (H:=Unit)) b nn D0) :
   SeqGives F n Tryz.prog 116 #[.pointer (some ⟨Bm,0,none⟩)] factV (AllOf L) (Maps.size D0) w:=fun l J W hW hJ hY h0=>by
 have hown':W.ownsMap Tryz.prog 45 (unitElem (H:=Unit)) b nn D0:=by
   have hbl:=hown.lt
   obtain ⟨es,clock,hb,Ft,hs,hD⟩:=hown
   exact ⟨es,clock,(hW.block b hbl).trans hb,Ft,hs,hD⟩
 exact keys1_in F n h10 hro hn l Bm b nn D0 L hD J hY W hJ ((hW.cell (p:=⟨Bm,0,none⟩) hBm).trans hm) hown' h0
set_option maxHeartbeats 1000000 in
theorem keys_in (F:Fence) (n:Nat) (h7:F.fn 81) (hro:F.round=none) (mb:Option Nat) (w:World) :
   CallsIn F n Tryz.prog 81 #[.map mb] w fun e w'=>e=.returned (.func (.func 116) #[] #[.pointer (some ⟨w.heap.size,0,none⟩)])∧w'=w.alloc (.cells #[.map mb] 85):=by
 refine callsIn_of_wp Tryz.func81 rfl h7 ?_ hro
 simp only [Tryz.ntmps81,List.size_toArray,List.length_cons,List.length_nil,Nat.reduceAdd,Nat.reduceSub,Array.replicate_succ,Array.replicate_zero,List.push_toArray,List.append_toArray,List.nil_append,List.cons_append]
 gi_wp2
 go_ret
 exact ⟨rfl,rfl⟩
end Go.Proofs.YtjbabpnepjhllaaGreat
