/- Part 20 of a claim; what it proves stands in its last text. -/
import Derived.Test.YtppoiahhaclleaaDoorAr1
import Derived.Test.YtppoiahhaclleaaDoorAr19
import Derived.Laws.Bits64
import Derived.Laws.Bits64b
import Derived.Outline
import Derived.Test.YtppoiahhaclleaaDoorAr14
import Derived.ChangeKeysEq
import Derived.Laws.StructEq
import Derived.Deep.Slices
import Derived.ProofKit
namespace Go.Proofs.YtppoiahhaclleaaDoor
open Go.RowKit
def addF (a b:Nat) (c:Bool):Nat×Bool:=((a+b+c.toNat) % 18446744073709551616,decide (18446744073709551616≤a+b+c.toNat))
def subF (a b:Nat) (c:Bool):Nat×Bool:=((18446744073709551616+a - b - c.toNat) % 18446744073709551616,decide (a < b+c.toNat))
def mulF (a b:Nat):Nat×Nat:=(a*b / 18446744073709551616,a*b % 18446744073709551616)
theorem mul_halves {a b:Nat} (_ha:a < 18446744073709551616) (_hb:b < 18446744073709551616) (x y u v m n:Nat) (hx:x=a / 4294967296) (hy:y=a % 4294967296) (hu:u=b / 4294967296) (hv:v=b % 4294967296)
   (hm:m=x*v+y*v / 4294967296) (hn:n=y*u+m % 4294967296):x*u+m / 4294967296+n / 4294967296=a*b / 18446744073709551616:=by
 have h1:a=4294967296*x+y:=by omega
 have h2:b=4294967296*u+v:=by omega
 have h3:a*b=18446744073709551616*(x*u)+4294967296*(x*v)+4294967296*(y*u)+y*v:=by
   rw [h1,h2]
   rw [Nat.add_mul,Nat.mul_add,Nat.mul_add]
   rw [show 4294967296*x*(4294967296*u)=18446744073709551616*(x*u) by
     rw [Nat.mul_mul_mul_comm],show 4294967296*x*v=4294967296*(x*v) from Nat.mul_assoc ..,show y*(4294967296*u)=4294967296*(y*u) from Nat.mul_left_comm ..]
   omega
 generalize x*u=xu at *
 generalize x*v=xv at *
 generalize y*u=yu at *
 generalize y*v=yv at *
 omega
theorem wrapU' (x:Int):IntKind.u64.wrap x=x % 18446744073709551616:=by simp [IntKind.wrap,IntKind.bits,IntKind.signed]
set_option maxHeartbeats 400000 in
theorem RAdd_any (a b:Nat) (c:Bool) (w:World) (ha:a < 18446744073709551616) (hb:b < 18446744073709551616) :
   Calls Tryd.prog 60 #[.int .u64 a,.int .u64 b,.bool c] w fun e w'=>e=.returned (.tuple #[.int .u64 ((addF a b c).1:Nat),.bool (addF a b c).2])∧w=w':=by
 obtain ⟨s,hs⟩:∃ s:Nat,s=(a+b) % 18446744073709551616:=⟨_,rfl⟩
 have e1:IntKind.u64.wrap ((a:Int)+(b:Int))=(s:Int):=by rw [wrapU'];omega
 cases c with
 | false =>
   have h1:addF a b false=(s,decide (s < a)):=by simp only [addF,Bool.toNat_false,Nat.add_zero,←hs,Prod.mk.injEq,true_and,decide_eq_decide];omega
   have H1:=Lh h1
   clear h1 hs
   go_enter Tryd.func60,Tryd.ntmps60
   go_wp2
   go_ret2
   exact ⟨by rw [H1.out];rfl,rfl⟩
 | true =>
   obtain ⟨s2,hs2⟩:∃ s2:Nat,s2=(s+1) % 18446744073709551616:=⟨_,rfl⟩
   have e2:IntKind.u64.wrap ((s:Int)+1)=(s2:Int):=by rw [wrapU'];omega
   by_cases hlt:s < a
   · have h1:addF a b true=(s2,true):=by simp only [addF,Bool.toNat_true,Prod.mk.injEq,decide_eq_true_eq];omega
     have hd:decide (s < a)=true:=by simpa using hlt
     have H1:=Lh h1
     clear h1 hs hs2 hlt
     go_enter Tryd.func60,Tryd.ntmps60
     go_wp2
     go_ret2
     exact ⟨by rw [H1.out];rfl,rfl⟩
   · have h1:addF a b true=(s2,s2 == 0):=Prod.ext (by simp only [addF,Bool.toNat_true];omega) (by simp only [addF,Bool.toNat_true];rw [Bool.eq_iff_iff,decide_eq_true_eq,beq_iff_eq];omega)
     have hd:decide (s < a)=false:=by simpa using hlt
     have hz:((s2:Int) == 0)=(s2 == 0):=by rw [Bool.eq_iff_iff,beq_iff_eq,beq_iff_eq];omega
     generalize (s2 == 0)=z at *
     have H1:=Lh h1
     clear h1 hs hs2 hlt
     go_enter Tryd.func60,Tryd.ntmps60
     go_wp2
     go_ret2
     exact ⟨by rw [H1.out];rfl,rfl⟩
set_option maxHeartbeats 400000 in
theorem RSub_any (a b:Nat) (c:Bool) (w:World) (ha:a < 18446744073709551616) (hb:b < 18446744073709551616) :
   Calls Tryd.prog 62 #[.int .u64 a,.int .u64 b,.bool c] w fun e w'=>e=.returned (.tuple #[.int .u64 ((subF a b c).1:Nat),.bool (subF a b c).2])∧w=w':=by
 obtain ⟨s,hs⟩:∃ s:Nat,s=(18446744073709551616+a - b) % 18446744073709551616:=⟨_,rfl⟩
 have e1:IntKind.u64.wrap ((a:Int) - (b:Int))=(s:Int):=by rw [wrapU'];omega
 cases c with
 | false =>
   have h1:subF a b false=(s,decide (a < b)):=by simp only [subF,Bool.toNat_false,Nat.add_zero,Nat.sub_zero,←hs]
   have H1:=Lh h1
   clear h1 hs
   go_enter Tryd.func62,Tryd.ntmps62
   go_wp2
   go_ret2
   exact ⟨by rw [H1.out];rfl,rfl⟩
 | true =>
   obtain ⟨s2,hs2⟩:∃ s2:Nat,s2=(18446744073709551616+s - 1) % 18446744073709551616:=⟨_,rfl⟩
   have e2:IntKind.u64.wrap ((s:Int) - 1)=(s2:Int):=by rw [wrapU'];omega
   by_cases hlt:a < b
   · have h1:subF a b true=(s2,true):=by simp only [subF,Bool.toNat_true,Prod.mk.injEq,decide_eq_true_eq];omega
     have hd:decide (a < b)=true:=by simpa using hlt
     have H1:=Lh h1
     clear h1 hs hs2 hlt
     go_enter Tryd.func62,Tryd.ntmps62
     go_wp2
     go_ret2
     exact ⟨by rw [H1.out];rfl,rfl⟩
   · have h1:subF a b true=(s2,s == 0):=Prod.ext (by simp only [subF,Bool.toNat_true];omega) (by simp only [subF,Bool.toNat_true];rw [Bool.eq_iff_iff,decide_eq_true_eq,beq_iff_eq];omega)
     have hd:decide (a < b)=false:=by simpa using hlt
     have hz:((s:Int) == 0)=(s == 0):=by rw [Bool.eq_iff_iff,beq_iff_eq,beq_iff_eq];omega
     generalize (s == 0)=z at *
     have H1:=Lh h1
     clear h1 hs hs2 hlt
     go_enter Tryd.func62,Tryd.ntmps62
     go_wp2
     go_ret2
     exact ⟨by rw [H1.out];rfl,rfl⟩
theorem low_half (a:Nat) (h:a < 18446744073709551616):Go.bits .and .u64 (a:Int) 4294967295=((a % 4294967296:Nat):Int):=by
 have:=bits_and_u64_nat a 4294967295 h (by decide)
 rw [show ((4294967295:Nat):Int)=4294967295 from rfl] at this
 rw [this,show (4294967295:Nat)=2 ^ 32 - 1 from rfl,Nat.and_two_pow_sub_one_eq_mod]
set_option maxHeartbeats 400000 in
theorem RMul_any (a b:Nat) (w:World) (ha:a < 18446744073709551616) (hb:b < 18446744073709551616) :
   Calls Tryd.prog 59 #[.int .u64 a,.int .u64 b] w fun e w'=>e=.returned (.tuple #[.int .u64 ((mulF a b).1:Nat),.int .u64 ((mulF a b).2:Nat)])∧w=w':=by
 obtain ⟨x,hx⟩:∃ x:Nat,x=a / 4294967296:=⟨_,rfl⟩
 obtain ⟨y,hy⟩:∃ y:Nat,y=a % 4294967296:=⟨_,rfl⟩
 obtain ⟨u,hu⟩:∃ u:Nat,u=b / 4294967296:=⟨_,rfl⟩
 obtain ⟨v,hv⟩:∃ v:Nat,v=b % 4294967296:=⟨_,rfl⟩
 have ea:=low_half a ha
 have eb:=low_half b hb
 rw [←hy] at ea
 rw [←hv] at eb
 have ax:(a:Int) / 4294967296=(x:Int):=by omega
 have bu:(b:Int) / 4294967296=(u:Int):=by omega
 have lim:∀ p q:Nat,p≤4294967295→q≤4294967295→p*q≤18446744065119617025:=fun p q h1 h2=>Nat.mul_le_mul h1 h2
 have l1:=lim y v (by omega) (by omega)
 have l2:=lim x v (by omega) (by omega)
 have l3:=lim y u (by omega) (by omega)
 have l4:=lim x u (by omega) (by omega)
 have hm:=mul_halves ha hb x y u v _ _ hx hy hu hv rfl rfl
 have w5:IntKind.u64.wrap ((a:Int)*(b:Int))=((mulF a b).2:Int):=by rw [wrapU',←Int.natCast_mul];simp only [mulF];omega
 have c1:(y:Int)*(v:Int)=((y*v:Nat):Int):=by simp
 have c2:(x:Int)*(v:Int)=((x*v:Nat):Int):=by simp
 have c3:(y:Int)*(u:Int)=((y*u:Nat):Int):=by simp
 have c4:(x:Int)*(u:Int)=((x*u:Nat):Int):=by simp
 have hbig:a*b / 18446744073709551616≤18446744073709551615:=by
   have:=Nat.mul_le_mul (Nat.le_of_lt_succ ha) (Nat.le_of_lt_succ hb)
   omega
 generalize hf:y*v=f at *
 generalize hg:x*v=g at *
 generalize hh:y*u=h at *
 generalize hk:x*u=k at *
 have d1:IntKind.u64.wrap (f:Int)=(f:Int):=by rw [wrapU'];omega
 have d2:IntKind.u64.wrap (g:Int)=(g:Int):=by rw [wrapU'];omega
 have d3:IntKind.u64.wrap (h:Int)=(h:Int):=by rw [wrapU'];omega
 have d4:IntKind.u64.wrap (k:Int)=(k:Int):=by rw [wrapU'];omega
 obtain ⟨m,hmm⟩:∃ m:Nat,m=g+f / 4294967296:=⟨_,rfl⟩
 rw [←hmm] at hm
 obtain ⟨n,hnn⟩:∃ n:Nat,n=h+m % 4294967296:=⟨_,rfl⟩
 rw [←hnn] at hm
 have em:=low_half m (by omega)
 obtain ⟨q,hq⟩:∃ q:Nat,q=m % 4294967296:=⟨_,rfl⟩
 rw [←hq] at em
 have w1:IntKind.u64.wrap ((g:Int)+(f:Int) / 4294967296)=(m:Int):=by rw [wrapU'];omega
 have w2:IntKind.u64.wrap ((h:Int)+(q:Int))=(n:Int):=by rw [wrapU'];omega
 obtain ⟨p,hp⟩:∃ p:Nat,p=k+m / 4294967296:=⟨_,rfl⟩
 have w3:IntKind.u64.wrap ((k:Int)+(m:Int) / 4294967296)=(p:Int):=by rw [wrapU'];omega
 obtain ⟨z,hz⟩:∃ z:Nat,z=(mulF a b).1:=⟨_,rfl⟩
 have hz2:z=p+n / 4294967296:=by rw [hz,hp];exact hm.symm
 have w4:IntKind.u64.wrap ((p:Int)+(n:Int) / 4294967296)=(z:Int):=by rw [wrapU'];omega
 obtain ⟨z',hz'⟩:∃ z':Nat,z'=(mulF a b).2:=⟨_,rfl⟩
 rw [←hz,←hz']
 rw [←hz'] at w5
 clear hx hy hu hv hm hmm hnn hf hg hh hk l1 l2 l3 l4 lim hbig hp hq hz hz2 hz'
 go_enter Tryd.func59,Tryd.ntmps59
 go_wp2
 go_ret2
 exact ⟨rfl,rfl⟩
def doP:DoT:=fun kind imm buf bufs a b c =>
 if kind=1 then some (imm,0,-1,bufs)
 else if kind=2 then some (a,0,-1,bufs)
 else if kind=3 then some ((a+b) % 18446744073709551616,0,-1,bufs)
 else if kind=4 then some ((18446744073709551616+a - b) % 18446744073709551616,0,-1,bufs)
 else if kind=5 then some (a &&& b,0,-1,bufs)
 else if kind=6 then some (a ||| b,0,-1,bufs)
 else if kind=7 then some (a ^^^ b,0,-1,bufs)
 else if kind=8 then some ((a*2 ^ imm) % 18446744073709551616,0,-1,bufs)
 else if kind=9 then some (a / 2 ^ imm,0,-1,bufs)
 else if kind=10 then some ((mulF a b).1,(mulF a b).2,-1,bufs)
 else if kind=11 then some ((addF a b (c % 2 == 1)).1,(addF a b (c % 2 == 1)).2.toNat,-1,bufs)
 else if kind=12 then some ((subF a b (c % 2 == 1)).1,(subF a b (c % 2 == 1)).2.toNat,-1,bufs)
 else if kind=13 then some (if c % 2 == 1 then a else b,0,-1,bufs)
 else match bufs[buf.toNat]? with
   | none=>none
   | some row=>if row.length≤(imm+a) % 18446744073709551616 then none
     else if kind=15 then some (0,0,((imm+a) % 18446744073709551616:Nat),bufs.set buf.toNat (row.set ((imm+a) % 18446744073709551616) b))
     else some (row.getD ((imm+a) % 18446744073709551616) 0,0,((imm+a) % 18446744073709551616:Nat),bufs)
theorem doP_lt {kind:Int} {imm:Nat} {buf:Int} {bufs:List (List Nat)} {a b c d e:Nat} {pl:Int} {bufs':List (List Nat)} (h:doP kind imm buf bufs a b c=some (d,e,pl,bufs')) (hi:imm < 18446744073709551616) (ha:a < 18446744073709551616) (hb:b < 18446744073709551616)
   (hbs:∀ row∈bufs,∀ x∈row,x < 18446744073709551616):d < 18446744073709551616∧e < 18446744073709551616∧(∀ row∈bufs',∀ x∈row,x < 18446744073709551616)∧bufs'.map List.length=bufs.map List.length:=by
 have out:∀ (x y:Nat) (z:Int),some (x,y,z,bufs)=some (d,e,pl,bufs')→x < 18446744073709551616→y < 18446744073709551616→d < 18446744073709551616∧e < 18446744073709551616∧(∀ row∈bufs',∀ x∈row,x < 18446744073709551616)∧bufs'.map List.length=bufs.map List.length:=fun x y z h h1 h2=>by
   cases h
   exact ⟨h1,h2,hbs,rfl⟩
 have bt:∀ q:Bool,q.toNat < 18446744073709551616:=fun q=>by cases q <;> decide
 unfold doP at h
 by_cases k1:kind=1
 · rw [if_pos k1] at h;exact out _ _ _ h hi (by decide)
 rw [if_neg k1] at h
 by_cases k2:kind=2
 · rw [if_pos k2] at h;exact out _ _ _ h ha (by decide)
 rw [if_neg k2] at h
 by_cases k3:kind=3
 · rw [if_pos k3] at h;exact out _ _ _ h (Nat.mod_lt _ (by decide)) (by decide)
 rw [if_neg k3] at h
 by_cases k4:kind=4
 · rw [if_pos k4] at h;exact out _ _ _ h (Nat.mod_lt _ (by decide)) (by decide)
 rw [if_neg k4] at h
 by_cases k5:kind=5
 · rw [if_pos k5] at h;exact out _ _ _ h (Nat.lt_of_le_of_lt Nat.and_le_left ha) (by decide)
 rw [if_neg k5] at h
 by_cases k6:kind=6
 · rw [if_pos k6] at h;exact out _ _ _ h (Nat.or_lt_two_pow (n:=64) ha hb) (by decide)
 rw [if_neg k6] at h
 by_cases k7:kind=7
 · rw [if_pos k7] at h;exact out _ _ _ h (Nat.xor_lt_two_pow (n:=64) ha hb) (by decide)
 rw [if_neg k7] at h
 by_cases k8:kind=8
 · rw [if_pos k8] at h;exact out _ _ _ h (Nat.mod_lt _ (by decide)) (by decide)
 rw [if_neg k8] at h
 by_cases k9:kind=9
 · rw [if_pos k9] at h;exact out _ _ _ h (Nat.lt_of_le_of_lt (Nat.div_le_self _ _) ha) (by decide)
 rw [if_neg k9] at h
 by_cases k10:kind=10
 · rw [if_pos k10] at h
   refine out _ _ _ h ?_ (Nat.mod_lt _ (by decide))
   have:=Nat.mul_le_mul (Nat.le_of_lt_succ ha) (Nat.le_of_lt_succ hb)
   unfold mulF
   simp only
   omega
 rw [if_neg k10] at h
 by_cases k11:kind=11
 · rw [if_pos k11] at h;exact out _ _ _ h (Nat.mod_lt _ (by decide)) (bt _)
 rw [if_neg k11] at h
 by_cases k12:kind=12
 · rw [if_pos k12] at h;exact out _ _ _ h (Nat.mod_lt _ (by decide)) (bt _)
 rw [if_neg k12] at h
 by_cases k13:kind=13
 · rw [if_pos k13] at h
   refine out _ _ _ h ?_ (by decide)
   split <;> assumption
 rw [if_neg k13] at h
 split at h
 · cases h
 · rename_i row hrow
   have hm:=List.mem_of_getElem? hrow
   split at h
   · cases h
   split at h
   · cases h
     refine ⟨by decide,by decide,fun r hr x hx=>?_,?_⟩
     · rcases List.mem_or_eq_of_mem_set hr with h1 | rfl
       · exact hbs r h1 x hx
       · rcases List.mem_or_eq_of_mem_set hx with h2 | rfl
         · exact hbs row hm x h2
         · exact hb
     · refine List.ext_getElem? fun i=>?_
       rw [List.getElem?_map,List.getElem?_map,List.getElem?_set]
       by_cases e:buf.toNat=i
       · subst e
         rw [if_pos rfl,hrow,if_pos (List.getElem?_eq_some_iff.1 hrow).1]
         simp
       · rw [if_neg e]
   · refine out _ _ _ h ?_ (by decide)
     rename_i h1 _
     rw [List.getD_eq_getElem?_getD]
     obtain ⟨v,hv⟩:∃ v,row[(imm+a) % 18446744073709551616]? = some v:=⟨_,List.getElem?_eq_getElem (by omega)⟩
     rw [hv]
     exact hbs row hm v (List.mem_of_getElem? hv)
end Go.Proofs.YtppoiahhaclleaaDoor
namespace Go.Proofs.YtppoiahhaclleaaDoor
open Go.RowKit
def exP:LP:=⟨3,[],[⟨1,0,-1,-1,-1,-1,0,7⟩,⟨16,1,-1,-1,-1,-1,0,3⟩,⟨3,0,-1,0,1,-1,0,0⟩,⟨17,-1,-1,-1,-1,-1,0,0⟩]⟩
theorem ex_check:checkF exP 64=(4,0):=by decide +kernel
theorem ex_spans:spansF exP=[(0,3),(1,3),(-1,-1)]:=by decide +kernel
theorem ex_ord:ordTo (spansF exP) 3=[0,1]:=by rw [ex_spans];decide +kernel
theorem ex_sort:insF (keyF (spansF exP)) 0 ((ordTo (spansF exP) 3).length - 1) 1 (ordTo (spansF exP) 3)=[0,1]:=by rw [ex_ord,ex_spans];decide +kernel
def exPl:Nat→Nat→Int | 1,0=>0 | 1,_=>-1 | _,k=>-1 - k
theorem ex_keeps1:Keeps (spansF exP) [0,1] 1 (exPl 1):=by
 rw [ex_spans]
 refine keeps_two (fun | 0=>1 | _=>0) (fun | 0=>18446744073709551615 | 1=>18446744073709551615 | _=>18446744073709551614) (0,3) (1,3) rfl rfl rfl rfl ?_ ?_ (by decide)
 · intro k;constructor <;> (split <;> omega)
 · intro k hk
   match k,hk with
   | 0,_=>exact .inl ⟨by decide,by decide +kernel,rfl,by decide +kernel⟩
   | 1,_=>exact .inr ⟨rfl,rfl,by decide +kernel,by decide +kernel⟩
theorem ex_keeps0:Keeps (spansF exP) [0,1] 0 (exPl 0):=by
 rw [ex_spans]
 refine keeps_two (fun _=>0) (fun | 0=>18446744073709551615 | 1=>18446744073709551614 | _=>18446744073709551612) (0,3) (1,3) rfl rfl rfl rfl ?_ ?_ (by decide)
 · intro k;refine ⟨by omega,?_⟩;split <;> omega
 · intro k hk
   match k,hk with
   | 0,_=>exact .inr ⟨rfl,rfl,by decide +kernel,by decide +kernel⟩
   | 1,_=>exact .inr ⟨rfl,rfl,by decide +kernel,by decide +kernel⟩
theorem ex_out1:OF [0,1] (exPl 1) 3 2=[0,-1,0]:=by decide +kernel
theorem ex_out0:OF [0,1] (exPl 0) 3 2=[-1,-2,0]:=by decide +kernel
theorem Build_ex (Ab Ao:Option Addr) (nb cb no co pool:Nat) (out:List Int) (w:World) (hp:ProgAt w (fun k=>k < w.heap.size) [.int .i64 3,.slice Ab nb cb,.slice Ao no co] exP) (hT:TzAt w) (ho:pool=1∧out=[0,-1,0]∨pool=0∧out=[-1,-2,0]) :
   Calls Tryd.prog 13 #[.agg #[.int .i64 3,.slice Ab nb cb,.slice Ao no co],.int .i64 (pool:Nat)] w fun e w'=>∃ go,e=.returned (.tuple #[.slice (some ⟨go,0,none⟩) 3 3,.int .i64 0])∧w.heap.size≤go∧EndsAt w' go out∧Below w.heap.size w w':=by
 have hl:(ordTo (spansF exP) 3).length=2:=by rw [ex_ord];rfl
 have h:=Build_any exP Ab Ao nb cb no co 3 pool (exPl pool) w hp (by rw [ex_check]) rfl (by omega) hT (by rw [hl];omega) (by
   rw [ex_sort]
   rcases ho with ⟨rfl,_⟩ | ⟨rfl,_⟩
   · exact ex_keeps1
   · exact ex_keeps0)
 rw [ex_sort,hl] at h
 rcases ho with ⟨rfl,rfl⟩ | ⟨rfl,rfl⟩
 · rw [ex_out1] at h;exact h
 · rw [ex_out0] at h;exact h
end Go.Proofs.YtppoiahhaclleaaDoor
namespace Go.Proofs.YtppoiahhaclleaaDoor
open Go.RowKit
set_option maxRecDepth 100000
set_option maxHeartbeats 1600000 in
theorem op_is (o:LOp) (he:o.e = -1) (hc:o.c = -1) (hb:o.buf=0) (w:World):Calls Tryd.prog 45 #[.int .i64 o.kind,.int .i64 o.d,.int .i64 o.a,.int .i64 o.b,.int .u64 o.imm] w fun e w'=>e=.returned (.agg (opRow o).toArray)∧Below w.heap.size w w':=by
 obtain ⟨kind,d,e,a,b,c,buf,imm⟩:=o
 simp only [] at he hc hb
 subst he hc hb
 obtain ⟨W,hW⟩:∃ q,q=w.alloc (.cells (opRow ⟨kind,d,-1,a,b,-1,0,imm⟩).toArray 47):=⟨_,rfl⟩
 have hb:Below w.heap.size w W:=by rw [hW];exact (Below.refl _ _).alloc (Nat.le_refl _) _
 have h1:W.heap[w.heap.size]? = some (.cells (opRow ⟨kind,d,-1,a,b,-1,0,imm⟩).toArray 47 (0,0)):=by rw [hW];exact heap_alloc_new w _
 have HB:=Lh hb
 have H1:=Lh h1
 have HW:=Lh hW
 clear hW hb h1
 go_enter Tryd.func45,Tryd.ntmps45
 go_wp2
 refine bodyPost_ret (v:=.agg (opRow ⟨kind,d,-1,a,b,-1,0,imm⟩).toArray) (one_result rfl _ _ w.heap.size 47 _ (0,0) _ rfl (heap_alloc_new w _) Tryd.underlying47 rfl (by kernel_rfl)) rfl ?_
 refine ⟨rfl,?_⟩
 have:=HB.out
 rw [HW.out] at this
 exact this
set_option maxHeartbeats 4000000 in
theorem example_is (w:World):Calls Tryd.prog 22 #[] w fun e w'=>∃ go,e=.returned (.agg #[.int .i64 3,.slice none 0 0,.slice (some ⟨go,0,none⟩) 4 4])∧Below w.heap.size w w'∧w'.heap[go]? = some (.cells ((exP.ops.map opRow).flatten).toArray 47 (0,0)):=by
 have H0:∀ W:World,Calls Tryd.prog 45 #[.int .i64 1,.int .i64 0,.int .i64 (-1),.int .i64 (-1),.int .u64 7] W fun e w'=>e=.returned (.agg #[.int .i64 1,.int .i64 0,.int .i64 (-1),.int .i64 (-1),.int .i64 (-1),.int .i64 (-1),.int .i64 0,.int .u64 7])∧Below W.heap.size W w':=fun W=>op_is ⟨1,0,-1,-1,-1,-1,0,7⟩ rfl rfl rfl W
 have H1:∀ W:World,Calls Tryd.prog 45 #[.int .i64 16,.int .i64 1,.int .i64 (-1),.int .i64 (-1),.int .u64 3] W fun e w'=>e=.returned (.agg #[.int .i64 16,.int .i64 1,.int .i64 (-1),.int .i64 (-1),.int .i64 (-1),.int .i64 (-1),.int .i64 0,.int .u64 3])∧Below W.heap.size W w':=fun W=>op_is ⟨16,1,-1,-1,-1,-1,0,3⟩ rfl rfl rfl W
 have H2:∀ W:World,Calls Tryd.prog 45 #[.int .i64 3,.int .i64 0,.int .i64 0,.int .i64 1,.int .u64 0] W fun e w'=>e=.returned (.agg #[.int .i64 3,.int .i64 0,.int .i64 (-1),.int .i64 0,.int .i64 1,.int .i64 (-1),.int .i64 0,.int .u64 0])∧Below W.heap.size W w':=fun W=>op_is ⟨3,0,-1,0,1,-1,0,0⟩ rfl rfl rfl W
 have H3:∀ W:World,Calls Tryd.prog 45 #[.int .i64 17,.int .i64 (-1),.int .i64 (-1),.int .i64 (-1),.int .u64 0] W fun e w'=>e=.returned (.agg #[.int .i64 17,.int .i64 (-1),.int .i64 (-1),.int .i64 (-1),.int .i64 (-1),.int .i64 (-1),.int .i64 0,.int .u64 0])∧Below W.heap.size W w':=fun W=>op_is ⟨17,-1,-1,-1,-1,-1,0,0⟩ rfl rfl rfl W
 obtain ⟨W,hW⟩:∃ q,q=w.alloc (.cells #[.int .i64 0,.slice none 0 0,.slice none 0 0] 25):=⟨_,rfl⟩
 have hb:Below w.heap.size w W:=by rw [hW];exact (Below.refl _ _).alloc (Nat.le_refl _) _
 have h1:W.heap[w.heap.size]? = some (.cells #[.int .i64 0,.slice none 0 0,.slice none 0 0] 25 (0,0)):=by rw [hW];exact heap_alloc_new w _
 have HB:=Lh hb
 have HC:=Lh h1
 have HW:=Lh hW
 have K0:=Lh H0
 have K1:=Lh H1
 have K2:=Lh H2
 have K3:=Lh H3
 clear hW hb h1 H0 H1 H2 H3
 go_enter Tryd.func22,Tryd.ntmps22
 go_upto_region 1 with fail
 rw [←HW.out]
 go_wp2_with (first | ((with_reducible refine (K0.out _).mono ?_);rintro e w1 ⟨rfl,hb1⟩;have HB1:=Lh hb1;clear hb1) | ((with_reducible refine (K1.out _).mono ?_);rintro e w2 ⟨rfl,hb1⟩;have HB2:=Lh hb1;clear hb1) | ((with_reducible refine (K2.out _).mono ?_);rintro e w3 ⟨rfl,hb1⟩;have HB3:=Lh hb1;clear hb1) | ((with_reducible refine (K3.out _).mono ?_);rintro e w4 ⟨rfl,hb1⟩;have HB4:=Lh (HB1.out.trans ((HB2.out.trans ((HB3.out.trans (hb1.mono HB3.out.size)).mono HB2.out.size)).mono HB1.out.size));clear hb1;have HC4:=Lh ((HB4.out.block w.heap.size (lt_of_block HC.out)).trans HC.out);have HA:=Lh (fun x=>(Below.heap_alloc w4 x _ (lt_of_block HC4.out)).trans HC4.out);have a0:=fun x=>cell_row (row:=[_,_,_]) (HA.out x) (k:=0) rfl;have a1:=fun x=>cell_row (row:=[_,_,_]) (HA.out x) (k:=1) rfl;have a2:=fun x=>cell_row (row:=[_,_,_]) (HA.out x) (k:=2) rfl;have a3:=fun x k=>frozen_row (row:=[_,_,_]) (HA.out x) k))
 have hset:=setCell_row (setCell_row (setCell_row (row:=[_,_,_]) (HA.out (.cells ((exP.ops.map opRow).flatten).toArray 47)) 0 (.int .i64 3)) 1 (.slice none 0 0)) 2 (.slice (some ⟨w4.heap.size,0,none⟩) 4 4)
 refine bodyPost_ret (v:=.agg #[.int .i64 3,.slice none 0 0,.slice (some ⟨w4.heap.size,0,none⟩) 4 4]) (one_result rfl _ _ w.heap.size 25 #[.int .i64 3,.slice none 0 0,.slice (some ⟨w4.heap.size,0,none⟩) 4 4] (0,0) _ rfl hset Tryd.underlying25 rfl (by kernel_rfl)) rfl ?_
 have hz:w.heap.size < W.heap.size:=lt_of_block HC.out
 have hz4:=HB4.out.size
 refine ⟨w4.heap.size,rfl,?_,?_⟩
 · exact ((((HB.out.trans (HB4.out.mono HB.out.size)).alloc (Nat.le_trans HB.out.size hz4) _).setCell (Nat.le_refl _) _).setCell (Nat.le_refl _) _).setCell (Nat.le_refl _) _
 · have hne:w4.heap.size≠w.heap.size:=by omega
   exact (Below.heap_setCell _ _ _ _ hne).trans ((Below.heap_setCell _ _ _ _ hne).trans ((Below.heap_setCell _ _ _ _ hne).trans (heap_alloc_new w4 _)))
theorem ex_at {w:World} {go:Nat} (h:w.heap[go]? = some (.cells ((exP.ops.map opRow).flatten).toArray 47 (0,0))):ProgAt w (fun k=>k < w.heap.size) [.int .i64 3,.slice none 0 0,.slice (some ⟨go,0,none⟩) 4 4] exP:=by
 have hown:w.ownsRow 0 47 8 (.slice (some ⟨go,0,none⟩) 4 4) (exP.ops.map opRow).length ((exP.ops.map opRow).flatten):=⟨rfl,.inr ⟨go,4,_,rfl,Nat.zero_le _,h,by decide,by decide,rfl,rfl⟩⟩
 refine ⟨⟨_,_,rfl,⟨none,0,rfl,by simp [exP],by intro r hr;simp [exP] at hr,fun h=>absurd rfl h⟩,(rows_own hown (by intro r hr;obtain ⟨x,_,rfl⟩:=List.mem_map.1 hr;rfl)).mono fun k hk=>(own_lt hown k hk).1⟩,by decide,by decide,by decide,by decide⟩
end Go.Proofs.YtppoiahhaclleaaDoor
namespace Go.Proofs.YtppoiahhaclleaaDoor
open Go.RowKit
set_option maxRecDepth 100000
theorem eq_two (a b c d:Int) (w:World):(Op.equalIn 10000 43 (.agg #[.int .i64 a,.int .i64 b]) (.agg #[.int .i64 c,.int .i64 d])).run Tryd.prog w=.ok (a == c && b == d) w:=by
 obtain ⟨j0,hie,hy0,hy1,hy2⟩:=info_parts infoI
 rw [show (10000:Nat)=9999+1 from rfl,run_equalIn_array w 9999 _ _ Tryd.underlying43 hie,show List.range 2=[0,1] from rfl,show Tryd.prog.cellsOf 3=1 by kernel_rfl]
 have hp:∀ (x y:Int) (w:World),(part 3 #[.int .i64 x,.int .i64 y] 0).run Tryd.prog w=.ok (.int .i64 x) w∧(part 3 #[.int .i64 x,.int .i64 y] 1).run Tryd.prog w=.ok (.int .i64 y) w:=fun x y w=>by
   constructor <;> (go_simp;try rfl)
 have he:∀ (x y:Int) (w:World),(Op.equalIn 9999 3 (.int .i64 x) (.int .i64 y)).run Tryd.prog w=.ok (x == y) w:=fun x y w=>run_equalIn_int (P:=Tryd.prog) w 9998 3 .i64 .i64 x y Tryd.underlying3
 cases hac:(a == c) <;> cases hbd:(b == d) <;> simp [Op.eqItems,Sem.run_bind,(hp a b w).1,(hp a b w).2,(hp c d w).1,(hp c d w).2,he,hac,hbd]
theorem rows2_at {w:World} {F:Nat→Prop} {A:Option Addr} {n c:Nat} {a:List (Int×Int)} (h:Rows w F 2 (.slice A n c) (a.map spanRow)) {k:Nat} {s:Int×Int} (hk:a[k]? = some s) :
   ∃ b off,A=some ⟨b,off,none⟩∧F b∧w.cell? ⟨b,off+k*2,none⟩=some (.int .i64 s.1)∧w.cell? ⟨b,off+k*2+1,none⟩=some (.int .i64 s.2):=by
 obtain ⟨A',c',hv,_,_,hh⟩:=h
 cases hv
 obtain ⟨b,off,rfl,hF,hc⟩:=hh (by intro e;rw [List.map_eq_nil_iff] at e;rw [e] at hk;cases hk)
 have hr:(a.map spanRow)[k]? = some (spanRow s):=by rw [List.getElem?_map,hk];rfl
 exact ⟨b,off,rfl,hF,by simpa using hc k 0 _ _ hr rfl,hc k 1 _ _ hr rfl⟩
theorem take_eq {T:Type} {a b:List T} {k:Nat} {x y:T} (h:a.take k=b.take k) (hx:a[k]? = some x) (hy:b[k]? = some y):a.take (k+1)=b.take (k+1)↔x=y:=by
 rw [List.take_add_one,List.take_add_one,hx,hy,h]
 simp
set_option maxHeartbeats 4000000 in
theorem Same2_any (v u:Value) (w:World) (F:Nat→Prop) (a b:List (Int×Int)) (hn:a.length≤1000) (hm:b.length≤1000) (ha:Rows w F 2 v (a.map spanRow)) (hb:Rows w F 2 u (b.map spanRow)) (hF:∀ k,F k→k < w.heap.size) :
   Calls Tryd.prog 25 #[v,u] w fun e w'=>e=.returned (.bool (decide (a=b)))∧Below w.heap.size w w':=by
 obtain ⟨A,c,rfl,_⟩:=rows_form ha
 obtain ⟨B,d,rfl,_⟩:=rows_form hb
 obtain ⟨n,hna⟩:∃ n,a.length=n:=⟨_,rfl⟩
 obtain ⟨m,hmb⟩:∃ n,b.length=n:=⟨_,rfl⟩
 rw [hna] at ha hn ⊢
 rw [hmb] at hb hm ⊢
 have HA:=Lh ha
 have HB:=Lh hb
 have HF:=Lh hF
 have HL:=Lh (And.intro hna hmb)
 clear ha hb hF hna hmb
 by_cases hnm:n=m
 · subst hnm
   have q0:((n:Int) !=(n:Int))=false:=by simp
   go_enter Tryd.func25,Tryd.ntmps25
   go_wp2
   go_loopw [5] (fun j wr=>∃ k:Nat,k≤n∧j=.int .i64 k∧Below w.heap.size w wr∧Hid (a.take k=b.take k)) (fun j _=>n - (intOf j).toNat)
   case atStart=>exact ⟨0,by omega,rfl,Below.refl _ _,rfl⟩
   case round =>
     obtain ⟨k,hk,rfl,hbl,HT⟩:=hrel
     have HBL:=Lh hbl
     clear hbl
     by_cases hlt:k < n
     · obtain ⟨s,hs⟩:∃ s,a[k]? = some s:=⟨_,List.getElem?_eq_getElem (by have:=HL.out.1;omega)⟩
       obtain ⟨t,ht⟩:∃ s,b[k]? = some s:=⟨_,List.getElem?_eq_getElem (by have:=HL.out.2;omega)⟩
       obtain ⟨ba,oa,rfl,hFa,p0,p1⟩:=rows2_at HA.out hs
       obtain ⟨bb,ob,rfl,hFb,r0,r1⟩:=rows2_at HB.out ht
       have HTE:=Lh (take_eq HT.out hs ht)
       obtain ⟨x0,x1⟩:=s
       obtain ⟨y0,y1⟩:=t
       simp only [] at p0 p1 r0 r1
       have HCC:=Lh (And.intro ((HBL.out.cell (p:=⟨ba,oa+k*2,none⟩) (HF.out _ hFa)).trans p0) (And.intro ((HBL.out.cell (p:=⟨ba,oa+k*2+1,none⟩) (HF.out _ hFa)).trans p1) (And.intro ((HBL.out.cell (p:=⟨bb,ob+k*2,none⟩) (HF.out _ hFb)).trans r0) ((HBL.out.cell (p:=⟨bb,ob+k*2+1,none⟩) (HF.out _ hFb)).trans r1))))
       have i0:(0:Int)≤(k:Int):=by omega
       have i1:(k:Int) < (n:Int):=by omega
       have q1:IntKind.i64.wrap (k:Int)=k:=by rw [IntKind.wrap_i64];omega
       clear hs ht p0 p1 r0 r1 hFa hFb
       cases d0:(x0 == y0)
       · have HNE:=Lh (show ¬ ((x0,x1)=(y0,y1)) from fun e=>by cases e;simp at d0)
         have heq:=fun w=>eq_two x0 x1 y0 y1 w
         rw [d0,Bool.false_and] at heq
         go_wp2
         (refine wp_region_lines (fun w_=>w_.cell? ⟨ba,oa+k*2,none⟩=some (.int .i64 x0)∧w_.cell? ⟨ba,oa+k*2+1,none⟩=some (.int .i64 x1)∧w_.cell? ⟨bb,ob+k*2,none⟩=some (.int .i64 y0)∧w_.cell? ⟨bb,ob+k*2+1,none⟩=some (.int .i64 y1)) (by kernel_rfl) (by kernel_rfl) HCC.out ?_)
         (try simp only [])
         repeat (first | (refine runL_no (by rfl) ?_;(try simp only [Act.put,List.setIfInBounds_toArray,List.set_cons_zero,List.set_cons_succ])) | (refine runL_val (v:=?_) (by rfl) ?_ ?_;rotate_left;(focus (intro w_ hw_;obtain ⟨f1_,f2_,f3_,f4_⟩:=hw_;go_simp;(try with_reducible rfl);done));(try simp only [Act.put,List.setIfInBounds_toArray,List.set_cons_zero,List.set_cons_succ])))
         (refine runL_nil ?_)
         go_wp2
         go_ret
         exact ⟨ret_bool (by symm;exact decide_eq_false (fun e=>HNE.out (HTE.out.1 (by rw [e])))),HBL.out.drew⟩
       · cases d1:(x1 == y1)
         · have HNE:=Lh (show ¬ ((x0,x1)=(y0,y1)) from fun e=>by cases e;simp at d1)
           have heq:=fun w=>eq_two x0 x1 y0 y1 w
           rw [d0,d1,Bool.and_false] at heq
           go_wp2
           (refine wp_region_lines (fun w_=>w_.cell? ⟨ba,oa+k*2,none⟩=some (.int .i64 x0)∧w_.cell? ⟨ba,oa+k*2+1,none⟩=some (.int .i64 x1)∧w_.cell? ⟨bb,ob+k*2,none⟩=some (.int .i64 y0)∧w_.cell? ⟨bb,ob+k*2+1,none⟩=some (.int .i64 y1)) (by kernel_rfl) (by kernel_rfl) HCC.out ?_)
           (try simp only [])
           repeat (first | (refine runL_no (by rfl) ?_;(try simp only [Act.put,List.setIfInBounds_toArray,List.set_cons_zero,List.set_cons_succ])) | (refine runL_val (v:=?_) (by rfl) ?_ ?_;rotate_left;(focus (intro w_ hw_;obtain ⟨f1_,f2_,f3_,f4_⟩:=hw_;go_simp;(try with_reducible rfl);done));(try simp only [Act.put,List.setIfInBounds_toArray,List.set_cons_zero,List.set_cons_succ])))
           (refine runL_nil ?_)
           go_wp2
           go_ret
           exact ⟨ret_bool (by symm;exact decide_eq_false (fun e=>HNE.out (HTE.out.1 (by rw [e])))),HBL.out.drew⟩
         · have HEQ:=Lh (show (x0,x1)=(y0,y1) by rw [eq_of_beq d0,eq_of_beq d1])
           have heq:=fun w=>eq_two x0 x1 y0 y1 w
           rw [d0,d1,Bool.and_true] at heq
           go_wp2
           (refine wp_region_lines (fun w_=>w_.cell? ⟨ba,oa+k*2,none⟩=some (.int .i64 x0)∧w_.cell? ⟨ba,oa+k*2+1,none⟩=some (.int .i64 x1)∧w_.cell? ⟨bb,ob+k*2,none⟩=some (.int .i64 y0)∧w_.cell? ⟨bb,ob+k*2+1,none⟩=some (.int .i64 y1)) (by kernel_rfl) (by kernel_rfl) HCC.out ?_)
           (try simp only [])
           repeat (first | (refine runL_no (by rfl) ?_;(try simp only [Act.put,List.setIfInBounds_toArray,List.set_cons_zero,List.set_cons_succ])) | (refine runL_val (v:=?_) (by rfl) ?_ ?_;rotate_left;(focus (intro w_ hw_;obtain ⟨f1_,f2_,f3_,f4_⟩:=hw_;go_simp;(try with_reducible rfl);done));(try simp only [Act.put,List.setIfInBounds_toArray,List.set_cons_zero,List.set_cons_succ])))
           (refine runL_nil ?_)
           go_wp2
           go_roundw
           case rel=>exact ⟨k+1,by omega,by go_num,HBL.out.drew,HTE.out.2 HEQ.out⟩
           case measure=>simp [intOf];omega
     · have hkn:k=n:=by omega
       subst hkn
       have hab:a=b:=by
         have h:=HT.out
         rw [List.take_of_length_le (by rw [HL.out.1];exact Nat.le_refl _),List.take_of_length_le (by rw [HL.out.2];exact Nat.le_refl _)] at h
         exact h
       have HAB:=Lh hab
       clear hab
       go_wp2
       go_ret
       exact ⟨ret_bool (by symm;exact decide_eq_true HAB.out),HBL.out⟩
 · have q0:((n:Int) !=(m:Int))=true:=by simp;omega
   have HNM:=Lh (show ¬ a=b from fun e=>hnm (by rw [←HL.out.1,←HL.out.2,e]))
   clear hnm
   go_enter Tryd.func25,Tryd.ntmps25
   go_wp2
   go_ret
   exact ⟨ret_bool (by symm;exact decide_eq_false HNM.out),Below.refl _ _⟩
end Go.Proofs.YtppoiahhaclleaaDoor
namespace Go.Proofs.YtppoiahhaclleaaDoor
open Go.RowKit
set_option maxRecDepth 100000
def UsAt (w:World) (F:Nat→Prop) (v:Value) (l:List Nat):Prop:=Rows w F 1 v (l.map fun x:Nat=>[Value.int .u64 x])
theorem UsAt.at_ {w:World} {F:Nat→Prop} {A:Option Addr} {n c:Nat} {l:List Nat} (h:UsAt w F (.slice A n c) l) {k x:Nat} (hk:l[k]? = some x) :
   ∃ b o,A=some ⟨b,o,none⟩∧F b∧w.cell? ⟨b,o+k,none⟩=some (.int .u64 x):=by
 obtain ⟨b,o,hA,hF,hc⟩:=rows_at h hk
 exact ⟨b,o,hA,hF,by simpa using hc 0 _ rfl⟩
structure RowsU (w:World) (F:Nat→Prop) (v:Value) (rows:List (List Nat)):Prop where
 out:∃ vs:List Value,vs.length=rows.length∧Rows w F 1 v (vs.map fun x=>[x])∧∀ (i:Nat) (r:List Nat) (u:Value),rows[i]? = some r→vs[i]? = some u→UsAt w F u r
theorem RowsU.keep {w w':World} {F:Nat→Prop} {v:Value} {rows:List (List Nat)} (h:RowsU w F v rows) (hk:SameOn F w w'):RowsU w' F v rows:=by
 obtain ⟨vs,h1,h2,h3⟩:=h.out
 exact ⟨vs,h1,Rows.keep h2 hk,fun i r u hr hu=>Rows.keep (h3 i r u hr hu) hk⟩
theorem RowsU.mono {w:World} {F G:Nat→Prop} {v:Value} {rows:List (List Nat)} (h:RowsU w F v rows) (hk:∀ k,F k→G k):RowsU w G v rows:=by
 obtain ⟨vs,h1,h2,h3⟩:=h.out
 exact ⟨vs,h1,Rows.mono h2 hk,fun i r u hr hu=>Rows.mono (h3 i r u hr hu) hk⟩
theorem RowsU.next {w w':World} {v:Value} {rows:List (List Nat)} (h:RowsU w (fun k=>k < w.heap.size) v rows) (hb:Below w.heap.size w w'):RowsU w' (fun k=>k < w'.heap.size) v rows :=
 (h.keep (SameOn.of_below hb fun _ hk=>hk)).mono fun _ hk=>Nat.lt_of_lt_of_le hk hb.size
theorem RowsU.form {w:World} {F:Nat→Prop} {v:Value} {rows:List (List Nat)} (h:RowsU w F v rows):∃ A c,v=.slice A rows.length c∧rows.length≤c:=by
 obtain ⟨vs,h1,h2,_⟩:=h.out
 rw [←h1]
 exact rows_form h2
theorem RowsU.at_ {w:World} {F:Nat→Prop} {A:Option Addr} {n c:Nat} {rows:List (List Nat)} (h:RowsU w F (.slice A n c) rows) {k:Nat} {r:List Nat} (hk:rows[k]? = some r) :
   ∃ b o A' c',A=some ⟨b,o,none⟩∧F b∧w.cell? ⟨b,o+k,none⟩=some (.slice A' r.length c')∧UsAt w F (.slice A' r.length c') r:=by
 obtain ⟨vs,h1,h2,h3⟩:=h.out
 have hl:=(List.getElem?_eq_some_iff.1 hk).1
 obtain ⟨u,hu⟩:∃ u,vs[k]? = some u:=⟨_,List.getElem?_eq_getElem (by omega)⟩
 obtain ⟨b,o,hA,hF,hc⟩:=rows_at h2 hu
 have hU:=h3 k r u hk hu
 obtain ⟨A',c',rfl,_⟩:=rows_form hU
 exact ⟨b,o,A',c',hA,hF,by simpa using hc 0 _ rfl,hU⟩
set_option maxHeartbeats 4000000 in
theorem SameU_self (A B:Option Addr) (n c d:Nat) (w:World) (F:Nat→Prop) (a:List Nat) (hn:a.length≤1000000) (ha:UsAt w F (.slice A n c) a) (hb:UsAt w F (.slice B n d) a) (hF:∀ k,F k→k < w.heap.size) :
   Calls Tryd.prog 44 #[.slice A n c,.slice B n d] w fun e w'=>e=.returned (.bool true)∧Below w.heap.size w w':=by
 have hna:a.length=n:=by obtain ⟨A,c,hv,_⟩:=rows_form ha;cases hv;rfl
 have HA:=Lh ha
 have HB:=Lh hb
 have HF:=Lh hF
 have HL:=Lh hna
 have hn1:n≤1000000:=by omega
 clear ha hb hF hna hn
 have q0:((n:Int) !=(n:Int))=false:=by simp
 go_enter Tryd.func44,Tryd.ntmps44
 go_wp2
 go_loopw [5] (fun j wr=>∃ k:Nat,k≤n∧j=.int .i64 k∧Below w.heap.size w wr) (fun j _=>n - (intOf j).toNat)
 case atStart=>exact ⟨0,by omega,rfl,Below.refl _ _⟩
 case round =>
   obtain ⟨k,hk,rfl,hbl⟩:=hrel
   have HBL:=Lh hbl
   clear hbl
   by_cases hlt:k < n
   · obtain ⟨x,hx⟩:∃ s,a[k]? = some s:=⟨_,List.getElem?_eq_getElem (by have:=HL.out;omega)⟩
     obtain ⟨ba,oa,rfl,hFa,p0⟩:=HA.out.at_ hx
     obtain ⟨bb,ob,rfl,hFb,r0⟩:=HB.out.at_ hx
     have HCC:=Lh (And.intro ((HBL.out.cell (p:=⟨ba,oa+k,none⟩) (HF.out _ hFa)).trans p0) ((HBL.out.cell (p:=⟨bb,ob+k,none⟩) (HF.out _ hFb)).trans r0))
     have i0:(0:Int)≤(k:Int):=by omega
     have i1:(k:Int) < (n:Int):=by omega
     have q1:IntKind.i64.wrap (k:Int)=k:=by rw [IntKind.wrap_i64];omega
     have q2:((x:Int) !=(x:Int))=false:=by simp
     have q3:(x != x)=false:=by simp
     clear hx p0 r0 hFa hFb
     go_wp2
     (refine wp_region_lines (fun w_=>w_.cell? ⟨ba,oa+k,none⟩=some (.int .u64 x)∧w_.cell? ⟨bb,ob+k,none⟩=some (.int .u64 x)) (by kernel_rfl) (by kernel_rfl) HCC.out ?_)
     (try simp only [])
     repeat (first | (refine runL_no (by rfl) ?_;(try simp only [Act.put,List.setIfInBounds_toArray,List.set_cons_zero,List.set_cons_succ])) | (refine runL_val (v:=?_) (by rfl) ?_ ?_;rotate_left;(focus (intro w_ hw_;obtain ⟨f1_,f2_⟩:=hw_;go_simp;(try with_reducible rfl);done));(try simp only [Act.put,List.setIfInBounds_toArray,List.set_cons_zero,List.set_cons_succ])))
     (refine runL_nil ?_)
     go_wp2
     go_roundw
     case rel=>exact ⟨k+1,by omega,by go_num,HBL.out.drew⟩
     case measure=>simp [intOf];omega
   · have hkn:k=n:=by omega
     subst hkn
     go_wp2
     go_ret
     exact ⟨rfl,HBL.out⟩
set_option maxHeartbeats 4000000 in
theorem RowsU_self (A B:Option Addr) (n c d:Nat) (w:World) (a:List (List Nat)) (hn:a.length≤1000000) (hr:∀ r∈a,r.length≤1000000) (ha:RowsU w (fun k=>k < w.heap.size) (.slice A n c) a) (hb:RowsU w (fun k=>k < w.heap.size) (.slice B n d) a) :
   Calls Tryd.prog 19 #[.slice A n c,.slice B n d] w fun e w'=>e=.returned (.bool true)∧Below w.heap.size w w':=by
 have hna:a.length=n:=by obtain ⟨A,c,hv,_⟩:=ha.form;cases hv;rfl
 have HA:=Lh ha
 have HB:=Lh hb
 have HL:=Lh (And.intro hna hr)
 have hn1:n≤1000000:=by omega
 clear ha hb hna hn hr
 have q0:((n:Int) !=(n:Int))=false:=by simp
 go_enter Tryd.func19,Tryd.ntmps19
 go_wp2
 go_loopw [5] (fun j wr=>∃ k:Nat,k≤n∧j=.int .i64 k∧Below w.heap.size w wr) (fun j _=>n - (intOf j).toNat)
 case atStart=>exact ⟨0,by omega,rfl,Below.refl _ _⟩
 case round =>
   obtain ⟨k,hk,rfl,hbl⟩:=hrel
   have HBL:=Lh hbl
   by_cases hlt:k < n
   · obtain ⟨x,hx⟩:∃ s,a[k]? = some s:=⟨_,List.getElem?_eq_getElem (by have:=HL.out.1;omega)⟩
     obtain ⟨ba,oa,Aa,ca,rfl,hFa,p0,pu⟩:=(HA.out.next hbl).at_ hx
     obtain ⟨bb,ob,Ab,cb,rfl,hFb,r0,ru⟩:=(HB.out.next hbl).at_ hx
     have HXL:=Lh (HL.out.2 x (List.mem_of_getElem? hx))
     have HCC:=Lh (And.intro p0 r0)
     have HSM:=Lh (SameU_self Aa Ab x.length ca cb wr.drew _ x HXL.out pu ru (fun _ h=>h))
     have i0:(0:Int)≤(k:Int):=by omega
     have i1:(k:Int) < (n:Int):=by omega
     have q1:IntKind.i64.wrap (k:Int)=k:=by rw [IntKind.wrap_i64];omega
     clear hx p0 r0 pu ru hFa hFb hbl
     go_wp2_with fail
     (refine wp_region_lines (fun w_=>w_.cell? ⟨ba,oa+k,none⟩=some (.slice Aa x.length ca)∧w_.cell? ⟨bb,ob+k,none⟩=some (.slice Ab x.length cb)) (by kernel_rfl) (by kernel_rfl) HCC.out ?_)
     (try simp only [])
     repeat (first | (refine runL_no (by rfl) ?_;(try simp only [Act.put,List.setIfInBounds_toArray,List.set_cons_zero,List.set_cons_succ])) | (refine runL_val (v:=?_) (by rfl) ?_ ?_;rotate_left;(focus (intro w_ hw_;obtain ⟨f1_,f2_⟩:=hw_;go_simp;(try with_reducible rfl);done));(try simp only [Act.put,List.setIfInBounds_toArray,List.set_cons_zero,List.set_cons_succ])) | (refine runL_call (f:=?_) (args:=?_) (w1:=?_) (by rfl) (by rfl) ?_ ?_;rotate_left 3;(focus (go_simp;refine ⟨⟨?_,?_⟩,?_⟩ <;> with_reducible rfl));(with_reducible refine (HSM.out).mono ?_);rintro e w1 ⟨rfl,hb1⟩;have H1:=Lh hb1;clear hb1;refine ⟨_,rfl,.inr ⟨(H1.out.cell (p:=⟨ba,oa+k,none⟩) (World.block_lt_of_cell? _ _ HCC.out.1)).trans HCC.out.1,(H1.out.cell (p:=⟨bb,ob+k,none⟩) (World.block_lt_of_cell? _ _ HCC.out.2)).trans HCC.out.2⟩,?_⟩;(try simp only [Act.put,List.setIfInBounds_toArray,List.set_cons_zero,List.set_cons_succ])))
     (refine runL_nil ?_)
     go_wp2
     go_roundw
     case rel=>exact ⟨k+1,by omega,by go_num,HBL.out.drew.trans (H1.out.mono HBL.out.drew.size)⟩
     case measure=>simp [intOf];omega
   · clear hbl
     have hkn:k=n:=by omega
     subst hkn
     go_wp2
     go_ret
     exact ⟨rfl,HBL.out⟩
set_option maxHeartbeats 4000000 in
theorem LightRows_any (A:Option Addr) (n c:Nat) (w:World) (F:Nat→Prop) (a:List (List Nat)) (ha:RowsU w F (.slice A n c) a) :
   Calls Tryd.prog 10 #[.slice A n c] w fun e w'=>∃ b:Bool,e=.returned (.bool b)∧w=w':=by
 have hna:a.length=n:=by obtain ⟨A,c,hv,_⟩:=ha.form;cases hv;rfl
 have HA:=Lh ha
 have HL:=Lh hna
 clear ha hna
 go_enter Tryd.func10,Tryd.ntmps10
 go_wp2
 go_loopw [3] (fun j wr=>∃ k:Nat,k≤41∧j=.int .i64 k∧w=wr) (fun j _=>41 - (intOf j).toNat)
 case atStart=>exact ⟨0,by omega,rfl,by trivial⟩
 case round =>
   obtain ⟨k,hk,rfl,rfl⟩:=hrel
   by_cases hlt:k < n
   · have d1:decide (k < n)=true:=decide_eq_true hlt
     by_cases h40:k≤40
     · have d2:decide ((k:Int)≤40)=true:=decide_eq_true (by omega)
       have d2':decide (k≤40)=true:=decide_eq_true (by omega)
       obtain ⟨x,hx⟩:∃ s,a[k]? = some s:=⟨_,List.getElem?_eq_getElem (by have:=HL.out;omega)⟩
       obtain ⟨ba,oa,Aa,ca,rfl,hFa,p0,_⟩:=HA.out.at_ hx
       have i0:(0:Int)≤(k:Int):=by omega
       have i1:(k:Int) < (n:Int):=by omega
       clear hx hFa
       go_wp2
       · go_ret
         exact ⟨_,rfl,rfl⟩
       · go_roundw
         case rel=>exact ⟨k+1,by omega,by go_num,by trivial⟩
         case measure=>simp [intOf];omega
     · have d2:decide ((k:Int)≤40)=false:=decide_eq_false (by omega)
       have d2':decide (k≤40)=false:=decide_eq_false (by omega)
       go_wp2
       go_ret
       exact ⟨_,rfl,rfl⟩
   · have d1:decide (k < n)=false:=decide_eq_false hlt
     go_wp2
     go_ret
     exact ⟨_,rfl,rfl⟩
end Go.Proofs.YtppoiahhaclleaaDoor
namespace Go.Proofs.YtppoiahhaclleaaDoor
open Go.RowKit
set_option maxRecDepth 100000
theorem ex_p1:placesF exP 1 [0,-1,0]=0:=by decide +kernel
theorem ex_p2:placesF exP 2 [0,0,0]=6:=by decide +kernel
theorem ex_same {A:Option Addr} {c:Nat} {F:Nat→Prop} (w:World) (hr:Rows w F 2 (.slice A 3 c) ((spansF exP).map spanRow)) (hF:∀ k,F k→k < w.heap.size) :
   Calls Tryd.prog 25 #[.slice A 3 c,.slice (some ⟨w.heap.size,0,none⟩) 3 3] (w.alloc (.cells #[.int .i64 0,.int .i64 3,.int .i64 1,.int .i64 3,.int .i64 (-1),.int .i64 (-1)] 43)) fun e w'=>e=.returned (.bool true)∧Below w.heap.size w w':=by
 have hb:Below w.heap.size w (w.alloc (.cells #[.int .i64 0,.int .i64 3,.int .i64 1,.int .i64 3,.int .i64 (-1),.int .i64 (-1)] 43)):=(Below.refl _ _).alloc (Nat.le_refl _) _
 obtain ⟨W,hW⟩:∃ q,q=w.alloc (.cells #[.int .i64 0,.int .i64 3,.int .i64 1,.int .i64 3,.int .i64 (-1),.int .i64 (-1)] 43):=⟨_,rfl⟩
 have h1:W.heap[w.heap.size]? = some (.cells #[.int .i64 0,.int .i64 3,.int .i64 1,.int .i64 3,.int .i64 (-1),.int .i64 (-1)] 43 (0,0)):=by rw [hW];exact heap_alloc_new w _
 rw [←hW] at hb ⊢
 have hown:W.ownsRow 0 43 2 (.slice (some ⟨w.heap.size,0,none⟩) 3 3) (([(0,3),(1,3),(-1,-1)]:List (Int×Int)).map spanRow).length ((([(0,3),(1,3),(-1,-1)]:List (Int×Int)).map spanRow).flatten):=⟨rfl,.inr ⟨w.heap.size,3,_,rfl,Nat.zero_le _,h1,by decide,by decide,rfl,rfl⟩⟩
 have h:=Same2_any _ _ W (fun k=>k < W.heap.size) (spansF exP) [(0,3),(1,3),(-1,-1)] (by rw [ex_spans];decide) (by decide) ((Rows.keep hr (SameOn.of_below hb hF)).mono fun k hk=>Nat.lt_of_lt_of_le (hF k hk) hb.size) ((rows_own hown (by intro r hr;obtain ⟨x,_,rfl⟩:=List.mem_map.1 hr;rfl)).mono fun k hk=>(own_lt hown k hk).1) (fun _ h=>h)
 rw [ex_spans] at h
 refine h.mono ?_
 rintro e w' ⟨rfl,hb'⟩
 exact ⟨rfl,hb.trans (hb'.mono hb.size)⟩
theorem ex_chk2 {go:Nat} (w:World) (hx:w.heap[go]? = some (.cells ((exP.ops.map opRow).flatten).toArray 47 (0,0))) :
   Calls Tryd.prog 24 #[.agg #[.int .i64 3,.slice none 0 0,.slice (some ⟨go,0,none⟩) 4 4],.int .i64 2,.slice (some ⟨w.heap.size,0,none⟩) 3 3] (w.alloc (.cells #[.int .i64 0,.int .i64 0,.int .i64 0] 3)) fun e w'=>e=.returned (.int .i64 6)∧Below w.heap.size w w':=by
 have hb:Below w.heap.size w (w.alloc (.cells #[.int .i64 0,.int .i64 0,.int .i64 0] 3)):=(Below.refl _ _).alloc (Nat.le_refl _) _
 obtain ⟨W,hW⟩:∃ q,q=w.alloc (.cells #[.int .i64 0,.int .i64 0,.int .i64 0] 3):=⟨_,rfl⟩
 have h1:W.heap[w.heap.size]? = some (.cells (intV [0,0,0]).toArray 3 (0,0)):=by rw [hW];exact heap_alloc_new w _
 rw [←hW] at hb ⊢
 have h:=acheck_any exP none (some ⟨go,0,none⟩) (some ⟨w.heap.size,0,none⟩) 0 0 4 4 3 3 2 [0,0,0] W (ex_at ((hb.block go (lt_of_block hx)).trans hx)) ((nums_blk h1).mono fun k hk=>by subst hk;exact lt_of_block h1)
 rw [ex_p2] at h
 refine h.mono ?_
 rintro e w' ⟨rfl,hb'⟩
 exact ⟨rfl,hb.trans (hb'.mono hb.size)⟩
theorem ex_chk1 {go gl:Nat} (w:World) (hx:w.heap[go]? = some (.cells ((exP.ops.map opRow).flatten).toArray 47 (0,0))) (hl:EndsAt w gl [0,-1,0]) :
   Calls Tryd.prog 24 #[.agg #[.int .i64 3,.slice none 0 0,.slice (some ⟨go,0,none⟩) 4 4],.int .i64 1,.slice (some ⟨gl,0,none⟩) 3 3] w fun e w'=>e=.returned (.int .i64 0)∧Below w.heap.size w w':=by
 have h:=acheck_any exP none (some ⟨go,0,none⟩) (some ⟨gl,0,none⟩) 0 0 4 4 3 3 1 [0,-1,0] w (ex_at hx) ((nums_blk hl).mono fun k hk=>by subst hk;exact lt_of_block hl)
 rw [ex_p1] at h
 exact h
set_option maxHeartbeats 8000000 in
theorem lives_is (w:World) (hT:TzAt w):Calls Tryd.prog 7 #[] w fun e w'=>e=.returned (.bool true)∧Below w.heap.size w w':=by
 have hw0:0 < w.heap.size:=lt_cell (hT 0 (by decide))
 have HE:=Lh (example_is w)
 have HT:=Lh hT
 have HW0:=Lh hw0
 clear hT hw0
 go_enter Tryd.func7,Tryd.ntmps7
 go_upto_region 2 with ((with_reducible refine (HE.out).mono ?_);rintro e w1 ⟨go,rfl,hb1,hops⟩;have H1:=Lh (And.intro hb1 hops);clear hb1 hops)
 obtain ⟨W,hW⟩:∃ q,q=w1.alloc (.cells #[.int .i64 3,.slice none 0 0,.slice (some ⟨go,0,none⟩) 4 4] 25):=⟨_,rfl⟩
 rw [←hW]
 obtain ⟨gp,hgp⟩:∃ q,w1.heap.size=q:=⟨_,rfl⟩
 rw [hgp]
 have hbW:Below w1.heap.size w1 W:=by rw [hW];exact (Below.refl _ _).alloc (Nat.le_refl _) _
 have hp:W.heap[gp]? = some (.cells #[.int .i64 3,.slice none 0 0,.slice (some ⟨go,0,none⟩) 4 4] 25 (0,0)):=by rw [hW,←hgp];exact heap_alloc_new w1 _
 have HB:=Lh (show Below w.heap.size w W from H1.out.1.trans (hbW.mono H1.out.1.size))
 have HP:=Lh hp
 have HX:=Lh (show W.heap[go]? = some (.cells ((exP.ops.map opRow).flatten).toArray 47 (0,0)) from (hbW.block go (lt_of_block H1.out.2)).trans H1.out.2)
 have HAT:=Lh (fun wr (hb:Below W.heap.size W wr)=>ex_at ((hb.block go (lt_of_block HX.out)).trans HX.out))
 have HPR:=Lh (fun wr (hb:Below W.heap.size W wr)=>(hb.block gp (lt_of_block HP.out)).trans HP.out)
 have HBU:=Lh (show Calls Tryd.prog 13 #[.agg #[.int .i64 3,.slice none 0 0,.slice (some ⟨go,0,none⟩) 4 4],.int .i64 1] W _ from Build_ex none (some ⟨go,0,none⟩) 0 0 4 4 1 [0,-1,0] W (HAT.out W (Below.refl _ _)) (HT.out.next HB.out HW0.out) (.inl ⟨rfl,rfl⟩))
 have c0:W.cell? ⟨gp,0,none⟩=some (.int .i64 3):=cell_row (row:=[_,_,_]) HP.out rfl
 have c1:W.cell? ⟨gp,1,none⟩=some (.slice none 0 0):=cell_row (row:=[_,_,_]) HP.out rfl
 have c2:W.cell? ⟨gp,2,none⟩=some (.slice (some ⟨go,0,none⟩) 4 4):=cell_row (row:=[_,_,_]) HP.out rfl
 clear hW hbW hp hgp
 go_upto_region 3 with ((with_reducible refine (HBU.out).mono ?_);rintro e w2 ⟨gl,rfl,hgl,hel,hb2⟩;have H2:=Lh (And.intro hgl (And.intro hel hb2));clear hgl hel hb2)
 clear c0 c1 c2
 have c0:w2.cell? ⟨gp,0,none⟩=some (.int .i64 3):=cell_row (row:=[_,_,_]) (HPR.out w2 H2.out.2.2) rfl
 have c1:w2.cell? ⟨gp,1,none⟩=some (.slice none 0 0):=cell_row (row:=[_,_,_]) (HPR.out w2 H2.out.2.2) rfl
 have c2:w2.cell? ⟨gp,2,none⟩=some (.slice (some ⟨go,0,none⟩) 4 4):=cell_row (row:=[_,_,_]) (HPR.out w2 H2.out.2.2) rfl
 have HX2:=Lh ((H2.out.2.2.block go (lt_of_block HX.out)).trans HX.out)
 have HLV:=Lh (show Calls Tryd.prog 20 #[.agg #[.int .i64 3,.slice none 0 0,.slice (some ⟨go,0,none⟩) 4 4]] w2 _ from Live_ok exP none (some ⟨go,0,none⟩) 0 0 4 4 3 w2 (HAT.out w2 H2.out.2.2) (by rw [ex_check]) rfl)
 go_wp2_with (first | ((with_reducible refine (HLV.out).mono ?_);rintro e w3 ⟨A3,c3,rfl,hb3,hr3⟩;have HL3:=Lh (EndsAt.chg (P:=fun _=>False) H2.out.2.1 (.of_below hb3) id);have HSM:=Lh (ex_same w3 hr3 (fun _ h=>h.2));have H3:=Lh (H2.out.2.2.trans (hb3.mono H2.out.2.2.size));clear hb3 hr3) | ((with_reducible refine (HSM.out).mono ?_);rintro e w4 ⟨rfl,hb4⟩;have H4:=Lh (H3.out.trans (hb4.mono H3.out.size));have HD4:=Lh (H4.out.block gp (lt_of_block HP.out));have d0:w4.cell? ⟨gp,0,none⟩=some (.int .i64 3):=cell_row (row:=[_,_,_]) (HPR.out w4 H4.out) rfl;have d1:w4.cell? ⟨gp,1,none⟩=some (.slice none 0 0):=cell_row (row:=[_,_,_]) (HPR.out w4 H4.out) rfl;have d2:w4.cell? ⟨gp,2,none⟩=some (.slice (some ⟨go,0,none⟩) 4 4):=cell_row (row:=[_,_,_]) (HPR.out w4 H4.out) rfl;have HK1:=Lh (ex_chk1 (go:=go) (gl:=gl) w4 ((H4.out.block go (lt_of_block HX.out)).trans HX.out) (EndsAt.chg (P:=fun _=>False) HL3.out (.of_below hb4) id));clear hb4) | ((with_reducible refine (HK1.out).mono ?_);rintro e w5 ⟨rfl,hb5⟩;have H5:=Lh (H4.out.trans (hb5.mono H4.out.size));have f0:w5.cell? ⟨gp,0,none⟩=some (.int .i64 3):=cell_row (row:=[_,_,_]) (HPR.out w5 H5.out) rfl;have f1:w5.cell? ⟨gp,1,none⟩=some (.slice none 0 0):=cell_row (row:=[_,_,_]) (HPR.out w5 H5.out) rfl;have f2:w5.cell? ⟨gp,2,none⟩=some (.slice (some ⟨go,0,none⟩) 4 4):=cell_row (row:=[_,_,_]) (HPR.out w5 H5.out) rfl;have HK2:=Lh (ex_chk2 (go:=go) w5 ((H5.out.block go (lt_of_block HX.out)).trans HX.out));clear hb5) | ((with_reducible refine (HK2.out).mono ?_);rintro e w6 ⟨rfl,hb6⟩;have H6:=Lh (H5.out.trans (hb6.mono H5.out.size));clear hb6))
 go_ret
 exact ⟨rfl,HB.out.trans (H6.out.mono HB.out.size)⟩
end Go.Proofs.YtppoiahhaclleaaDoor
namespace Go.Proofs.YtppoiahhaclleaaDoor
open Go.RowKit
theorem check_same (p:LP):checkF p p.regs.toNat=checkF p 64:=by
 by_cases h:headF p=0
 · have:=head_ok h
   exact check_alike (by omega) (by omega)
 · unfold checkF
   rw [if_pos h,if_pos h]
end Go.Proofs.YtppoiahhaclleaaDoor
namespace Go.Proofs.YtppoiahhaclleaaDoor
open Go.ChangeShapes Go.WideShapes Go.Deep Go.RowKit
set_option maxRecDepth 100000
theorem list_of_all {α:Type} (Q:Nat→α→Prop):∀ n,(∀ i,i < n→∃ x,Q i x)→∃ L:List α,L.length=n∧∀ (i:Nat) (x:α),L[i]? = some x→Q i x
 | 0,_=>⟨[],rfl,fun i x h=>by simp at h⟩
 | n+1,h=>by
   obtain ⟨L,hl,hq⟩:=list_of_all Q n (fun i hi=>h i (by omega))
   obtain ⟨x,hx⟩:=h n (by omega)
   refine ⟨L++[x],by simp [hl],fun i y hy=>?_⟩
   rcases Nat.lt_or_ge i n with hi | hi
   · rw [List.getElem?_append_left (by omega)] at hy;exact hq i y hy
   · rw [List.getElem?_append_right (by omega)] at hy
     have:i - L.length=0:=by
       rcases Nat.eq_zero_or_pos (i - L.length) with h | h
       · exact h
       · rw [List.getElem?_eq_none (by simp;omega)] at hy;cases hy
     rw [this] at hy
     simp at hy
     subst hy
     rw [show i=n from by omega];exact hx
theorem plain_addr {w:World} {a:Addr} {k:Nat} {v:Value} (h:w.cell? (a.add k)=some v) (h0:∃ u,w.cell? a=some u):a=⟨a.block,a.off,none⟩∧a.block < w.heap.size∧a.add k=⟨a.block,a.off+k,none⟩:=by
 obtain ⟨u,hu⟩:=h0
 have hb:=World.block_lt_of_cell? w a hu
 have hs:a.spot=none:=by
   cases hsp:a.spot with
   | none=>rfl
   | some s =>
     unfold World.cell? at hu
     split at hu
     · simp [hsp] at hu
     · cases hu
 have ha:a=⟨a.block,a.off,none⟩:=by cases a;simp_all
 refine ⟨ha,hb,?_⟩
 unfold Addr.add
 split
 · rename_i hk;subst hk;simpa using ha
 · rfl
section
variable {H:Type} {enc:TypeId×Value→H} {w:World}
theorem open_rows {α:Type} {T St sz:Nat} (row:α→List Value) (Q:α→Prop) (hT:Tryd.prog.underlying T=some (.slice St)) (hC:Tryd.prog.cellsOf St=sz) (h0:0 < sz) (hrow:∀ x,(row x).length=sz)
   (each:∀ fuel cs y,DataW.trod enc Tryd.prog w 0 (fun _=>true) true fuel St cs=some y→cs.length=sz→∃ x,cs=row x∧Q x)
   {A:Option Addr} {n c:Nat} {d:DataW H} {ps:List MemPlace} (h:DataW.Trod enc Tryd.prog w 0 (fun _=>true) true T (.slice A n c) d ps) :
   ∃ l:List α,Rows w (fun k=>k < w.heap.size) sz (.slice A n c) (l.map row)∧(∀ x∈l,Q x)∧l.length≤9223372036854775807:=by
 obtain ⟨fuel,hf⟩:=h
 rcases open_slice hT hf with ⟨hcs,_⟩ | ⟨a,len,cap,m,q,D,Pl,hcs,_,hl,hm,hmm,_,hi⟩
 · simp [Value.cells] at hcs
   obtain ⟨rfl,rfl,rfl⟩:=hcs
   exact ⟨[],⟨none,0,rfl,by simp,by simp,fun h=>absurd rfl h⟩,by simp,by simp⟩
 · simp [Value.cells] at hcs
   obtain ⟨rfl,rfl,rfl⟩:=hcs
   simp only [if_true] at hmm
   have ech:∀ i,i < n→∃ x:α,Q x∧∀ (j:Nat) (u:Value),(row x)[j]? = some u→w.cell? (a.add (i*sz+j))=some u:=fun i hin=>by
     obtain ⟨cs',hc,ht⟩:=hi i (by omega)
     rw [hC] at hc
     obtain ⟨_,hlen,hat⟩:=World.cells?_some hc
     obtain ⟨x,rfl,hq⟩:=each _ _ _ ht hlen
     refine ⟨x,hq,fun j u hu=>?_⟩
     have:=hat j (by rw [←hlen];exact (List.getElem?_eq_some_iff.1 hu).1)
     rw [←add_add,this,hu]
   obtain ⟨L,hL,hq⟩:=list_of_all _ n ech
   refine ⟨L,⟨some a,c,by simp [hL],by simp [hL];omega,fun r hr=>by obtain ⟨x,_,rfl⟩:=List.mem_map.1 hr;exact hrow x,fun hne=>?_⟩,fun x hx=>?_,by rw [hL];unfold maxLen at hm;omega⟩
   · have hpos:0 < L.length:=by
       cases L with
       | nil=>simp at hne
       | cons=>simp
     have hl0:=hrow L[0]
     obtain ⟨aB,hu0⟩:∃ u,(row L[0])[0]? = some u:=by
       cases hx:row L[0] with
       | nil=>rw [hx] at hl0;simp at hl0;omega
       | cons u us=>exact ⟨u,rfl⟩
     have hp0:=(hq 0 L[0] (List.getElem?_eq_getElem hpos)).2 0 aB hu0
     have h00:∃ u,w.cell? a=some u:=⟨_,by simpa [Addr.add] using hp0⟩
     obtain ⟨ha,hb,_⟩:=plain_addr hp0 h00
     refine ⟨a.block,a.off,by rw [←ha],hb,fun i j r u hr hu=>?_⟩
     rw [List.getElem?_map] at hr
     cases hpi:L[i]? with
     | none=>rw [hpi] at hr;cases hr
     | some x =>
       rw [hpi] at hr
       cases hr
       have hc:=(hq i x hpi).2 j u hu
       obtain ⟨_,_,hadd⟩:=plain_addr hc h00
       rw [hadd] at hc
       rw [show a.off+i*sz+j=a.off+(i*sz+j) from by omega]
       exact hc
   · obtain ⟨i,hi⟩:=List.mem_iff_getElem?.1 hx
     exact (hq i x hi).1
theorem trod_u64 {fuel:Nat} {cs:List Value} {y:DataW H×List MemPlace} (h:DataW.trod enc Tryd.prog w 0 (fun _=>true) true fuel 45 cs=some y):∃ n:Nat,cs=[.int .u64 n]∧n < 18446744073709551616:=by
 obtain ⟨z,hz,_,hwf⟩:=DataW.trod_int Tryd.underlying45 h
 have hzb:0≤z∧z≤18446744073709551615:=by simpa [Lit.wf,IntKind.min,IntKind.max,IntKind.bits,IntKind.signed] using hwf
 exact ⟨z.toNat,by rw [hz];congr 2;omega,by omega⟩
theorem trod_i64 {fuel:Nat} {cs:List Value} {y:DataW H×List MemPlace} (h:DataW.trod enc Tryd.prog w 0 (fun _=>true) true fuel 3 cs=some y):∃ z:Int,cs=[.int .i64 z]∧-9223372036854775808≤z∧z≤9223372036854775807:=by
 obtain ⟨z,hz,_,hwf⟩:=DataW.trod_int Tryd.underlying3 h
 have hzb:-9223372036854775808≤z∧z≤9223372036854775807:=by simpa [Lit.wf,IntKind.min,IntKind.max,IntKind.bits,IntKind.signed] using hwf
 exact ⟨z,hz,hzb⟩
end
section
variable {H:Type} {enc:TypeId×Value→H} {w:World}
theorem trod_bool1 {fuel:Nat} {cs:List Value} {y:DataW H×List MemPlace} (h:DataW.trod enc Tryd.prog w 0 (fun _=>true) true fuel 4 cs=some y):∃ b,cs=[.bool b]:=by
 obtain ⟨b,hb,_⟩:=DataW.trod_bool Tryd.underlying4 h
 exact ⟨b,hb⟩
theorem trod_form {T St fuel:Nat} {c:Value} {y:DataW H×List MemPlace} (hT:Tryd.prog.underlying T=some (.slice St)) (h:DataW.trod enc Tryd.prog w 0 (fun _=>true) true fuel T [c]=some y):∃ A n k,c=.slice A n k:=by
 rcases open_slice hT h with ⟨hcs,_⟩ | ⟨a,len,cap,m,q,D,Pl,hcs,_⟩
 · cases hcs;exact ⟨_,_,_,rfl⟩
 · cases hcs;exact ⟨_,_,_,rfl⟩
theorem open_buf (fuel:Nat) (cs:List Value) (y:DataW H×List MemPlace) (h:DataW.trod enc Tryd.prog w 0 (fun _=>true) true fuel 60 cs=some y) (hl:cs.length=3):∃ x:Bf,cs=bufRow x∧(-9223372036854775808≤x.size∧x.size≤9223372036854775807):=by
 obtain ⟨xs,f,_,_,hlen,hxl,hfs⟩:=DataW.trod_struct Tryd.underlying60 h
 match cs,hl with
 | [c0,c1,c2],_ =>
   match xs,hxl with
   | [y0,y1,y2],_ =>
     have t0:DataW.trod enc Tryd.prog w 0 (fun _=>true) true f 3 (([c0,c1,c2].drop 0).take (Tryd.prog.cellsOf 3))=some y0:=hfs 0 _ rfl
     have t1:DataW.trod enc Tryd.prog w 0 (fun _=>true) true f 3 (([c0,c1,c2].drop 1).take (Tryd.prog.cellsOf 3))=some y1:=hfs 1 _ rfl
     have t2:DataW.trod enc Tryd.prog w 0 (fun _=>true) true f 4 (([c0,c1,c2].drop 2).take (Tryd.prog.cellsOf 4))=some y2:=hfs 2 _ rfl
     have k0:Tryd.prog.cellsOf 3=1:=by kernel_rfl
     have k2:Tryd.prog.cellsOf 4=1:=by kernel_rfl
     rw [k0] at t0 t1
     rw [k2] at t2
     simp only [List.drop_zero,List.drop_succ_cons,List.take_succ_cons,List.take_zero] at t0 t1 t2
     obtain ⟨a,ha,b1,b2⟩:=trod_i64 t0
     obtain ⟨b,hb,_,_⟩:=trod_i64 t1
     obtain ⟨s,hs⟩:=trod_bool1 t2
     cases ha;cases hb;cases hs
     exact ⟨⟨a,b,s⟩,rfl,b1,b2⟩
theorem open_op (fuel:Nat) (cs:List Value) (y:DataW H×List MemPlace) (h:DataW.trod enc Tryd.prog w 0 (fun _=>true) true fuel 47 cs=some y) (hl:cs.length=8):∃ x:LOp,cs=opRow x∧x.imm < 18446744073709551616:=by
 obtain ⟨xs,f,_,_,hlen,hxl,hfs⟩:=DataW.trod_struct Tryd.underlying47 h
 match cs,hl with
 | [c0,c1,c2,c3,c4,c5,c6,c7],_ =>
   match xs,hxl with
   | [y0,y1,y2,y3,y4,y5,y6,y7],_ =>
     have k0:Tryd.prog.cellsOf 3=1:=by kernel_rfl
     have k2:Tryd.prog.cellsOf 45=1:=by kernel_rfl
     have t0:DataW.trod enc Tryd.prog w 0 (fun _=>true) true f 3 (([c0,c1,c2,c3,c4,c5,c6,c7].drop 0).take (Tryd.prog.cellsOf 3))=some y0:=hfs 0 _ rfl
     have t1:DataW.trod enc Tryd.prog w 0 (fun _=>true) true f 3 (([c0,c1,c2,c3,c4,c5,c6,c7].drop 1).take (Tryd.prog.cellsOf 3))=some y1:=hfs 1 _ rfl
     have t2:DataW.trod enc Tryd.prog w 0 (fun _=>true) true f 3 (([c0,c1,c2,c3,c4,c5,c6,c7].drop 2).take (Tryd.prog.cellsOf 3))=some y2:=hfs 2 _ rfl
     have t3:DataW.trod enc Tryd.prog w 0 (fun _=>true) true f 3 (([c0,c1,c2,c3,c4,c5,c6,c7].drop 3).take (Tryd.prog.cellsOf 3))=some y3:=hfs 3 _ rfl
     have t4:DataW.trod enc Tryd.prog w 0 (fun _=>true) true f 3 (([c0,c1,c2,c3,c4,c5,c6,c7].drop 4).take (Tryd.prog.cellsOf 3))=some y4:=hfs 4 _ rfl
     have t5:DataW.trod enc Tryd.prog w 0 (fun _=>true) true f 3 (([c0,c1,c2,c3,c4,c5,c6,c7].drop 5).take (Tryd.prog.cellsOf 3))=some y5:=hfs 5 _ rfl
     have t6:DataW.trod enc Tryd.prog w 0 (fun _=>true) true f 3 (([c0,c1,c2,c3,c4,c5,c6,c7].drop 6).take (Tryd.prog.cellsOf 3))=some y6:=hfs 6 _ rfl
     have t7:DataW.trod enc Tryd.prog w 0 (fun _=>true) true f 45 (([c0,c1,c2,c3,c4,c5,c6,c7].drop 7).take (Tryd.prog.cellsOf 45))=some y7:=hfs 7 _ rfl
     rw [k0] at t0 t1 t2 t3 t4 t5 t6
     rw [k2] at t7
     simp only [List.drop_zero,List.drop_succ_cons,List.take_succ_cons,List.take_zero] at t0 t1 t2 t3 t4 t5 t6 t7
     obtain ⟨a0,h0,_⟩:=trod_i64 t0
     obtain ⟨a1,h1,_⟩:=trod_i64 t1
     obtain ⟨a2,h2,_⟩:=trod_i64 t2
     obtain ⟨a3,h3,_⟩:=trod_i64 t3
     obtain ⟨a4,h4,_⟩:=trod_i64 t4
     obtain ⟨a5,h5,_⟩:=trod_i64 t5
     obtain ⟨a6,h6,_⟩:=trod_i64 t6
     obtain ⟨a7,h7,hb⟩:=trod_u64 t7
     cases h0;cases h1;cases h2;cases h3;cases h4;cases h5;cases h6;cases h7
     exact ⟨⟨a0,a1,a2,a3,a4,a5,a6,a7⟩,rfl,hb⟩
theorem open_prog {cs:Array Value} {d:DataW H} {ps:List MemPlace} (h:DataW.Trod enc Tryd.prog w 0 (fun _=>true) true 25 (.agg cs) d ps) :
   ∃ (p:LP) (Ab Ao:Option Addr) (nb cb no co:Nat),cs=#[.int .i64 p.regs,.slice Ab nb cb,.slice Ao no co]∧ProgAt w (fun k=>k < w.heap.size) [.int .i64 p.regs,.slice Ab nb cb,.slice Ao no co] p∧-9223372036854775808≤p.regs∧p.regs≤9223372036854775807:=by
 obtain ⟨fuel,hf⟩:=h
 obtain ⟨xs,f,_,_,hlen,hxl,hfs⟩:=DataW.trod_struct Tryd.underlying25 hf
 have hC:Tryd.prog.cellsOf 25=3:=by kernel_rfl
 rw [hC] at hlen
 have hcs:(Value.agg cs).cells.toList=cs.toList:=rfl
 rw [hcs] at hlen hfs
 obtain ⟨l⟩:=cs
 simp only [] at hlen hfs
 match l,hlen with
 | [c0,c1,c2],_ =>
   match xs,hxl with
   | [y0,y1,y2],_ =>
     have t0:DataW.trod enc Tryd.prog w 0 (fun _=>true) true f 3 (([c0,c1,c2].drop 0).take (Tryd.prog.cellsOf 3))=some y0:=hfs 0 _ rfl
     have t1:DataW.trod enc Tryd.prog w 0 (fun _=>true) true f 22 (([c0,c1,c2].drop 1).take (Tryd.prog.cellsOf 22))=some y1:=hfs 1 _ rfl
     have t2:DataW.trod enc Tryd.prog w 0 (fun _=>true) true f 23 (([c0,c1,c2].drop 2).take (Tryd.prog.cellsOf 23))=some y2:=hfs 2 _ rfl
     have k0:Tryd.prog.cellsOf 3=1:=by kernel_rfl
     have k1:Tryd.prog.cellsOf 22=1:=by kernel_rfl
     have k2:Tryd.prog.cellsOf 23=1:=by kernel_rfl
     rw [k0] at t0
     rw [k1] at t1
     rw [k2] at t2
     simp only [List.drop_zero,List.drop_succ_cons,List.take_succ_cons,List.take_zero] at t0 t1 t2
     obtain ⟨z,hz,hz1,hz2⟩:=trod_i64 t0
     obtain ⟨Ab,nb,cb,rfl⟩:=trod_form Tryd.underlying22 t1
     obtain ⟨Ao,no,co,rfl⟩:=trod_form Tryd.underlying23 t2
     cases hz
     obtain ⟨lb,hb,hbq,hbl⟩:=open_rows bufRow (fun x:Bf=>-9223372036854775808≤x.size∧x.size≤9223372036854775807) Tryd.underlying22 (by kernel_rfl) (by decide) (fun _=>rfl) open_buf (d:=y1.1) (ps:=y1.2) ⟨f,t1⟩
     obtain ⟨lo,ho,hoq,hol⟩:=open_rows opRow (fun x:LOp=>x.imm < 18446744073709551616) Tryd.underlying23 (by kernel_rfl) (by decide) (fun _=>rfl) open_op (d:=y2.1) (ps:=y2.2) ⟨f,t2⟩
     exact ⟨⟨z,lb,lo⟩,Ab,Ao,nb,cb,no,co,rfl,⟨⟨_,_,rfl,hb,ho⟩,hbl,hol,hoq,hbq⟩,hz1,hz2⟩
end
end Go.Proofs.YtppoiahhaclleaaDoor
