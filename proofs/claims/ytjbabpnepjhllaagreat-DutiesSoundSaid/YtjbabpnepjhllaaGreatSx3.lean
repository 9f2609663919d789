/- Part 3 of a claim; what it proves stands in its last text. -/
import Derived.Test.YtjbabpnepjhllaaGreatSx2
namespace Go.Proofs.YtjbabpnepjhllaaGreat
open Go.RowKit
set_option maxRecDepth 100000
def bitsN (n:Nat):Nat:=if _h:n=0 then 0 else bitsN (n / 2)+1
decreasing_by exact Nat.div_lt_self (Nat.pos_of_ne_zero _h) (by decide)
theorem bitsN_zero:bitsN 0=0:=by rw [bitsN];simp
theorem bitsN_pos {n:Nat} (h:n≠0):bitsN n=bitsN (n / 2)+1:=by rw [bitsN];simp [h]
theorem bitsN_lt (n:Nat):n < 2 ^ bitsN n:=by
 induction n using Nat.strongRecOn with
 | ind n ih =>
   by_cases h:n=0
   · subst h;rw [bitsN_zero];decide
   · rw [bitsN_pos h,Nat.pow_succ]
     have:=ih (n / 2) (Nat.div_lt_self (Nat.pos_of_ne_zero h) (by decide))
     omega
theorem bitsN_le {n k:Nat} (h:n < 2 ^ k):bitsN n≤k:=by
 induction k generalizing n with
 | zero =>
   have:n=0:=by simpa using h
   subst this;rw [bitsN_zero];exact Nat.le_refl _
 | succ k ih =>
   by_cases h0:n=0
   · subst h0;rw [bitsN_zero];omega
   · rw [bitsN_pos h0]
     rw [Nat.pow_succ] at h
     have:=ih (n:=n / 2) (by omega)
     omega
theorem bitsN_is {n k:Nat} (h1:2 ^ k≤n) (h2:n < 2 ^ (k+1)):bitsN n=k+1:=by
 have h3:=bitsN_le h2
 have h4:=bitsN_lt n
 rcases Nat.lt_or_ge (bitsN n) (k+1) with h | h
 · have:=Nat.pow_le_pow_right (n:=2) (by decide) (show bitsN n≤k by omega)
   omega
 · omega
theorem LB_two (k:Nat):LB ^ k=2 ^ (64*k):=by rw [Nat.pow_mul]
theorem bitsN_add (x y k:Nat) (hx:x < 2 ^ k) (hy:y≠0):bitsN (x+2 ^ k*y)=k+bitsN y:=by
 have h1:=bitsN_lt y
 obtain ⟨q,hq⟩:∃ q,bitsN y=q+1:=⟨bitsN (y / 2),bitsN_pos hy⟩
 have h2:2 ^ q≤y:=by
   rcases Nat.lt_or_ge y (2 ^ q) with h | h
   · have:=bitsN_le h;omega
   · exact h
 rw [hq] at h1 ⊢
 have h3:2 ^ k*2 ^ q≤2 ^ k*y:=Nat.mul_le_mul_left _ h2
 have h4:2 ^ k*(y+1)≤2 ^ k*2 ^ (q+1):=Nat.mul_le_mul_left _ h1
 rw [Nat.mul_add] at h4
 rw [←Nat.pow_add] at h3 h4
 rw [show k+(q+1)=(k+q)+1 by omega]
 exact bitsN_is (by omega) (by rw [show k+(q+1)=k+q+1 by omega] at h4;omega)
theorem bitsN_limbs {n k:Nat} (hk:(limbsOf n).length=k+1):bitsN n=64*k+bitsN (digN n k):=by
 have hd:=digN_get (limbsOf_ok n) k
 rw [natV_limbs] at hd
 have h1:natV (limbsOf n)=n:=natV_limbs n
 have hs:limbsOf n=(limbsOf n).take k++[digN n k]:=by
   have h2:(limbsOf n)[k]? = some (digN n k):=by rw [hd,List.getD_eq_getElem?_getD,List.getElem?_eq_getElem (by omega)];rfl
   have h3:=List.take_add_one (l:=limbsOf n) (i:=k)
   rw [h2,List.take_of_length_le (by omega)] at h3
   exact h3
 have hl:((limbsOf n).take k).length=k:=by rw [List.length_take];omega
 have h4:n=natV ((limbsOf n).take k)+LB ^ k*digN n k:=by
   have:=natV_append ((limbsOf n).take k) [digN n k]
   rw [←hs,hl,h1] at this
   simpa [natV] using this
 have hne:digN n k≠0:=fun e=>by
   have h5:=natV_lt (limbOk_take (limbsOf_ok n) k)
   rw [hl] at h5
   rw [e,Nat.mul_zero,Nat.add_zero] at h4
   have:=limbs_len_le (n:=n) (k:=k) (by omega)
   omega
 have h5:=natV_lt (limbOk_take (limbsOf_ok n) k)
 rw [hl,LB_two] at h5
 rw [LB_two] at h4
 have:=bitsN_add _ (digN n k) (64*k) h5 hne
 rw [←h4] at this
 exact this
theorem test_dig (n i:Nat):n.testBit i=(digN n (i / 64) / 2 ^ (i % 64) % 2 == 1):=by
 unfold digN
 have e:n / 2 ^ i % 2=n / LB ^ (i / 64) % LB / 2 ^ (i % 64) % 2:=by
   rw [LB_two]
   have h1:i=64*(i / 64)+i % 64:=by omega
   obtain ⟨r,hr⟩:∃ r,r=i % 64:=⟨_,rfl⟩
   obtain ⟨q,hq⟩:∃ q,q=i / 64:=⟨_,rfl⟩
   have hr64:r < 64:=by omega
   rw [←hr,←hq] at h1 ⊢
   rw [h1,Nat.pow_add,←Nat.div_div_eq_div_mul]
   generalize n / 2 ^ (64*q)=m
   have h2:LB=2 ^ r*2 ^ (64 - r):=by rw [←Nat.pow_add,show r+(64 - r)=64 by omega]
   rw [h2,Nat.mod_mul_right_div_self]
   have h3:2 ^ (64 - r)=2*2 ^ (63 - r):=by rw [show 64 - r=(63 - r)+1 by omega,Nat.pow_succ,Nat.mul_comm]
   rw [h3,Nat.mod_mul_right_mod]
 rw [←e,Nat.testBit_eq_decide_div_mod_eq]
 exact (Bool.beq_eq_decide_eq _ _).symm
set_option maxHeartbeats 1000000 in
theorem RBits1_any (a:Nat) (w:World) (ha:a < 18446744073709551616) :
   Calls Tryz.prog 147 #[.int .u64 a] w fun e w'=>e=.returned (.int .i64 (bitsN a:Nat))∧w=w':=by
 have HA:=Lh ha
 have HB:=Lh (bitsN_le (n:=a) (k:=64) ha)
 obtain ⟨b,hb⟩:∃ b,b=bitsN a:=⟨_,rfl⟩
 rw [←hb] at HB
 rw [←hb]
 have HH:=Lh hb
 clear ha hb
 go_enter Tryz.func147,Tryz.ntmps147
 go_wp2
 go_loopw [0,3] (fun s0 s3 wr=>∃ x j:Nat,s0=.int .u64 x∧s3=.int .i64 j∧x≤a∧b=j+bitsN x∧w=wr) (fun s0 _ _=>(intOf s0).toNat)
 case atStart=>exact ⟨a,0,rfl,rfl,Nat.le_refl _,by rw [HH.out,Nat.zero_add],rfl⟩
 case round =>
   obtain ⟨x,j,rfl,rfl,hxa,hbj,hw⟩:=hrel
   subst hw
   have HJ:=Lh hbj
   clear hbj
   rcases Nat.eq_zero_or_pos x with h0 | h0
   · subst h0
     have HX:=Lh (show b=j by have:=HJ.out;rw [bitsN_zero] at this;omega)
     go_wp2
     go_ret
     exact ⟨by rw [HX.out];rfl,rfl⟩
   · have d1:decide ((x:Int) > 0)=true:=decide_eq_true (by omega)
     have d2:decide ((0:Int) < (x:Int))=true:=decide_eq_true (by omega)
     have d3:decide (0 < x)=true:=decide_eq_true (by omega)
     obtain ⟨y,hy⟩:∃ y,y=x / 2:=⟨_,rfl⟩
     have i1:(x:Int) / 2=(y:Int):=by omega
     have HX:=Lh (show b=(j+1)+bitsN y∧y≤a∧y < x from ⟨by have:=HJ.out;rw [bitsN_pos (by omega),←hy] at this;omega,by omega,by omega⟩)
     have HLT:=Lh (show j < 64 by have:=HX.out.1;have:=HB.out;omega)
     have i2:IntKind.i64.wrap ((j:Int)+1)=((j+1:Nat):Int):=by rw [IntKind.wrap_i64];have:=HLT.out;omega
     clear hy h0
     go_wp2
     go_roundw
     case rel=>exact ⟨y,j+1,rfl,by go_num,HX.out.2.1,HX.out.1,by trivial⟩
     case measure=>have:=HX.out.2.2;simp [intOf] <;> omega
set_option maxHeartbeats 1000000 in
theorem Bit_any (A:Option Addr) (n c:Nat) (l:List Nat) (i:Nat) (w:World) (F:Nat→Prop) (hl:UsAt w F (.slice A n c) l) (hok:LimbOk l) (hi:i≤9000000000) :
   Calls Tryz.prog 71 #[.slice A n c,.int .i64 i] w fun e w'=>e=.returned (.bool ((natV l).testBit i))∧w=w':=by
 obtain ⟨q,hq⟩:∃ q,q=i / 64:=⟨_,rfl⟩
 obtain ⟨r,hr⟩:∃ r,r=i % 64:=⟨_,rfl⟩
 have HL:=Lh (limb_any A n c l (q:Int) w F hl hok (by omega) (by omega))
 obtain ⟨x,hx⟩:∃ x,x=digN (natV l) q:=⟨_,rfl⟩
 simp only [Int.toNat_natCast,←hx] at HL
 obtain ⟨y,hy⟩:∃ y,y=x / 2 ^ r:=⟨_,rfl⟩
 have HT:=Lh (show (natV l).testBit i=(y % 2 == 1) by rw [test_dig,←hq,←hr,←hx,←hy])
 have hyl:y < 18446744073709551616:=by
   have:=digN_lt (natV l) q
   rw [←hx] at this
   rw [hy]
   exact Nat.lt_of_le_of_lt (Nat.div_le_self _ _) this
 have e1:(i:Int).tdiv 64=(q:Int):=by rw [Int.tdiv_eq_ediv_of_nonneg (by omega)];omega
 have e2:(i:Int).tmod 64=(r:Int):=by rw [Int.tmod_eq_emod_of_nonneg (by omega)];omega
 have e3:(i:Int) / 64=(q:Int):=by omega
 have e4:(i:Int) % 64=(r:Int):=by omega
 have e5:(x:Int) / 2 ^ r=(y:Int):=by rw [hy];simp
 have e6:Go.bits .and .u64 (y:Int) 1=((y % 2:Nat):Int):=by
   have:=bits_and_u64_nat y 1 hyl (by decide)
   rw [show ((1:Nat):Int)=1 from rfl,Nat.and_one_is_mod] at this
   exact this
 have e7:(((y % 2:Nat):Int) == 1)=(y % 2 == 1):=by rw [Bool.eq_iff_iff,beq_iff_eq,beq_iff_eq];omega
 obtain ⟨z,hz⟩:∃ z,z=y % 2:=⟨_,rfl⟩
 rw [←hz] at e6 e7 HT
 obtain ⟨t,ht⟩:∃ t,t=(z == 1):=⟨_,rfl⟩
 rw [←ht] at e7 HT
 have d1:decide ((i:Int) ≥ 0)=true:=decide_eq_true (by omega)
 have d2:decide ((0:Int)≤(i:Int))=true:=decide_eq_true (by omega)
 have i1:IntKind.u64.wrap (r:Int)=(r:Int):=by rw [wrapU'];omega
 have i2:IntKind.i64.wrap (q:Int)=(q:Int):=by rw [IntKind.wrap_i64];omega
 have i3:(0:Int)≤(r:Int):=by omega
 clear hq hr hx hy hz ht hyl hl hok
 go_enter Tryz.func71,Tryz.ntmps71
 go_wp2_with ((with_reducible refine HL.out.mono ?_);rintro e w1 ⟨rfl,hw⟩;subst hw)
 go_ret
 exact ⟨by rw [HT.out];rfl,rfl⟩
end Go.Proofs.YtjbabpnepjhllaaGreat
namespace Go.Proofs.YtjbabpnepjhllaaGreat
open Go.RowKit
set_option maxRecDepth 100000
theorem own_base {w:World} {b b' e sz n:Nat} {v:Value} {xs:List Value} (h:w.ownsRow b e sz v n xs) (hb:b'≤b):w.ownsRow b' e sz v n xs:=by
 refine ⟨h.1,?_⟩
 rcases h.2 with h1 | ⟨g,cap,cur,h1,h2,h3⟩
 · exact .inl h1
 · exact .inr ⟨g,cap,cur,h1,Nat.le_trans hb h2,h3⟩
theorem own_kept {w w':World} {base e sz n:Nat} {v:Value} {xs:List Value} (h:w.ownsRow base e sz v n xs) (hb:Below w.heap.size w w'):w'.ownsRow base e sz v n xs :=
 h.kept (row:=none) ⟨hb.os,hb.tape,hb.output,hb.size,fun k hk _=>hb.block k hk⟩ (by cases hh:v.ownBlock <;> simp)
theorem NatSay.of {x:Nat} {w w1 w':World} {e:Ending} (h:NatSay x w1 e w') (hb:Below w.heap.size w w1):NatSay x w e w':=by
 obtain ⟨A,n,c,h1,h2,h3,h4,h5⟩:=h
 exact ⟨A,n,c,h1,own_base h2 hb.size,h3,h4,hb.trans (h5.mono hb.size)⟩
theorem us_told {w w':World} {base n:Nat} {A:Option Addr} {c x:Nat} (h:w.ownsRow base 41 1 (.slice A n c) n (cellsU (limbsOf x))) (hn:n=(limbsOf x).length) (hb:Below w.heap.size w w'):UsAt w' (fun k=>k < w'.heap.size) (.slice A n c) (limbsOf x):=rows_next (us_mine h hn) hb
theorem us_take {w:World} {F:Nat→Prop} {A:Option Addr} {n c p:Nat} {l:List Nat} (h:UsAt w F (.slice A n c) l) (hp:p≤n):UsAt w F (.slice A p c) (l.take p):=by
 have hn:=us_len h
 obtain ⟨A',c',hv,hc,hl,hne⟩:=h
 cases hv
 refine ⟨A,c,by rw [List.length_map,List.length_take];congr 1;omega,by rw [List.length_map,List.length_take];omega,fun r hr=>hl r ?_,fun h0=>?_⟩
 · rw [List.map_take] at hr
   exact List.mem_of_mem_take hr
 · obtain ⟨b,o,hA,hF,hat⟩:=hne (fun e=>h0 (by
     rw [List.map_take,e];simp))
   refine ⟨b,o,hA,hF,fun i j r u hr hu=>hat i j r u ?_ hu⟩
   rw [List.map_take] at hr
   have:=(List.getElem?_eq_some_iff.1 hr).1
   rw [List.length_take] at this
   rw [←hr,List.getElem?_take_of_lt (by omega)]
set_option maxHeartbeats 1000000 in
theorem Bits_any (A:Option Addr) (n c:Nat) (l:List Nat) (w:World) (F:Nat→Prop) (hl:UsAt w F (.slice A n c) l) (hok:LimbOk l) (hn:n≤1000000) :
   Calls Tryz.prog 124 #[.slice A n c] w fun e w'=>e=.returned (.int .i64 (bitsN (natV l):Nat))∧Below w.heap.size w w':=by
 have HT:=Lh (Trim_any A n c l w F hl hok hn)
 have hlen:(limbsOf (natV l)).length≤1000000:=by
   have:=limbs_len_le (natV_lt hok)
   have:=(us_len hl).1
   omega
 obtain ⟨x,hx⟩:∃ x,x=natV l:=⟨_,rfl⟩
 rw [←hx] at HT hlen
 rw [←hx]
 have HL:=Lh hlen
 clear hl hok hlen hx
 go_enter Tryz.func124,Tryz.ntmps124
 go_upto_region 2 with ((with_reducible refine HT.out.mono ?_);rintro e w1 ⟨A1,n1,c1,rfl,ho1,hn1,hc1,hb1⟩;have HO:=Lh ho1;have HN:=Lh hn1;have HB:=Lh hb1;clear ho1 hn1 hb1)
 rcases Nat.eq_zero_or_pos n1 with h0 | h0
 · have hx0:x=0:=limbs_len_zero.1 (by have:=HN.out;omega)
   have HX:=Lh (show bitsN x=0 by rw [hx0,bitsN_zero])
   clear hx0
   subst h0
   go_wp2
   go_ret
   exact ⟨by rw [HX.out];rfl,HB.out⟩
 · obtain ⟨k,hk⟩:∃ k,n1=k+1:=⟨n1 - 1,by omega⟩
   have HX:=Lh (show bitsN x=64*k+bitsN (digN x k) from bitsN_limbs (by have:=HN.out;omega))
   have hg:(limbsOf x)[k]? = some (digN x k):=by
     have hd:=digN_get (limbsOf_ok x) k
     rw [natV_limbs] at hd
     rw [hd,List.getD_eq_getElem?_getD,List.getElem?_eq_getElem (by have:=HN.out;omega)];rfl
   obtain ⟨g,o,rfl,_,p0⟩:=UsAt.at_ (us_told HO.out HN.out (Below.refl _ _)) hg
   have HB1:=Lh (RBits1_any (digN x k) w1 (digN_lt x k))
   have h64:=bitsN_le (n:=digN x k) (k:=64) (digN_lt x k)
   obtain ⟨y,hy⟩:∃ y,y=digN x k:=⟨_,rfl⟩
   obtain ⟨z,hz⟩:∃ z,z=bitsN y:=⟨_,rfl⟩
   rw [←hy] at HX HB1 h64 p0
   rw [←hz] at HX HB1 h64
   have d0:((n1:Int) == 0)=false:=beq_eq_false_iff_ne.2 (by omega)
   have i0:IntKind.i64.wrap ((n1:Int) - 1)=(k:Int):=by rw [IntKind.wrap_i64];have:=HL.out;have:=HN.out;omega
   have i1:(0:Int)≤(k:Int):=by omega
   have i2:(k:Int) < (n1:Int):=by omega
   have i3:IntKind.i64.wrap (64*(k:Int))=((64*k:Nat):Int):=by rw [IntKind.wrap_i64];have:=HL.out;have:=HN.out;omega
   obtain ⟨q,hq⟩:∃ q,q=64*k:=⟨_,rfl⟩
   rw [←hq] at i3 HX
   have i4:IntKind.i64.wrap ((q:Int)+(z:Int))=((q+z:Nat):Int):=by rw [IntKind.wrap_i64];have:=HL.out;have:=HN.out;omega
   clear hk hg hy hz hq h64 h0
   go_wp2_with ((with_reducible refine HB1.out.mono ?_);rintro e w2 ⟨rfl,hw⟩;subst hw)
   go_ret
   exact ⟨by rw [HX.out];rfl,HB.out⟩
set_option maxHeartbeats 1000000 in
theorem Low_any (A:Option Addr) (n c:Nat) (l:List Nat) (k:Nat) (w:World) (F:Nat→Prop) (hl:UsAt w F (.slice A n c) l) (hok:LimbOk l) (hn:n≤1000000) (hk:k≤1000000) :
   Calls Tryz.prog 97 #[.slice A n c,.int .i64 k] w (NatSay (natV l % LB ^ k) w):=by
 have hnl:=us_len hl
 have j0:(0:Int)≤(n:Int):=by omega
 have j1:(n:Int)≤(c:Int):=by omega
 have j2:(0:Int)≤(k:Int):=by omega
 have j3:(0:Int)≤(c:Int):=by omega
 cases A with
 | none =>
   obtain ⟨rfl,rfl⟩:=us_none hl
   rcases Nat.eq_zero_or_pos k with h0 | h0
   · subst h0
     have HT:=Lh (Trim_any (none) 0 c (List.take 0 []) w F (us_take hl (by omega)) (limbOk_take hok _) (by omega))
     rw [show natV (List.take 0 [])=natV [] % LB ^ 0 by rw [←natV_low hok 0];(all_goals first | (congr 1;done) | (congr 1;rfl))] at HT
     clear hl hok hnl
     go_enter Tryz.func97,Tryz.ntmps97
     go_wp2_with ((with_reducible refine HT.out.mono ?_);rintro e w1 ⟨A1,n1,c1,rfl,ho1,hn1,hc1,hb1⟩;have HO:=Lh ho1;have HN:=Lh hn1;have HB:=Lh hb1;clear ho1 hn1 hb1)
     go_ret
     exact ⟨A1,n1,c1,rfl,HO.out,HN.out,hc1,HB.out⟩
   · have h0':(0:Int) < (k:Int):=by omega
     have HT:=Lh (Trim_any (none) 0 c (List.take 0 []) w F (us_take hl (by omega)) (limbOk_take hok _) (by omega))
     rw [show natV (List.take 0 [])=natV [] % LB ^ k by rw [←natV_low hok k];(all_goals first | (congr 1;done) | (congr 1;simp))] at HT
     clear hl hok hnl
     go_enter Tryz.func97,Tryz.ntmps97
     go_wp2_with ((with_reducible refine HT.out.mono ?_);rintro e w1 ⟨A1,n1,c1,rfl,ho1,hn1,hc1,hb1⟩;have HO:=Lh ho1;have HN:=Lh hn1;have HB:=Lh hb1;clear ho1 hn1 hb1)
     go_ret
     exact ⟨A1,n1,c1,rfl,HO.out,HN.out,hc1,HB.out⟩
 | some ad =>
   rcases Nat.eq_zero_or_pos k with h0 | h0
   · subst h0
     rcases Nat.eq_zero_or_pos n with h1 | h1
     · subst h1
       have HT:=Lh (Trim_any (some ad) 0 c (List.take 0 l) w F (us_take hl (by omega)) (limbOk_take hok _) (by omega))
       rw [show natV (List.take 0 l)=natV l % LB ^ 0 by rw [←natV_low hok 0];(all_goals first | (congr 1;done) | (congr 1;rfl))] at HT
       clear hl hok hnl
       go_enter Tryz.func97,Tryz.ntmps97
       go_wp2_with ((with_reducible refine HT.out.mono ?_);rintro e w1 ⟨A1,n1,c1,rfl,ho1,hn1,hc1,hb1⟩;have HO:=Lh ho1;have HN:=Lh hn1;have HB:=Lh hb1;clear ho1 hn1 hb1)
       go_ret
       exact ⟨A1,n1,c1,rfl,HO.out,HN.out,hc1,HB.out⟩
     · have h1':(0:Int) < (n:Int):=by omega
       have HT:=Lh (Trim_any (some ad) 0 c (List.take 0 l) w F (us_take hl (by omega)) (limbOk_take hok _) (by omega))
       rw [show natV (List.take 0 l)=natV l % LB ^ 0 by rw [←natV_low hok 0];(all_goals first | (congr 1;done) | (congr 1;rfl))] at HT
       clear hl hok hnl
       go_enter Tryz.func97,Tryz.ntmps97
       go_wp2_with ((with_reducible refine HT.out.mono ?_);rintro e w1 ⟨A1,n1,c1,rfl,ho1,hn1,hc1,hb1⟩;have HO:=Lh ho1;have HN:=Lh hn1;have HB:=Lh hb1;clear ho1 hn1 hb1)
       go_ret
       exact ⟨A1,n1,c1,rfl,HO.out,HN.out,hc1,HB.out⟩
   · have h0':(0:Int) < (k:Int):=by omega
     rcases Nat.lt_trichotomy n k with h1 | h1 | h1
     · have h1':(n:Int) < (k:Int):=by omega
       have HT:=Lh (Trim_any (some ad) n c (List.take n l) w F (us_take hl (by omega)) (limbOk_take hok _) (by omega))
       rw [show natV (List.take n l)=natV l % LB ^ k by rw [←natV_low hok k];(all_goals first | (congr 1;done) | (congr 1;rw [List.take_of_length_le (by omega),List.take_of_length_le (by omega)]))] at HT
       clear hl hok hnl
       go_enter Tryz.func97,Tryz.ntmps97
       go_wp2_with ((with_reducible refine HT.out.mono ?_);rintro e w1 ⟨A1,n1,c1,rfl,ho1,hn1,hc1,hb1⟩;have HO:=Lh ho1;have HN:=Lh hn1;have HB:=Lh hb1;clear ho1 hn1 hb1)
       go_ret
       exact ⟨A1,n1,c1,rfl,HO.out,HN.out,hc1,HB.out⟩
     · subst h1
       have HT:=Lh (Trim_any (some ad) n c (List.take n l) w F (us_take hl (by omega)) (limbOk_take hok _) (by omega))
       rw [show natV (List.take n l)=natV l % LB ^ n by rw [←natV_low hok n];(all_goals first | (congr 1;done) | (congr 1;rfl))] at HT
       clear hl hok hnl
       go_enter Tryz.func97,Tryz.ntmps97
       go_wp2_with ((with_reducible refine HT.out.mono ?_);rintro e w1 ⟨A1,n1,c1,rfl,ho1,hn1,hc1,hb1⟩;have HO:=Lh ho1;have HN:=Lh hn1;have HB:=Lh hb1;clear ho1 hn1 hb1)
       go_ret
       exact ⟨A1,n1,c1,rfl,HO.out,HN.out,hc1,HB.out⟩
     · have h1':(k:Int) < (n:Int):=by omega
       have j4:(k:Int)≤(c:Int):=by omega
       have HT:=Lh (Trim_any (some ad) k c (List.take k l) w F (us_take hl (by omega)) (limbOk_take hok _) (by omega))
       rw [show natV (List.take k l)=natV l % LB ^ k by rw [←natV_low hok k];(all_goals first | (congr 1;done) | (congr 1;rfl))] at HT
       clear hl hok hnl
       go_enter Tryz.func97,Tryz.ntmps97
       go_wp2_with ((with_reducible refine HT.out.mono ?_);rintro e w1 ⟨A1,n1,c1,rfl,ho1,hn1,hc1,hb1⟩;have HO:=Lh ho1;have HN:=Lh hn1;have HB:=Lh hb1;clear ho1 hn1 hb1)
       go_ret
       exact ⟨A1,n1,c1,rfl,HO.out,HN.out,hc1,HB.out⟩
end Go.Proofs.YtjbabpnepjhllaaGreat
namespace Go.Proofs.YtjbabpnepjhllaaGreat
open Go.RowKit
set_option maxRecDepth 100000
theorem add_spec2 {x y:Nat} (c:Bool) (hx:x < LB) (hy:y < LB):(addF x y c).1+LB*(addF x y c).2.toNat=x+y+c.toNat:=by
 unfold addF
 have hc:c.toNat≤1:=by cases c <;> decide
 simp only [LB] at *
 generalize ht:x+y+c.toNat=t
 by_cases h:18446744073709551616≤t
 · rw [decide_eq_true h];simp only [Bool.toNat_true];omega
 · rw [decide_eq_false h];simp only [Bool.toNat_false];omega
theorem addF_lt (x y:Nat) (c:Bool):(addF x y c).1 < LB:=Nat.mod_lt _ (by decide)
theorem sub_spec {x y:Nat} (c:Bool) (hx:x < LB) (hy:y < LB):(subF x y c).1+y+c.toNat=x+LB*(subF x y c).2.toNat:=by
 unfold subF
 have hc:c.toNat≤1:=by cases c <;> decide
 simp only [LB] at *
 by_cases h:x < y+c.toNat
 · rw [decide_eq_true h];simp only [Bool.toNat_true];omega
 · rw [decide_eq_false h];simp only [Bool.toNat_false];omega
theorem subF_lt (x y:Nat) (c:Bool):(subF x y c).1 < LB:=Nat.mod_lt _ (by decide)
theorem natV_snoc (l:List Nat) (x:Nat):natV (l++[x])=natV l+LB ^ l.length*x:=by rw [natV_append];simp [natV]
theorem add_round {a b i:Nat} {out:List Nat} {cr:Bool} (hl:out.length=i) (h:natV out+cr.toNat*LB ^ i=a % LB ^ i+b % LB ^ i) :
   natV (out++[(addF (digN a i) (digN b i) cr).1])+(addF (digN a i) (digN b i) cr).2.toNat*LB ^ (i+1)=a % LB ^ (i+1)+b % LB ^ (i+1):=by
 have h1:=add_spec2 cr (digN_lt a i) (digN_lt b i)
 rw [natV_snoc,hl,mod_succ a i,mod_succ b i,Nat.pow_succ]
 generalize (addF (digN a i) (digN b i) cr).1=s at *
 generalize (addF (digN a i) (digN b i) cr).2.toNat=c2 at *
 generalize LB ^ i=p at *
 have h2:p*(s+LB*c2)=p*(digN a i+digN b i+cr.toNat):=by rw [h1]
 rw [Nat.mul_add,Nat.mul_add,Nat.mul_add,←Nat.mul_assoc] at h2
 rw [show c2*(p*LB)=p*LB*c2 from Nat.mul_comm _ _]
 rw [Nat.mul_comm cr.toNat p] at h
 omega
theorem sub_round {a b i:Nat} {out:List Nat} {cr:Bool} (hl:out.length=i) (h:natV out+b % LB ^ i=a % LB ^ i+cr.toNat*LB ^ i) :
   natV (out++[(subF (digN a i) (digN b i) cr).1])+b % LB ^ (i+1)=a % LB ^ (i+1)+(subF (digN a i) (digN b i) cr).2.toNat*LB ^ (i+1):=by
 have h1:=sub_spec cr (digN_lt a i) (digN_lt b i)
 rw [natV_snoc,hl,mod_succ a i,mod_succ b i,Nat.pow_succ]
 generalize (subF (digN a i) (digN b i) cr).1=s at *
 generalize (subF (digN a i) (digN b i) cr).2.toNat=c2 at *
 generalize LB ^ i=p at *
 have h2:p*(s+digN b i+cr.toNat)=p*(digN a i+LB*c2):=by rw [h1]
 rw [Nat.mul_add,Nat.mul_add,Nat.mul_add,←Nat.mul_assoc] at h2
 rw [show c2*(p*LB)=p*LB*c2 from Nat.mul_comm _ _]
 rw [Nat.mul_comm cr.toNat p] at h
 omega
set_option maxHeartbeats 2000000 in
theorem Add_any (A B:Option Addr) (n c m d:Nat) (la lb:List Nat) (w:World) (ha:UsAt w (fun k=>k < w.heap.size) (.slice A n c) la) (hb:UsAt w (fun k=>k < w.heap.size) (.slice B m d) lb) (oka:LimbOk la) (okb:LimbOk lb) (hn:n≤900000) (hm:m≤900000) :
   Calls Tryz.prog 96 #[.slice A n c,.slice B m d] w (NatSay (natV la+natV lb) w):=by
 by_cases hnm:n < m
 · have HLA:=Lh (fun (w_:World) (hb_:Below w.heap.size w w_) (k:Nat) (hk:k≤1000001)=>limb_any A n c la (k:Int) w_ _ (rows_next ha hb_) oka (by omega) (by omega))
   have HLB:=Lh (fun (w_:World) (hb_:Below w.heap.size w w_) (k:Nat) (hk:k≤1000001)=>limb_any B m d lb (k:Int) w_ _ (rows_next hb hb_) okb (by omega) (by omega))
   have hna:=(us_len ha).1
   have hnb:=(us_len hb).1
   have hla:natV la < LB ^ m:=Nat.lt_of_lt_of_le (natV_lt oka) (Nat.pow_le_pow_right (by decide) (by omega))
   have hlb:natV lb < LB ^ m:=Nat.lt_of_lt_of_le (natV_lt okb) (Nat.pow_le_pow_right (by decide) (by omega))
   obtain ⟨a,hha⟩:∃ a,a=natV la:=⟨_,rfl⟩
   obtain ⟨b,hhb⟩:∃ b,b=natV lb:=⟨_,rfl⟩
   rw [←hha] at HLA hla
   rw [←hhb] at HLB hlb
   rw [←hha,←hhb]
   have HLT:=Lh (And.intro hla hlb)
   obtain ⟨i0,hi,hz0,hz1,hz2⟩:=info_parts infoU
   have HI:=Lh (And.intro hi (And.intro hz0 (And.intro hz1 hz2)))
   have hM:m≤1000000:=by omega
   clear ha hb oka okb hna hnb hha hhb hla hlb hz0 hz1 hz2
   go_enter Tryz.func96,Tryz.ntmps96
   go_wp2
   go_loopw [5,6,7,8] (fun s5 s6 s7 _ wr=>∃ (i:Nat) (A:Option Addr) (cc:Nat) (out:List Nat) (cr:Bool),i≤m+1∧s7=.int .i64 i∧s5=.slice A i cc∧s6=.bool cr∧wr.ownsRow w.heap.size 41 1 (.slice A i cc) i (cellsU out)∧out.length=i∧LimbOk out∧natV out+cr.toNat*LB ^ i=a % LB ^ i+b % LB ^ i∧Below w.heap.size w wr) (fun _ _ s7 _ _=>m+1 - (intOf s7).toNat)
   case atStart=>exact ⟨0,none,0,[],false,by omega,rfl,rfl,rfl,World.ownsRow_nil _ _ _ _,rfl,fun x hx=>(nomatch hx),by simp [natV,Nat.mod_one],Below.refl _ _⟩
   case round =>
     obtain ⟨i,Ao,cc,out,cr,him,rfl,rfl,rfl,ho,hlo,hok,hv,hbr⟩:=hrel
     have HO:=Lh ho
     have HV:=Lh (And.intro hlo (And.intro hok hv))
     have HB:=Lh hbr
     clear ho hlo hok hv hbr
     by_cases hlt:i≤m
     · have d1:decide (i≤m)=true:=decide_eq_true hlt
       have d2:decide ((i:Int)≤(m:Int))=true:=decide_eq_true (by omega)
       have HR:=Lh (add_round HV.out.1 HV.out.2.2)
       have HAD:=Lh (fun w_=>RAdd_any (digN a i) (digN b i) cr w_ (digN_lt a i) (digN_lt b i))
       have HS:=Lh (addF_lt (digN a i) (digN b i) cr)
       have HA1:=Lh (HLA.out wr HB.out i (by omega))
       have HB1:=Lh (HLB.out wr HB.out i (by omega))
       simp only [Int.toNat_natCast] at HA1 HB1
       obtain ⟨x,hx⟩:∃ x,x=digN a i:=⟨_,rfl⟩
       obtain ⟨y,hy⟩:∃ y,y=digN b i:=⟨_,rfl⟩
       rw [←hx] at HA1
       rw [←hy] at HB1
       rw [←hx,←hy] at HR HAD HS
       obtain ⟨s,hs⟩:∃ s,s=(addF x y cr).1:=⟨_,rfl⟩
       obtain ⟨c2,hc2⟩:∃ c2,c2=(addF x y cr).2:=⟨_,rfl⟩
       rw [←hs,←hc2] at HR HAD
       rw [←hs] at HS
       have i1:IntKind.i64.wrap ((i:Int)+1)=((i+1:Nat):Int):=by rw [IntKind.wrap_i64];omega
       clear hx hy hs hc2
       go_wp2_with (first | ((with_reducible refine HA1.out.mono ?_);rintro e w1 ⟨rfl,hw⟩;subst hw) | ((with_reducible refine HB1.out.mono ?_);rintro e w1 ⟨rfl,hw⟩;subst hw) | ((with_reducible refine (HAD.out _).mono ?_);rintro e w1 ⟨rfl,hw⟩;subst hw) | (at_builtin;refine wpList_append_own_at _ rfl _ _ 68 rfl w.heap.size 41 i0 (.int .u64 0) 1 8 Tryz.underlying68 HI.out.1 HI.out.2.1 HI.out.2.2.1 HI.out.2.2.2 rfl (by decide) (.slice Ao i cc) i (cellsU out) rfl (HO.out.alloc _) ⟨wr.heap.size,0,none⟩ 1 1 [.int .u64 s] rfl (by rfl) (World.news_of_block (cs:=#[.int .u64 s]) (t:=41) (fr:=(0,0)) (heap_alloc_new wr _)) (by simp [Value.oneCell']) (by unfold maxLen;omega) (by omega) (by have:=HB.out.size;simp;omega) ?_;intro v w1 hown hg _ hwh;obtain ⟨A2,c2',rfl⟩:=own_form hown;have HO2:=Lh hown;have HG:=Lh hg;clear hown hg hwh))
       go_roundw
       case rel =>
         refine ⟨i+1,A2,c2',out++[s],c2,by omega,by go_num,rfl,rfl,by rw [cellsU_snoc];exact HO2.out,by rw [List.length_append,HV.out.1];rfl,limbOk_append HV.out.2.1 (limbOk_one HS.out),HR.out,?_⟩
         have h1:=HB.out
         exact Below.grown (h1.trans (((Below.refl wr.heap.size wr).alloc (Nat.le_refl _) _).mono h1.size)) HG.out (by have:=h1.size;simp;omega) fun k hk=>(own_lt HO.out k hk).2
       case measure=>simp [intOf];omega
     · have d1:decide (i≤m)=false:=decide_eq_false hlt
       have d2:decide ((i:Int)≤(m:Int))=false:=decide_eq_false (by omega)
       have hi1:i=m+1:=by omega
       have HSUM:=Lh (show natV out=a+b by
         have h1:=HV.out.2.2
         have h2:=HLT.out
         rw [hi1] at h1
         have h3:LB ^ m≤LB ^ (m+1):=Nat.pow_le_pow_right (by decide) (by omega)
         have h4:LB ^ (m+1)=LB ^ m*LB:=Nat.pow_succ ..
         rw [Nat.mod_eq_of_lt (by omega),Nat.mod_eq_of_lt (by omega)] at h1
         cases cr
         · simpa using h1
         · simp only [Bool.toNat_true,Nat.one_mul] at h1
           have h5:LB ^ m*2≤LB ^ m*LB:=Nat.mul_le_mul_left _ (by decide)
           omega)
       have HT:=Lh (Trim_any Ao i cc out wr _ (us_mine HO.out HV.out.1.symm) HV.out.2.1 (by omega))
       rw [HSUM.out] at HT
       clear hi1
       go_wp2_with ((with_reducible refine HT.out.mono ?_);rintro e w1 h_;obtain ⟨A1,n1,c1,h1_,ho1,hn1,hc1,hb1⟩:=h_.of HB.out;cases h1_;have HO1:=Lh ho1;have HN1:=Lh hn1;have HB2:=Lh hb1;clear ho1 hn1 hb1)
       go_ret
       exact ⟨A1,n1,c1,rfl,HO1.out,HN1.out,hc1,HB2.out⟩
 · have HLA:=Lh (fun (w_:World) (hb_:Below w.heap.size w w_) (k:Nat) (hk:k≤1000001)=>limb_any A n c la (k:Int) w_ _ (rows_next ha hb_) oka (by omega) (by omega))
   have HLB:=Lh (fun (w_:World) (hb_:Below w.heap.size w w_) (k:Nat) (hk:k≤1000001)=>limb_any B m d lb (k:Int) w_ _ (rows_next hb hb_) okb (by omega) (by omega))
   have hna:=(us_len ha).1
   have hnb:=(us_len hb).1
   have hla:natV la < LB ^ n:=Nat.lt_of_lt_of_le (natV_lt oka) (Nat.pow_le_pow_right (by decide) (by omega))
   have hlb:natV lb < LB ^ n:=Nat.lt_of_lt_of_le (natV_lt okb) (Nat.pow_le_pow_right (by decide) (by omega))
   obtain ⟨a,hha⟩:∃ a,a=natV la:=⟨_,rfl⟩
   obtain ⟨b,hhb⟩:∃ b,b=natV lb:=⟨_,rfl⟩
   rw [←hha] at HLA hla
   rw [←hhb] at HLB hlb
   rw [←hha,←hhb]
   have HLT:=Lh (And.intro hla hlb)
   obtain ⟨i0,hi,hz0,hz1,hz2⟩:=info_parts infoU
   have HI:=Lh (And.intro hi (And.intro hz0 (And.intro hz1 hz2)))
   have hM:n≤1000000:=by omega
   clear ha hb oka okb hna hnb hha hhb hla hlb hz0 hz1 hz2
   go_enter Tryz.func96,Tryz.ntmps96
   go_wp2
   go_loopw [5,6,7,8] (fun s5 s6 s7 _ wr=>∃ (i:Nat) (A:Option Addr) (cc:Nat) (out:List Nat) (cr:Bool),i≤n+1∧s7=.int .i64 i∧s5=.slice A i cc∧s6=.bool cr∧wr.ownsRow w.heap.size 41 1 (.slice A i cc) i (cellsU out)∧out.length=i∧LimbOk out∧natV out+cr.toNat*LB ^ i=a % LB ^ i+b % LB ^ i∧Below w.heap.size w wr) (fun _ _ s7 _ _=>n+1 - (intOf s7).toNat)
   case atStart=>exact ⟨0,none,0,[],false,by omega,rfl,rfl,rfl,World.ownsRow_nil _ _ _ _,rfl,fun x hx=>(nomatch hx),by simp [natV,Nat.mod_one],Below.refl _ _⟩
   case round =>
     obtain ⟨i,Ao,cc,out,cr,him,rfl,rfl,rfl,ho,hlo,hok,hv,hbr⟩:=hrel
     have HO:=Lh ho
     have HV:=Lh (And.intro hlo (And.intro hok hv))
     have HB:=Lh hbr
     clear ho hlo hok hv hbr
     by_cases hlt:i≤n
     · have d1:decide (i≤n)=true:=decide_eq_true hlt
       have d2:decide ((i:Int)≤(n:Int))=true:=decide_eq_true (by omega)
       have HR:=Lh (add_round HV.out.1 HV.out.2.2)
       have HAD:=Lh (fun w_=>RAdd_any (digN a i) (digN b i) cr w_ (digN_lt a i) (digN_lt b i))
       have HS:=Lh (addF_lt (digN a i) (digN b i) cr)
       have HA1:=Lh (HLA.out wr HB.out i (by omega))
       have HB1:=Lh (HLB.out wr HB.out i (by omega))
       simp only [Int.toNat_natCast] at HA1 HB1
       obtain ⟨x,hx⟩:∃ x,x=digN a i:=⟨_,rfl⟩
       obtain ⟨y,hy⟩:∃ y,y=digN b i:=⟨_,rfl⟩
       rw [←hx] at HA1
       rw [←hy] at HB1
       rw [←hx,←hy] at HR HAD HS
       obtain ⟨s,hs⟩:∃ s,s=(addF x y cr).1:=⟨_,rfl⟩
       obtain ⟨c2,hc2⟩:∃ c2,c2=(addF x y cr).2:=⟨_,rfl⟩
       rw [←hs,←hc2] at HR HAD
       rw [←hs] at HS
       have i1:IntKind.i64.wrap ((i:Int)+1)=((i+1:Nat):Int):=by rw [IntKind.wrap_i64];omega
       clear hx hy hs hc2
       go_wp2_with (first | ((with_reducible refine HA1.out.mono ?_);rintro e w1 ⟨rfl,hw⟩;subst hw) | ((with_reducible refine HB1.out.mono ?_);rintro e w1 ⟨rfl,hw⟩;subst hw) | ((with_reducible refine (HAD.out _).mono ?_);rintro e w1 ⟨rfl,hw⟩;subst hw) | (at_builtin;refine wpList_append_own_at _ rfl _ _ 68 rfl w.heap.size 41 i0 (.int .u64 0) 1 8 Tryz.underlying68 HI.out.1 HI.out.2.1 HI.out.2.2.1 HI.out.2.2.2 rfl (by decide) (.slice Ao i cc) i (cellsU out) rfl (HO.out.alloc _) ⟨wr.heap.size,0,none⟩ 1 1 [.int .u64 s] rfl (by rfl) (World.news_of_block (cs:=#[.int .u64 s]) (t:=41) (fr:=(0,0)) (heap_alloc_new wr _)) (by simp [Value.oneCell']) (by unfold maxLen;omega) (by omega) (by have:=HB.out.size;simp;omega) ?_;intro v w1 hown hg _ hwh;obtain ⟨A2,c2',rfl⟩:=own_form hown;have HO2:=Lh hown;have HG:=Lh hg;clear hown hg hwh))
       go_roundw
       case rel =>
         refine ⟨i+1,A2,c2',out++[s],c2,by omega,by go_num,rfl,rfl,by rw [cellsU_snoc];exact HO2.out,by rw [List.length_append,HV.out.1];rfl,limbOk_append HV.out.2.1 (limbOk_one HS.out),HR.out,?_⟩
         have h1:=HB.out
         exact Below.grown (h1.trans (((Below.refl wr.heap.size wr).alloc (Nat.le_refl _) _).mono h1.size)) HG.out (by have:=h1.size;simp;omega) fun k hk=>(own_lt HO.out k hk).2
       case measure=>simp [intOf];omega
     · have d1:decide (i≤n)=false:=decide_eq_false hlt
       have d2:decide ((i:Int)≤(n:Int))=false:=decide_eq_false (by omega)
       have hi1:i=n+1:=by omega
       have HSUM:=Lh (show natV out=a+b by
         have h1:=HV.out.2.2
         have h2:=HLT.out
         rw [hi1] at h1
         have h3:LB ^ n≤LB ^ (n+1):=Nat.pow_le_pow_right (by decide) (by omega)
         have h4:LB ^ (n+1)=LB ^ n*LB:=Nat.pow_succ ..
         rw [Nat.mod_eq_of_lt (by omega),Nat.mod_eq_of_lt (by omega)] at h1
         cases cr
         · simpa using h1
         · simp only [Bool.toNat_true,Nat.one_mul] at h1
           have h5:LB ^ n*2≤LB ^ n*LB:=Nat.mul_le_mul_left _ (by decide)
           omega)
       have HT:=Lh (Trim_any Ao i cc out wr _ (us_mine HO.out HV.out.1.symm) HV.out.2.1 (by omega))
       rw [HSUM.out] at HT
       clear hi1
       go_wp2_with ((with_reducible refine HT.out.mono ?_);rintro e w1 h_;obtain ⟨A1,n1,c1,h1_,ho1,hn1,hc1,hb1⟩:=h_.of HB.out;cases h1_;have HO1:=Lh ho1;have HN1:=Lh hn1;have HB2:=Lh hb1;clear ho1 hn1 hb1)
       go_ret
       exact ⟨A1,n1,c1,rfl,HO1.out,HN1.out,hc1,HB2.out⟩
end Go.Proofs.YtjbabpnepjhllaaGreat
namespace Go.Proofs.YtjbabpnepjhllaaGreat
open Go.RowKit
set_option maxRecDepth 100000
def NatOk (x:Nat) (w:World) (e:Ending) (w':World):Prop:=∃ A n c,e=.returned (.tuple #[.slice A n c,.int .i64 0])∧w'.ownsRow w.heap.size 41 1 (.slice A n c) n (cellsU (limbsOf x))∧n=(limbsOf x).length∧n≤c∧Below w.heap.size w w'
set_option maxHeartbeats 2000000 in
theorem Sub_any (A B:Option Addr) (n c m d:Nat) (la lb:List Nat) (w:World) (ha:UsAt w (fun k=>k < w.heap.size) (.slice A n c) la) (hb:UsAt w (fun k=>k < w.heap.size) (.slice B m d) lb) (oka:LimbOk la) (okb:LimbOk lb) (hn:n≤900000) (hm:m≤900000) (hge:natV lb≤natV la) :
   Calls Tryz.prog 99 #[.slice A n c,.slice B m d] w (NatOk (natV la - natV lb) w):=by
 obtain ⟨q,hq⟩:∃ q,q=cmpN (natV la) (natV lb):=⟨_,rfl⟩
 have hcmp:=Compare_any A B n c m d la lb w _ ha hb oka okb (by omega) (by omega)
 rw [←hq] at hcmp
 have d0:decide (q < (0:Int))=false:=decide_eq_false (by rw [hq];unfold cmpN;rw [if_neg (by omega)];split <;> decide)
 clear hq
 by_cases hnm:n < m
 · have HLA:=Lh (fun (w_:World) (hb_:Below w.heap.size w w_) (k:Nat) (hk:k≤1000001)=>limb_any A n c la (k:Int) w_ _ (rows_next ha hb_) oka (by omega) (by omega))
   have HLB:=Lh (fun (w_:World) (hb_:Below w.heap.size w w_) (k:Nat) (hk:k≤1000001)=>limb_any B m d lb (k:Int) w_ _ (rows_next hb hb_) okb (by omega) (by omega))
   have hna:=(us_len ha).1
   have hnb:=(us_len hb).1
   have hla:natV la < LB ^ m:=Nat.lt_of_lt_of_le (natV_lt oka) (Nat.pow_le_pow_right (by decide) (by omega))
   have hlb:natV lb < LB ^ m:=Nat.lt_of_lt_of_le (natV_lt okb) (Nat.pow_le_pow_right (by decide) (by omega))
   obtain ⟨a,hha⟩:∃ a,a=natV la:=⟨_,rfl⟩
   obtain ⟨b,hhb⟩:∃ b,b=natV lb:=⟨_,rfl⟩
   rw [←hha] at HLA hla
   rw [←hhb] at HLB hlb
   rw [←hha,←hhb]
   rw [←hha,←hhb] at hge
   have HLT:=Lh (And.intro hla hlb)
   obtain ⟨i0,hi,hz0,hz1,hz2⟩:=info_parts infoU
   have HI:=Lh (And.intro hi (And.intro hz0 (And.intro hz1 hz2)))
   have hM:m≤1000000:=by omega
   clear ha hb oka okb hna hnb hha hhb hla hlb hz0 hz1 hz2
   have HC:=Lh hcmp
   have HGE:=Lh hge
   clear hcmp hge
   go_enter Tryz.func99,Tryz.ntmps99
   go_wp2_with ((with_reducible refine HC.out.mono ?_);rintro e w1 ⟨rfl,hw⟩;subst hw)
   go_loopw [6,7,8,9] (fun s5 s6 s7 _ wr=>∃ (i:Nat) (A:Option Addr) (cc:Nat) (out:List Nat) (cr:Bool),i≤m∧s7=.int .i64 i∧s5=.slice A i cc∧s6=.bool cr∧wr.ownsRow w.heap.size 41 1 (.slice A i cc) i (cellsU out)∧out.length=i∧LimbOk out∧natV out+b % LB ^ i=a % LB ^ i+cr.toNat*LB ^ i∧Below w.heap.size w wr) (fun _ _ s7 _ _=>m - (intOf s7).toNat)
   case atStart=>exact ⟨0,none,0,[],false,by omega,rfl,rfl,rfl,World.ownsRow_nil _ _ _ _,rfl,fun x hx=>(nomatch hx),by simp [natV,Nat.mod_one],Below.refl _ _⟩
   case round =>
     obtain ⟨i,Ao,cc,out,cr,him,rfl,rfl,rfl,ho,hlo,hok,hv,hbr⟩:=hrel
     have HO:=Lh ho
     have HV:=Lh (And.intro hlo (And.intro hok hv))
     have HB:=Lh hbr
     clear ho hlo hok hv hbr
     by_cases hlt:i < m
     · have d1:decide (i < m)=true:=decide_eq_true hlt
       have d2:decide ((i:Int) < (m:Int))=true:=decide_eq_true (by omega)
       have HR:=Lh (sub_round HV.out.1 HV.out.2.2)
       have HAD:=Lh (fun w_=>RSub_any (digN a i) (digN b i) cr w_ (digN_lt a i) (digN_lt b i))
       have HS:=Lh (subF_lt (digN a i) (digN b i) cr)
       have HA1:=Lh (HLA.out wr HB.out i (by omega))
       have HB1:=Lh (HLB.out wr HB.out i (by omega))
       simp only [Int.toNat_natCast] at HA1 HB1
       obtain ⟨x,hx⟩:∃ x,x=digN a i:=⟨_,rfl⟩
       obtain ⟨y,hy⟩:∃ y,y=digN b i:=⟨_,rfl⟩
       rw [←hx] at HA1
       rw [←hy] at HB1
       rw [←hx,←hy] at HR HAD HS
       obtain ⟨s,hs⟩:∃ s,s=(subF x y cr).1:=⟨_,rfl⟩
       obtain ⟨c2,hc2⟩:∃ c2,c2=(subF x y cr).2:=⟨_,rfl⟩
       rw [←hs,←hc2] at HR HAD
       rw [←hs] at HS
       have i1:IntKind.i64.wrap ((i:Int)+1)=((i+1:Nat):Int):=by rw [IntKind.wrap_i64];omega
       clear hx hy hs hc2
       go_wp2_with (first | ((with_reducible refine HA1.out.mono ?_);rintro e w1 ⟨rfl,hw⟩;subst hw) | ((with_reducible refine HB1.out.mono ?_);rintro e w1 ⟨rfl,hw⟩;subst hw) | ((with_reducible refine (HAD.out _).mono ?_);rintro e w1 ⟨rfl,hw⟩;subst hw) | (at_builtin;refine wpList_append_own_at _ rfl _ _ 68 rfl w.heap.size 41 i0 (.int .u64 0) 1 8 Tryz.underlying68 HI.out.1 HI.out.2.1 HI.out.2.2.1 HI.out.2.2.2 rfl (by decide) (.slice Ao i cc) i (cellsU out) rfl (HO.out.alloc _) ⟨wr.heap.size,0,none⟩ 1 1 [.int .u64 s] rfl (by rfl) (World.news_of_block (cs:=#[.int .u64 s]) (t:=41) (fr:=(0,0)) (heap_alloc_new wr _)) (by simp [Value.oneCell']) (by unfold maxLen;omega) (by omega) (by have:=HB.out.size;simp;omega) ?_;intro v w1 hown hg _ hwh;obtain ⟨A2,c2',rfl⟩:=own_form hown;have HO2:=Lh hown;have HG:=Lh hg;clear hown hg hwh))
       go_roundw
       case rel =>
         refine ⟨i+1,A2,c2',out++[s],c2,by omega,by go_num,rfl,rfl,by rw [cellsU_snoc];exact HO2.out,by rw [List.length_append,HV.out.1];rfl,limbOk_append HV.out.2.1 (limbOk_one HS.out),HR.out,?_⟩
         have h1:=HB.out
         exact Below.grown (h1.trans (((Below.refl wr.heap.size wr).alloc (Nat.le_refl _) _).mono h1.size)) HG.out (by have:=h1.size;simp;omega) fun k hk=>(own_lt HO.out k hk).2
       case measure=>simp [intOf];omega
     · have d1:decide (i < m)=false:=decide_eq_false hlt
       have d2:decide ((i:Int) < (m:Int))=false:=decide_eq_false (by omega)
       have hi1:i=m:=by omega
       have HSUM:=Lh (show natV out=a - b by
         have h1:=HV.out.2.2
         have h2:=HLT.out
         have h6:=HGE.out
         rw [hi1] at h1
         rw [Nat.mod_eq_of_lt (by omega),Nat.mod_eq_of_lt (by omega)] at h1
         cases cr
         · simp only [Bool.toNat_false,Nat.zero_mul,Nat.add_zero] at h1;omega
         · simp only [Bool.toNat_true,Nat.one_mul] at h1
           have h5:=natV_lt HV.out.2.1
           rw [HV.out.1,hi1] at h5
           omega)
       have HT:=Lh (Trim_any Ao i cc out wr _ (us_mine HO.out HV.out.1.symm) HV.out.2.1 (by omega))
       rw [HSUM.out] at HT
       clear hi1
       go_wp2_with ((with_reducible refine HT.out.mono ?_);rintro e w1 h_;obtain ⟨A1,n1,c1,h1_,ho1,hn1,hc1,hb1⟩:=h_.of HB.out;cases h1_;have HO1:=Lh ho1;have HN1:=Lh hn1;have HB2:=Lh hb1;clear ho1 hn1 hb1)
       go_ret2
       exact ⟨A1,n1,c1,rfl,HO1.out,HN1.out,hc1,HB2.out⟩
 · have HLA:=Lh (fun (w_:World) (hb_:Below w.heap.size w w_) (k:Nat) (hk:k≤1000001)=>limb_any A n c la (k:Int) w_ _ (rows_next ha hb_) oka (by omega) (by omega))
   have HLB:=Lh (fun (w_:World) (hb_:Below w.heap.size w w_) (k:Nat) (hk:k≤1000001)=>limb_any B m d lb (k:Int) w_ _ (rows_next hb hb_) okb (by omega) (by omega))
   have hna:=(us_len ha).1
   have hnb:=(us_len hb).1
   have hla:natV la < LB ^ n:=Nat.lt_of_lt_of_le (natV_lt oka) (Nat.pow_le_pow_right (by decide) (by omega))
   have hlb:natV lb < LB ^ n:=Nat.lt_of_lt_of_le (natV_lt okb) (Nat.pow_le_pow_right (by decide) (by omega))
   obtain ⟨a,hha⟩:∃ a,a=natV la:=⟨_,rfl⟩
   obtain ⟨b,hhb⟩:∃ b,b=natV lb:=⟨_,rfl⟩
   rw [←hha] at HLA hla
   rw [←hhb] at HLB hlb
   rw [←hha,←hhb]
   rw [←hha,←hhb] at hge
   have HLT:=Lh (And.intro hla hlb)
   obtain ⟨i0,hi,hz0,hz1,hz2⟩:=info_parts infoU
   have HI:=Lh (And.intro hi (And.intro hz0 (And.intro hz1 hz2)))
   have hM:n≤1000000:=by omega
   clear ha hb oka okb hna hnb hha hhb hla hlb hz0 hz1 hz2
   have HC:=Lh hcmp
   have HGE:=Lh hge
   clear hcmp hge
   go_enter Tryz.func99,Tryz.ntmps99
   go_wp2_with ((with_reducible refine HC.out.mono ?_);rintro e w1 ⟨rfl,hw⟩;subst hw)
   go_loopw [6,7,8,9] (fun s5 s6 s7 _ wr=>∃ (i:Nat) (A:Option Addr) (cc:Nat) (out:List Nat) (cr:Bool),i≤n∧s7=.int .i64 i∧s5=.slice A i cc∧s6=.bool cr∧wr.ownsRow w.heap.size 41 1 (.slice A i cc) i (cellsU out)∧out.length=i∧LimbOk out∧natV out+b % LB ^ i=a % LB ^ i+cr.toNat*LB ^ i∧Below w.heap.size w wr) (fun _ _ s7 _ _=>n - (intOf s7).toNat)
   case atStart=>exact ⟨0,none,0,[],false,by omega,rfl,rfl,rfl,World.ownsRow_nil _ _ _ _,rfl,fun x hx=>(nomatch hx),by simp [natV,Nat.mod_one],Below.refl _ _⟩
   case round =>
     obtain ⟨i,Ao,cc,out,cr,him,rfl,rfl,rfl,ho,hlo,hok,hv,hbr⟩:=hrel
     have HO:=Lh ho
     have HV:=Lh (And.intro hlo (And.intro hok hv))
     have HB:=Lh hbr
     clear ho hlo hok hv hbr
     by_cases hlt:i < n
     · have d1:decide (i < n)=true:=decide_eq_true hlt
       have d2:decide ((i:Int) < (n:Int))=true:=decide_eq_true (by omega)
       have HR:=Lh (sub_round HV.out.1 HV.out.2.2)
       have HAD:=Lh (fun w_=>RSub_any (digN a i) (digN b i) cr w_ (digN_lt a i) (digN_lt b i))
       have HS:=Lh (subF_lt (digN a i) (digN b i) cr)
       have HA1:=Lh (HLA.out wr HB.out i (by omega))
       have HB1:=Lh (HLB.out wr HB.out i (by omega))
       simp only [Int.toNat_natCast] at HA1 HB1
       obtain ⟨x,hx⟩:∃ x,x=digN a i:=⟨_,rfl⟩
       obtain ⟨y,hy⟩:∃ y,y=digN b i:=⟨_,rfl⟩
       rw [←hx] at HA1
       rw [←hy] at HB1
       rw [←hx,←hy] at HR HAD HS
       obtain ⟨s,hs⟩:∃ s,s=(subF x y cr).1:=⟨_,rfl⟩
       obtain ⟨c2,hc2⟩:∃ c2,c2=(subF x y cr).2:=⟨_,rfl⟩
       rw [←hs,←hc2] at HR HAD
       rw [←hs] at HS
       have i1:IntKind.i64.wrap ((i:Int)+1)=((i+1:Nat):Int):=by rw [IntKind.wrap_i64];omega
       clear hx hy hs hc2
       go_wp2_with (first | ((with_reducible refine HA1.out.mono ?_);rintro e w1 ⟨rfl,hw⟩;subst hw) | ((with_reducible refine HB1.out.mono ?_);rintro e w1 ⟨rfl,hw⟩;subst hw) | ((with_reducible refine (HAD.out _).mono ?_);rintro e w1 ⟨rfl,hw⟩;subst hw) | (at_builtin;refine wpList_append_own_at _ rfl _ _ 68 rfl w.heap.size 41 i0 (.int .u64 0) 1 8 Tryz.underlying68 HI.out.1 HI.out.2.1 HI.out.2.2.1 HI.out.2.2.2 rfl (by decide) (.slice Ao i cc) i (cellsU out) rfl (HO.out.alloc _) ⟨wr.heap.size,0,none⟩ 1 1 [.int .u64 s] rfl (by rfl) (World.news_of_block (cs:=#[.int .u64 s]) (t:=41) (fr:=(0,0)) (heap_alloc_new wr _)) (by simp [Value.oneCell']) (by unfold maxLen;omega) (by omega) (by have:=HB.out.size;simp;omega) ?_;intro v w1 hown hg _ hwh;obtain ⟨A2,c2',rfl⟩:=own_form hown;have HO2:=Lh hown;have HG:=Lh hg;clear hown hg hwh))
       go_roundw
       case rel =>
         refine ⟨i+1,A2,c2',out++[s],c2,by omega,by go_num,rfl,rfl,by rw [cellsU_snoc];exact HO2.out,by rw [List.length_append,HV.out.1];rfl,limbOk_append HV.out.2.1 (limbOk_one HS.out),HR.out,?_⟩
         have h1:=HB.out
         exact Below.grown (h1.trans (((Below.refl wr.heap.size wr).alloc (Nat.le_refl _) _).mono h1.size)) HG.out (by have:=h1.size;simp;omega) fun k hk=>(own_lt HO.out k hk).2
       case measure=>simp [intOf];omega
     · have d1:decide (i < n)=false:=decide_eq_false hlt
       have d2:decide ((i:Int) < (n:Int))=false:=decide_eq_false (by omega)
       have hi1:i=n:=by omega
       have HSUM:=Lh (show natV out=a - b by
         have h1:=HV.out.2.2
         have h2:=HLT.out
         have h6:=HGE.out
         rw [hi1] at h1
         rw [Nat.mod_eq_of_lt (by omega),Nat.mod_eq_of_lt (by omega)] at h1
         cases cr
         · simp only [Bool.toNat_false,Nat.zero_mul,Nat.add_zero] at h1;omega
         · simp only [Bool.toNat_true,Nat.one_mul] at h1
           have h5:=natV_lt HV.out.2.1
           rw [HV.out.1,hi1] at h5
           omega)
       have HT:=Lh (Trim_any Ao i cc out wr _ (us_mine HO.out HV.out.1.symm) HV.out.2.1 (by omega))
       rw [HSUM.out] at HT
       clear hi1
       go_wp2_with ((with_reducible refine HT.out.mono ?_);rintro e w1 h_;obtain ⟨A1,n1,c1,h1_,ho1,hn1,hc1,hb1⟩:=h_.of HB.out;cases h1_;have HO1:=Lh ho1;have HN1:=Lh hn1;have HB2:=Lh hb1;clear ho1 hn1 hb1)
       go_ret2
       exact ⟨A1,n1,c1,rfl,HO1.out,HN1.out,hc1,HB2.out⟩
end Go.Proofs.YtjbabpnepjhllaaGreat
namespace Go.Proofs.YtjbabpnepjhllaaGreat
open Go.RowKit
theorem mul_word {o m x y:Nat} (ho:o < LB) (hm:m < LB) (hx:x < LB) (hy:y < LB) :
   (addF (addF o (mulF x y).2 false).1 m false).1+LB*(addF (addF (mulF x y).1 0 (addF o (mulF x y).2 false).2).1 0 (addF (addF o (mulF x y).2 false).1 m false).2).1=o+m+x*y:=by
 have hxy:x*y≤18446744073709551615*18446744073709551615:=Nat.mul_le_mul (by simp only [LB] at hx;omega) (by simp only [LB] at hy;omega)
 have hm1:(mulF x y).2+LB*(mulF x y).1=x*y:=by unfold mulF;simp only [LB];omega
 have hm2:(mulF x y).2 < LB:=Nat.mod_lt _ (by decide)
 generalize x*y=p at *
 generalize (mulF x y).1=hi at *
 generalize (mulF x y).2=lo at *
 have h1:=add_spec2 (x:=o) (y:=lo) false ho hm2
 have h1l:=addF_lt o lo false
 have hc1:(addF o lo false).2.toNat≤1:=by cases (addF o lo false).2 <;> decide
 generalize (addF o lo false).1=s at *
 generalize (addF o lo false).2=c at *
 have h2:=add_spec2 (x:=s) (y:=m) false h1l hm
 have h2l:=addF_lt s m false
 have hc2:(addF s m false).2.toNat≤1:=by cases (addF s m false).2 <;> decide
 generalize (addF s m false).1=t at *
 generalize (addF s m false).2=d at *
 simp only [Bool.toNat_false,Nat.add_zero] at h1 h2
 have h3:=add_spec2 (x:=hi) (y:=0) c (by simp only [LB] at *;omega) (by decide)
 have h3l:=addF_lt hi 0 c
 generalize (addF hi 0 c).1=u at *
 generalize (addF hi 0 c).2=c3 at *
 have h4:=add_spec2 (x:=u) (y:=0) d h3l (by decide)
 have h4l:=addF_lt u 0 d
 generalize (addF u 0 d).1=v at *
 generalize (addF u 0 d).2=c4 at *
 cases c3
 · cases c4
   · simp only [Bool.toNat_false,LB] at *;omega
   · simp only [Bool.toNat_false,Bool.toNat_true,LB] at *;omega
 · cases c4
   · simp only [Bool.toNat_false,Bool.toNat_true,LB] at *;omega
   · simp only [Bool.toNat_true,LB] at *;omega
theorem natV_set:∀ {l:List Nat} {p old:Nat} (t:Nat),l[p]? = some old→natV (l.set p t)+LB ^ p*old=natV l+LB ^ p*t
 | [],_,_,_,h=>by simp at h
 | x :: r,0,old,t,h=>by
   simp at h
   subst h
   simp only [List.set_cons_zero,natV,Nat.pow_zero,Nat.one_mul]
   omega
 | x :: r,p+1,old,t,h=>by
   have ih:=natV_set (l:=r) (p:=p) (old:=old) t (by simpa using h)
   simp only [List.set_cons_succ,natV,Nat.pow_succ]
   rw [Nat.mul_comm (LB ^ p) LB,Nat.mul_assoc,Nat.mul_assoc]
   generalize natV (r.set p t)=u at *
   generalize LB ^ p*old=v at *
   generalize LB ^ p*t=z at *
   simp only [LB] at *
   omega
theorem limbOk_set {l:List Nat} (h:LimbOk l) (p:Nat) {t:Nat} (ht:t < LB):LimbOk (l.set p t):=fun x hx=>by
 rcases List.mem_or_eq_of_mem_set hx with h1 | h1
 · exact h x h1
 · omega
theorem mul_round {a b i k o m t h:Nat} {out:List Nat} (ho:out[i+k]? = some o) (hv:natV out+m*LB ^ (i+k)=a % LB ^ i*b+digN a i*(b % LB ^ k)*LB ^ i) (hw:t+LB*h=o+m+digN a i*digN b k) :
   natV (out.set (i+k) t)+h*LB ^ (i+k+1)=a % LB ^ i*b+digN a i*(b % LB ^ (k+1))*LB ^ i:=by
 have h1:=natV_set t ho
 rw [mod_succ b k,Nat.pow_succ,Nat.mul_add,Nat.add_mul,←Nat.mul_assoc h,Nat.mul_comm h,Nat.mul_assoc (LB ^ (i+k)),Nat.mul_comm h LB]
 have h2:digN a i*(LB ^ k*digN b k)*LB ^ i=LB ^ (i+k)*(digN a i*digN b k):=by
   rw [Nat.pow_add]
   ac_rfl
 rw [h2]
 have h3:LB ^ (i+k)*(t+LB*h)=LB ^ (i+k)*(o+m+digN a i*digN b k):=by rw [hw]
 rw [Nat.mul_add,Nat.mul_add,Nat.mul_add] at h3
 rw [Nat.mul_comm m] at hv
 generalize LB ^ (i+k)*(LB*h)=z1 at *
 generalize LB ^ (i+k)*(digN a i*digN b k)=z2 at *
 generalize LB ^ (i+k)*t=z3 at *
 generalize LB ^ (i+k)*o=z4 at *
 generalize LB ^ (i+k)*m=z5 at *
 omega
end Go.Proofs.YtjbabpnepjhllaaGreat
