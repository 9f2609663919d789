/- Part 4 of a claim; what it proves stands in its last text. -/
import Derived.Test.YtjbabpnepjhllaaGreatSx3
import Derived.Test.YtjbabpnepjhllaaGreatSx1
namespace Go.Proofs.YtjbabpnepjhllaaGreat
open Go.RowKit
set_option maxRecDepth 100000
theorem make_u (n:Nat) (hn:n≤2000000) (w:World):(Instr.makeSlice 68 (.int .i64 n) (.int .i64 n)).run Tryz.prog w=.ok (.slice (some ⟨w.heap.size,0,none⟩) n n) (w.alloc (.cells (cellsU (List.replicate n 0)).toArray 41)):=by
 obtain ⟨i0,hi,hz0,hz1,hz2⟩:=info_parts infoU
 have h:=run_make (P:=Tryz.prog) w 68 41 i0 (.int .u64 0) Tryz.underlying68 hi hz0 .i64 .i64 n n (by omega) (by omega) (by rw [hz2];omega) (by omega)
 rw [hz1] at h
 have e:(Value.int .u64 0).cells=#[.int .u64 0]:=rfl
 have e2:madeCells #[.int .u64 0] n=(cellsU (List.replicate n 0)).toArray:=by
   refine Array.ext (by simp [size_madeCells,cellsU]) fun i h1 h2=>?_
   simp [madeCells,Nat.mod_one,cellsU]
 rw [e] at h
 simp only [Int.toNat_natCast,Nat.mul_one,e2] at h
 exact h
def UBlk (w:World) (g:Nat) (l:List Nat):Prop:=w.heap[g]? = some (.cells (cellsU l).toArray 41 (0,0))
theorem UBlk.get {w:World} {g k x:Nat} {l:List Nat} (h:UBlk w g l) (hk:l[k]? = some x):w.cell? ⟨g,k,none⟩=some (.int .u64 x)∧w.frozen? ⟨g,k,none⟩=false:=by
 unfold UBlk at h
 refine ⟨?_,by simp [World.frozen?,h]⟩
 simp only [World.cell?,h]
 unfold cellsU
 simp [hk]
theorem UBlk.put {w:World} {g:Nat} {l:List Nat} (h:UBlk w g l) (k x:Nat):UBlk (w.setCell ⟨g,k,none⟩ (.int .u64 x)) g (l.set k x):=by
 unfold UBlk at *
 rw [World.setCell]
 simp only [Array.getElem?_modify,if_pos,h,Option.map_some]
 simp [cellsU,List.map_set]
theorem UBlk.next {w w':World} {g:Nat} {l:List Nat} (h:UBlk w g l) (hb:Below w.heap.size w w'):UBlk w' g l:=(hb.block g (lt_of_block h)).trans h
theorem UBlk.at_ {w:World} {g:Nat} {l:List Nat} (h:UBlk w g l):UsAt w (fun k=>k < w.heap.size) (.slice (some ⟨g,0,none⟩) l.length l.length) l:=by
 have hlt:=lt_of_block h
 refine ⟨_,l.length,by simp,by simp,by intro r hr;obtain ⟨x,_,rfl⟩:=List.mem_map.1 hr;rfl,fun _=>⟨g,0,rfl,hlt,fun i j r u hr hu=>?_⟩⟩
 rw [List.getElem?_map] at hr
 cases hi:l[i]? with
 | none=>rw [hi] at hr;cases hr
 | some y =>
   rw [hi] at hr
   cases hr
   obtain ⟨rfl,rfl⟩:j=0∧u=.int .u64 y:=by
     cases j with
     | zero=>simp [uRow] at hu;exact ⟨rfl,hu.symm⟩
     | succ j=>simp [uRow] at hu
   have:=(h.get hi).1
   simpa using this
theorem get_dig {a k:Nat} (hk:k < (limbsOf a).length):(limbsOf a)[k]? = some (digN a k):=by
 have hd:=digN_get (limbsOf_ok a) k
 rw [natV_limbs] at hd
 rw [hd,List.getD_eq_getElem?_getD,List.getElem?_eq_getElem hk];rfl
theorem get_ok {l:List Nat} (h:LimbOk l) {k x:Nat} (hk:l[k]? = some x):x < LB:=h x (List.mem_of_getElem? hk)
structure MulAt (wb w:World) (g a b N:Nat) (out:List Nat):Prop where
 blk:UBlk w g out
 len:out.length=N
 ok:LimbOk out
 to:Below wb.heap.size wb w
theorem MulAt.put {wb w:World} {g a b N:Nat} {out:List Nat} (h:MulAt wb w g a b N out) (hg:wb.heap.size≤g) (p:Nat) {t:Nat} (ht:t < LB):MulAt wb (w.setCell ⟨g,p,none⟩ (.int .u64 t)) g a b N (out.set p t) :=
 ⟨h.blk.put p t,by rw [List.length_set];exact h.len,limbOk_set h.ok p ht,Below.setCell h.to hg _⟩
set_option maxHeartbeats 8000000 in
theorem Mul_any (A B:Option Addr) (n c m d:Nat) (la lb:List Nat) (w:World) (ha:UsAt w (fun k=>k < w.heap.size) (.slice A n c) la) (hb:UsAt w (fun k=>k < w.heap.size) (.slice B m d) lb) (oka:LimbOk la) (okb:LimbOk lb) (hn:n≤400000) (hm:m≤400000) :
   Calls Tryz.prog 100 #[.slice A n c,.slice B m d] w (NatSay (natV la*natV lb) w):=by
 have HTA:=Lh (Trim_any A n c la w _ ha oka (by omega))
 have HTB:=Lh (fun (w_:World) (h_:Below w.heap.size w w_)=>Trim_any B m d lb w_ _ (rows_next hb h_) okb (by omega))
 have HL:=Lh (show (limbsOf (natV la)).length≤400000∧(limbsOf (natV lb)).length≤400000 from ⟨by have:=limbs_len_le (natV_lt oka);have:=(us_len ha).1;omega,by have:=limbs_len_le (natV_lt okb);have:=(us_len hb).1;omega⟩)
 obtain ⟨a,hha⟩:∃ a,a=natV la:=⟨_,rfl⟩
 obtain ⟨b,hhb⟩:∃ b,b=natV lb:=⟨_,rfl⟩
 rw [←hha] at HTA HL
 rw [←hhb] at HTB HL
 rw [←hha,←hhb]
 clear ha hb oka okb hha hhb
 go_enter Tryz.func100,Tryz.ntmps100
 go_upto_region 2 with (first
   | ((with_reducible refine HTA.out.mono ?_);rintro e w1 ⟨A1,n1,c1,rfl,ho1,hn1,hc1,hb1⟩;have HO1:=Lh ho1;have HN1:=Lh hn1;have HB1:=Lh hb1;clear ho1 hn1 hb1 hc1)
   | ((with_reducible refine (HTB.out _ HB1.out).mono ?_);rintro e w2 ⟨A2,n2,c2,rfl,ho2,hn2,hc2,hb2⟩;have HO2:=Lh ho2;have HN2:=Lh hn2;have HB2:=Lh hb2;clear ho2 hn2 hb2 hc2))
 obtain ⟨N,hN⟩:∃ N,N=n1+n2:=⟨_,rfl⟩
 have hN8:N≤800000:=by have:=HL.out;have:=HN1.out;have:=HN2.out;omega
 have k1:IntKind.i64.wrap ((n1:Int)+(n2:Int))=(N:Int):=by rw [IntKind.wrap_i64];omega
 have HMK:=Lh (make_u N (by omega) w2)
 have HN:=Lh hN
 have HRA:=Lh (us_told HO1.out HN1.out HB2.out)
 have HRB:=Lh (us_told HO2.out HN2.out (Below.refl _ _))
 have HBW:=Lh (HB1.out.trans (HB2.out.mono HB1.out.size))
 have hmk:=HMK.out
 clear hN
 go_upto_region 3 with (first | go_in)
 clear hmk HTA HTB HO1 HO2 HMK
 obtain ⟨W,hW⟩:∃ W,W=w2.alloc (.cells (cellsU (List.replicate N 0)).toArray 41):=⟨_,rfl⟩
 have HM0:=Lh (show MulAt w2 W w2.heap.size a b N (List.replicate N 0) from ⟨by rw [hW];exact heap_alloc_new w2 _,by simp,fun x hx=>by rw [List.eq_of_mem_replicate hx];decide,by rw [hW];exact (Below.refl _ _).alloc (Nat.le_refl _) _⟩)
 (try rw [←hW])
 clear hW
 obtain ⟨g,hg⟩:∃ g,g=w2.heap.size:=⟨_,rfl⟩
 rw [←hg] at HM0
 (try rw [←hg])
 have HG:=Lh hg
 clear hg
 go_wp2
 go_loopw [6,7,8,9,10,11,12,13,14] (fun s6 _ _ _ _ _ _ _ _ wr=>∃ (i:Nat) (out:List Nat),i≤n1∧s6=.int .i64 i∧MulAt w2 wr g a b N out∧natV out=a % LB ^ i*b∧(∀ j,i+n2≤j→j < N→out[j]? = some 0)) (fun s6 _ _ _ _ _ _ _ _ _=>n1 - (intOf s6).toNat)
 case atStart=>exact ⟨0,List.replicate N 0,Nat.zero_le _,rfl,HM0.out,by rw [natV_zeros];simp [Nat.mod_one],fun j _ hj=>by simp [hj]⟩
 case round =>
   obtain ⟨i,out,hi,rfl,hm,hv,hz⟩:=hrel
   have HM:=Lh hm
   have HV:=Lh (And.intro hv hz)
   clear hm hv hz
   by_cases hlt:i < n1
   · have d1:decide (i < n1)=true:=decide_eq_true hlt
     have hx:=get_dig (a:=a) (k:=i) (by have:=HN1.out;omega)
     have HDX:=Lh (digN_lt a i)
     obtain ⟨x,hxx⟩:∃ x,x=digN a i:=⟨_,rfl⟩
     rw [←hxx] at hx HDX
     have HXX:=Lh hxx
     obtain ⟨ba,oa,rfl,hba,xa⟩:=HRA.out.at_ hx
     have i1:(0:Int)≤(i:Int):=by omega
     have i2:(i:Int) < (n1:Int):=by omega
     have HCA:=Lh (show ∀ w_,Below w2.heap.size w2 w_→w_.cell? ⟨ba,oa+i,none⟩=some (.int .u64 x) from fun w_ h_=>(h_.cell (p:=⟨ba,oa+i,none⟩) hba).trans xa)
     clear hx hxx xa hba
     go_wp2
     go_loopw [7,8,9,10,11,12,13,14] (fun s7 s8 _ _ _ _ _ _ wr2=>∃ (k mo:Nat) (out2:List Nat),k≤n2∧s8=.int .i64 k∧s7=.int .u64 mo∧mo < LB∧MulAt w2 wr2 g a b N out2∧natV out2+mo*LB ^ (i+k)=a % LB ^ i*b+digN a i*(b % LB ^ k)*LB ^ i∧(∀ j,i+n2≤j→j < N→out2[j]? = some 0)) (fun _ s8 _ _ _ _ _ _ _=>n2 - (intOf s8).toNat)
     case atStart=>exact ⟨0,0,out,Nat.zero_le _,rfl,rfl,by decide,HM.out,by rw [HV.out.1];simp [Nat.mod_one],HV.out.2⟩
     case round =>
       obtain ⟨k,mo,out2,hk,rfl,rfl,hmo,hm2,hv2,hz2⟩:=hrel
       have HM2:=Lh hm2
       have HV2:=Lh (And.intro hmo (And.intro hv2 hz2))
       clear hmo hm2 hv2 hz2
       by_cases hlt2:k < n2
       · have d2:decide (k < n2)=true:=decide_eq_true hlt2
         have hy:=get_dig (a:=b) (k:=k) (by have:=HN2.out;omega)
         have HDY:=Lh (digN_lt b k)
         obtain ⟨y,hyy⟩:∃ y,y=digN b k:=⟨_,rfl⟩
         rw [←hyy] at hy HDY
         have HYY:=Lh hyy
         obtain ⟨bb,ob,rfl,hbb,yb⟩:=HRB.out.at_ hy
         have j1:(0:Int)≤(k:Int):=by omega
         have j2:(k:Int) < (n2:Int):=by omega
         have HCB:=Lh (show ∀ w_,Below w2.heap.size w2 w_→w_.cell? ⟨bb,ob+k,none⟩=some (.int .u64 y) from fun w_ h_=>(h_.cell (p:=⟨bb,ob+k,none⟩) hbb).trans yb)
         obtain ⟨p,hp⟩:∃ p,p=i+k:=⟨_,rfl⟩
         have HP:=Lh hp
         have j3:IntKind.i64.wrap ((i:Int)+(k:Int))=(p:Int):=by rw [IntKind.wrap_i64];have:=HN.out;omega
         have j4:(0:Int)≤(p:Int):=by omega
         have j5:(p:Int) < (N:Int):=by have:=HN.out;omega
         have j6:IntKind.i64.wrap ((k:Int)+1)=((k+1:Nat):Int):=by rw [IntKind.wrap_i64];have:=HN.out;omega
         obtain ⟨o,ho⟩:∃ o,out2[p]? = some o:=⟨_,List.getElem?_eq_getElem (by have:=HM2.out.len;have:=HN.out;omega)⟩
         have HO:=Lh ho
         have HOL:=Lh (get_ok HM2.out.ok ho)
         have HMU:=Lh (fun w_=>RMul_any x y w_ HDX.out HDY.out)
         clear hy hyy yb hbb hp ho
         go_upto_region 10 with (first | go_in)
         have hS:=(Below.refl wr.heap.size wr).drew
         have up:∀ {w_},Below wr.heap.size wr w_→Below w2.heap.size w2 w_:=fun h=>HM2.out.to.trans (h.mono HM2.out.to.size)
         (refine wp_region_lines (Below wr.heap.size wr) (by kernel_rfl) (by kernel_rfl) ((Below.refl wr.heap.size wr).drew) ?_)
         (try simp only [])
         repeat (first | (refine runL_no (by rfl) ?_;(try simp only [Act.put,List.setIfInBounds_toArray,List.set_cons_zero,List.set_cons_succ])) | (refine runL_val (v:=?_) (by rfl) ?_ ?_;rotate_left;(focus (intro w_ hw_;have f0_:=HCA.out w_ (up hw_);have f1_:=HCB.out w_ (up hw_);go_simp;(try with_reducible rfl);done));(try simp only [Act.put,List.setIfInBounds_toArray,List.set_cons_zero,List.set_cons_succ])) | (refine runL_call (f:=?_) (args:=?_) (w1:=?_) (by rfl) (by rfl) ?_ ?_;rotate_left 3;(focus (go_simp;refine ⟨⟨?_,?_⟩,?_⟩ <;> with_reducible rfl));(with_reducible refine (HMU.out _).mono ?_);rintro e_ w3 ⟨rfl,hw3⟩;subst hw3;refine ⟨_,rfl,.inr hS,?_⟩;(try simp only [Act.put,List.setIfInBounds_toArray,List.set_cons_zero,List.set_cons_succ])))
         (refine runL_nil ?_)
         have HM3:=Lh (show MulAt w2 wr.drew g a b N out2 from ⟨HM2.out.blk.next hS,HM2.out.len,HM2.out.ok,up hS⟩)
         clear hS up HM2 HMU HCA HCB
         generalize wr.drew=W3 at *
         have HW:=Lh (mul_word HOL.out HV2.out.1 HDX.out HDY.out)
         obtain ⟨hi1,hhi⟩:∃ v,v=(mulF x y).1:=⟨_,rfl⟩
         obtain ⟨lo,hlo⟩:∃ v,v=(mulF x y).2:=⟨_,rfl⟩
         have HHI:=Lh (show hi1 < LB by
           rw [hhi];unfold mulF
           have h1:x*y≤18446744073709551615*18446744073709551615:=Nat.mul_le_mul (by have:=HDX.out;simp only [LB] at this;omega) (by have:=HDY.out;simp only [LB] at this;omega)
           simp only [LB];omega)
         have HLO:=Lh (show lo < LB by rw [hlo];exact Nat.mod_lt _ (by decide))
         rw [←hhi,←hlo] at HW
         (try rw [←hhi,←hlo])
         clear hhi hlo
         have HA1:=Lh (fun w_=>RAdd_any o lo false w_ HOL.out HLO.out)
         have HSL:=Lh (addF_lt o lo false)
         obtain ⟨s,hs⟩:∃ v,v=(addF o lo false).1:=⟨_,rfl⟩
         obtain ⟨cs,hcs⟩:∃ v,v=(addF o lo false).2:=⟨_,rfl⟩
         rw [←hs,←hcs] at HW HA1
         rw [←hs] at HSL
         have HA2:=Lh (fun w_=>RAdd_any s mo false w_ HSL.out HV2.out.1)
         have HTL:=Lh (addF_lt s mo false)
         obtain ⟨t,ht⟩:∃ v,v=(addF s mo false).1:=⟨_,rfl⟩
         obtain ⟨ct,hct⟩:∃ v,v=(addF s mo false).2:=⟨_,rfl⟩
         rw [←ht,←hct] at HW HA2
         rw [←ht] at HTL
         have HA3:=Lh (fun w_=>show Calls Tryz.prog 121 #[.int .u64 hi1,.int .u64 0,.bool cs] w_ _ from RAdd_any hi1 0 cs w_ HHI.out (by decide))
         have HUL:=Lh (addF_lt hi1 0 cs)
         obtain ⟨u,hu⟩:∃ v,v=(addF hi1 0 cs).1:=⟨_,rfl⟩
         obtain ⟨cu,hcu⟩:∃ v,v=(addF hi1 0 cs).2:=⟨_,rfl⟩
         rw [←hu] at HW
         rw [←hu,←hcu] at HA3
         rw [←hu] at HUL
         have HA4:=Lh (fun w_=>show Calls Tryz.prog 121 #[.int .u64 u,.int .u64 0,.bool ct] w_ _ from RAdd_any u 0 ct w_ HUL.out (by decide))
         have HVL:=Lh (addF_lt u 0 ct)
         obtain ⟨v,hv⟩:∃ v,v=(addF u 0 ct).1:=⟨_,rfl⟩
         obtain ⟨cv,hcv⟩:∃ v,v=(addF u 0 ct).2:=⟨_,rfl⟩
         rw [←hv] at HW
         rw [←hv,←hcv] at HA4
         rw [←hv] at HVL
         obtain ⟨p0,pf⟩:=HM3.out.blk.get HO.out
         clear hs hcs ht hct hu hcu hv hcv
         go_wp2_with (first
           | ((with_reducible refine (HA1.out _).mono ?_);rintro e_ w4 ⟨rfl,hw4⟩;subst hw4)
           | ((with_reducible refine (HA2.out _).mono ?_);rintro e_ w4 ⟨rfl,hw4⟩;subst hw4)
           | ((with_reducible refine (HA3.out _).mono ?_);rintro e_ w4 ⟨rfl,hw4⟩;subst hw4)
           | ((with_reducible refine (HA4.out _).mono ?_);rintro e_ w4 ⟨rfl,hw4⟩;subst hw4))
         go_roundw
         case rel =>
           refine ⟨k+1,v,out2.set p t,hlt2,by go_num,rfl,HVL.out,HM3.out.put (Nat.le_of_eq HG.out.symm) p HTL.out,?_,fun j h1 h2=>?_⟩
           · have h3:=mul_round (a:=a) (b:=b) (i:=i) (k:=k) (by rw [←HP.out];exact HO.out) HV2.out.2.1 (t:=t) (h:=v) (by rw [←HXX.out,←HYY.out];exact HW.out)
             rw [←HP.out] at h3
             rw [show i+(k+1)=p+1 by rw [HP.out];omega]
             exact h3
           · rw [List.getElem?_set_ne (by have:=HP.out;omega)]
             exact HV2.out.2.2 j h1 h2
         case measure=>simp [intOf];omega
       · have d2:decide (k < n2)=false:=decide_eq_false hlt2
         obtain ⟨q,hq⟩:∃ q,q=i+n2:=⟨_,rfl⟩
         have hk2:k=n2:=by omega
         have HQ:=Lh hq
         have HK2:=Lh hk2
         have j3:IntKind.i64.wrap ((i:Int)+(n2:Int))=(q:Int):=by rw [IntKind.wrap_i64];have:=HN.out;omega
         have j4:(0:Int)≤(q:Int):=by omega
         have j5:(q:Int) < (N:Int):=by have:=HN.out;omega
         have j6:IntKind.i64.wrap ((i:Int)+1)=((i+1:Nat):Int):=by rw [IntKind.wrap_i64];have:=HN.out;omega
         have HZ:=Lh (HV2.out.2.2 q (by omega) (by have:=HN.out;omega))
         obtain ⟨p0,pf⟩:=HM2.out.blk.get HZ.out
         clear hq hk2
         go_wp2
         go_roundw
         case rel =>
           refine ⟨i+1,out2.set q mo,hlt,by go_num,HM2.out.put (Nat.le_of_eq HG.out.symm) q HV2.out.1,?_,fun j h1 h2=>?_⟩
           · have h1:=natV_set mo HZ.out
             have h2:=HV2.out.2.1
             have hbl:b % LB ^ k=b:=Nat.mod_eq_of_lt (by rw [HK2.out,HN2.out];exact limbs_lt b)
             rw [hbl,show i+k=q by rw [HQ.out,HK2.out]] at h2
             rw [mod_succ,Nat.add_mul]
             rw [Nat.mul_zero,Nat.add_zero] at h1
             rw [h1,Nat.mul_comm (LB ^ q),h2]
             congr 1
             ac_rfl
           · rw [List.getElem?_set_ne (by have:=HQ.out;omega)]
             exact HV2.out.2.2 j (by omega) h2
         case measure=>simp [intOf];omega
   · have d1:decide (i < n1)=false:=decide_eq_false hlt
     have hi1:i=n1:=by omega
     have HSUM:=Lh (show natV out=a*b by
       rw [HV.out.1,hi1,HN1.out,Nat.mod_eq_of_lt (limbs_lt a)])
     have hat:=HM.out.blk.at_
     rw [HM.out.len] at hat
     have HT:=Lh (Trim_any (some ⟨g,0,none⟩) N N out wr _ hat HM.out.ok (by omega))
     rw [HSUM.out] at HT
     have HB9:=Lh (HBW.out.trans (HM.out.to.mono HBW.out.size))
     clear hi1 hat
     go_wp2_with ((with_reducible refine HT.out.mono ?_);rintro e w1 h_;obtain ⟨A1,n1,c1,h1_,ho1,hn1,hc1,hb1⟩:=h_.of HB9.out;cases h1_;have HO1:=Lh ho1;have HN1:=Lh hn1;have HB2:=Lh hb1;clear ho1 hn1 hb1)
     go_ret
     exact ⟨A1,n1,c1,rfl,HO1.out,HN1.out,hc1,HB2.out⟩
end Go.Proofs.YtjbabpnepjhllaaGreat
namespace Go.Proofs.YtjbabpnepjhllaaGreat
open Go.RowKit
theorem div_step {a b i q r:Nat} (hq:q=a / 2 ^ (i+1) / b) (hr:r=a / 2 ^ (i+1) % b) (hb:0 < b) :
   (2*r+(a.testBit i).toNat < b→a / 2 ^ i / b=2*q∧a / 2 ^ i % b=2*r+(a.testBit i).toNat) ∧
   (b≤2*r+(a.testBit i).toNat→a / 2 ^ i / b=2*q+1∧a / 2 ^ i % b=2*r+(a.testBit i).toNat - b)∧r < b:=by
 have h0:=Nat.mod_lt (a / 2 ^ (i+1)) hb
 rw [←hr] at h0
 have h1:a / 2 ^ (i+1)=b*q+r:=by rw [hq,hr];exact (Nat.div_add_mod _ _).symm
 have h2:a / 2 ^ i=2*(a / 2 ^ (i+1))+(a.testBit i).toNat:=by
   rw [Nat.testBit_eq_decide_div_mod_eq,Nat.pow_succ,←Nat.div_div_eq_div_mul]
   by_cases h:a / 2 ^ i % 2=1
   · rw [decide_eq_true h];simp only [Bool.toNat_true];omega
   · rw [decide_eq_false h];simp only [Bool.toNat_false];omega
 rw [h1] at h2
 have ht1:(a.testBit i).toNat≤1:=by cases a.testBit i <;> decide
 generalize (a.testBit i).toNat=t at *
 have hbb:2*(b*q+r)+t=(2*r+t)+b*(2*q):=by
   have:b*(2*q)=2*(b*q):=by rw [Nat.mul_left_comm]
   omega
 refine ⟨fun h=>?_,fun h=>?_,h0⟩
 · rw [h2,hbb,Nat.add_mul_div_left _ _ hb,Nat.add_mul_mod_self_left,Nat.div_eq_of_lt h,Nat.mod_eq_of_lt h]
   exact ⟨by omega,rfl⟩
 · have h3:(2*r+t)+b*(2*q)=(2*r+t - b)+b*(2*q+1):=by rw [Nat.mul_add,Nat.mul_one];omega
   rw [h2,hbb,h3,Nat.add_mul_div_left _ _ hb,Nat.add_mul_mod_self_left]
   have ht:2*r+t - b < b:=by omega
   rw [Nat.div_eq_of_lt ht,Nat.mod_eq_of_lt ht]
   exact ⟨by omega,rfl⟩
theorem or_bit {q i o:Nat} {l:List Nat} (hok:LimbOk l) (hv:natV l=q*2 ^ (i+1)) (ho:l[i / 64]? = some o):o ||| 2 ^ (i % 64)=o+2 ^ (i % 64)∧o+2 ^ (i % 64) < LB∧natV (l.set (i / 64) (o+2 ^ (i % 64)))=(2*q+1)*2 ^ i:=by
 obtain ⟨s,hs⟩:∃ s,s=i / 64:=⟨_,rfl⟩
 obtain ⟨r,hr⟩:∃ r,r=i % 64:=⟨_,rfl⟩
 have hi:i=64*s+r:=by omega
 have hr64:r < 64:=by omega
 rw [←hs] at ho ⊢
 rw [←hr]
 have hd:=digN_get hok s
 rw [List.getD_eq_getElem?_getD,ho] at hd
 simp only [Option.getD_some] at hd
 have hdv:∃ z,o=2 ^ (r+1)*z:=by
   rw [←hd]
   unfold digN
   rw [hv,LB_two,hi,show 64*s+r+1=64*s+(r+1) by omega,Nat.pow_add,←Nat.mul_assoc,Nat.mul_comm q,Nat.mul_assoc,Nat.mul_div_cancel_left _ (Nat.pow_pos (by decide))]
   have h2:LB=2 ^ (r+1)*2 ^ (63 - r):=by rw [←Nat.pow_add,show r+1+(63 - r)=64 by omega]
   rw [h2,Nat.mul_comm q,Nat.mul_mod_mul_left]
   exact ⟨_,rfl⟩
 obtain ⟨z,hz⟩:=hdv
 have hol:=get_ok hok ho
 have hor:o ||| 2 ^ r=o+2 ^ r:=by
   rw [hz]
   exact (Nat.two_pow_add_eq_or_of_lt (Nat.pow_lt_pow_right (by decide) (by omega)) z).symm
 refine ⟨hor,?_,?_⟩
 · rw [←hor]
   exact Nat.or_lt_two_pow (n:=64) hol (Nat.pow_lt_pow_right (by decide) hr64)
 · have h1:=natV_set (o+2 ^ r) ho
   rw [hv,Nat.mul_add] at h1
   have h2:LB ^ s*2 ^ r=2 ^ i:=by rw [LB_two,←Nat.pow_add,←hi]
   rw [h2] at h1
   have h3:(2*q+1)*2 ^ i=q*2 ^ (i+1)+2 ^ i:=by
     rw [Nat.add_mul,Nat.pow_succ,Nat.one_mul]
     congr 1
     ac_rfl
   rw [h3]
   omega
end Go.Proofs.YtjbabpnepjhllaaGreat
namespace Go.Proofs.YtjbabpnepjhllaaGreat
open Go.RowKit
set_option maxRecDepth 100000
def NatDiv (x y:Nat) (w:World) (e:Ending) (w':World):Prop:=∃ A n c A2 n2 c2,e=.returned (.tuple #[.slice A n c,.slice A2 n2 c2,.int .i64 0])∧w'.ownsRow w.heap.size 41 1 (.slice A n c) n (cellsU (limbsOf x))∧n=(limbsOf x).length∧n≤c ∧
 w'.ownsRow w.heap.size 41 1 (.slice A2 n2 c2) n2 (cellsU (limbsOf y))∧n2=(limbsOf y).length∧n2≤c2∧Below w.heap.size w w'
theorem us_free {w:World} {g base n:Nat} {A:Option Addr} {c x:Nat} (h:w.ownsRow base 41 1 (.slice A n c) n (cellsU (limbsOf x))) (hn:n=(limbsOf x).length) (hg:g < base):UsAt w (fun k=>k < w.heap.size∧k≠g) (.slice A n c) (limbsOf x):=by
 subst hn
 exact Rows.mono (us_own h) fun q hq=>⟨(own_lt h q hq).1,by have:=(own_lt h q hq).2;omega⟩
theorem free_next {w w':World} {g:Nat} {v:Value} {l:List Nat} (h:UsAt w (fun k=>k < w.heap.size∧k≠g) v l) (hb:Below w.heap.size w w'):UsAt w' (fun k=>k < w'.heap.size∧k≠g) v l :=
 (Rows.keep h (SameOn.of_below hb fun _ hk=>hk.1)).mono fun _ hk=>⟨Nat.lt_of_lt_of_le hk.1 hb.size,hk.2⟩
theorem free_put {w:World} {g p:Nat} {u v:Value} {l:List Nat} (h:UsAt w (fun k=>k < w.heap.size∧k≠g) v l):UsAt (w.setCell ⟨g,p,none⟩ u) (fun k=>k < (w.setCell ⟨g,p,none⟩ u).heap.size∧k≠g) v l:=by
 refine (Rows.keep h (fun q hq=>?_)).mono fun _ hk=>⟨by simpa using hk.1,hk.2⟩
 exact Below.heap_setCell _ _ _ _ (fun e=>hq.2 e)
theorem us_all {w:World} {g:Nat} {v:Value} {l:List Nat} (h:UsAt w (fun k=>k < w.heap.size∧k≠g) v l):UsAt w (fun k=>k < w.heap.size) v l:=Rows.mono h fun _ hk=>hk.1
theorem us_lit {w:World} {t:Nat} (h:t < LB):UsAt (w.alloc (.cells #[.int .u64 t] 41)) (fun k=>k < (w.alloc (.cells #[.int .u64 t] 41)).heap.size) (.slice (some ⟨w.heap.size,0,none⟩) 1 1) [t]∧LimbOk [t] :=
 ⟨UBlk.at_ (l:=[t]) (heap_alloc_new w _),limbOk_one h⟩
set_option maxHeartbeats 8000000 in
theorem Div_any (A B:Option Addr) (n c m d:Nat) (la lb:List Nat) (w:World) (ha:UsAt w (fun k=>k < w.heap.size) (.slice A n c) la) (hb:UsAt w (fun k=>k < w.heap.size) (.slice B m d) lb) (oka:LimbOk la) (okb:LimbOk lb) (hn:n≤400000) (hm:m≤400000) (hb0:natV lb≠0) :
   Calls Tryz.prog 101 #[.slice A n c,.slice B m d] w (NatDiv (natV la / natV lb) (natV la % natV lb) w):=by
 have hnil:UsAt w (fun k=>k < w.heap.size) (.slice none 0 0) []:=⟨none,0,rfl,by simp,by simp,fun h=>absurd rfl h⟩
 have HC0:=Lh (Compare_any B none m d 0 0 lb [] w _ hb hnil okb (fun x hx=>(nomatch hx)) (by omega) (by omega))
 have HBI:=Lh (fun (w_:World) (h_:Below w.heap.size w w_)=>Bits_any A n c la w_ _ (rows_next ha h_) oka (by omega))
 have HBT:=Lh (fun (w_:World) (h_:Below w.heap.size w w_) (i:Nat) (hi:i≤9000000000)=>Bit_any A n c la i w_ _ (rows_next ha h_) oka hi)
 have HCM:=Lh (fun (x:Nat) (w_:World) (A3:Option Addr) (n3 c3:Nat) (h_:Below w.heap.size w w_) (hu:UsAt w_ (fun k=>k < w_.heap.size) (.slice A3 n3 c3) (limbsOf x)) (h3:n3≤900000)=>Compare_any A3 B n3 c3 m d (limbsOf x) lb w_ _ hu (rows_next hb h_) (limbsOf_ok x) okb (by omega) (by omega))
 have HSU:=Lh (fun (x:Nat) (w_:World) (A3:Option Addr) (n3 c3:Nat) (h_:Below w.heap.size w w_) (hu:UsAt w_ (fun k=>k < w_.heap.size) (.slice A3 n3 c3) (limbsOf x)) (h3:n3≤900000) (hx:natV lb≤x)=>Sub_any A3 B n3 c3 m d (limbsOf x) lb w_ hu (rows_next hb h_) (limbsOf_ok x) okb (by omega) (by omega) (by rw [natV_limbs];exact hx))
 have HLN:=Lh (show natV la < 2 ^ (64*n)∧natV lb < LB ^ m from ⟨by have:=natV_lt oka;rw [←(us_len ha).1,LB_two] at this;exact this,by have:=natV_lt okb;rw [←(us_len hb).1] at this;exact this⟩)
 obtain ⟨a,hha⟩:∃ a,a=natV la:=⟨_,rfl⟩
 obtain ⟨b,hhb⟩:∃ b,b=natV lb:=⟨_,rfl⟩
 simp only [natV_limbs] at HCM HSU
 rw [←hha] at HBI HLN
 simp only [←hha] at HBT
 rw [←hhb] at HC0 HLN hb0
 simp only [←hhb] at HCM HSU
 rw [←hha,←hhb]
 rw [show cmpN b (natV [])=1 from (by show cmpN b 0=1;unfold cmpN;rw [if_neg (by omega),if_pos (by omega)])] at HC0
 have HB0:=Lh (Nat.pos_of_ne_zero hb0)
 have hbb:=bitsN_le HLN.out.1
 obtain ⟨bt,hbt⟩:∃ bt,bt=bitsN a:=⟨_,rfl⟩
 rw [←hbt] at HBI hbb
 have HBB:=Lh hbb
 have HBE:=Lh (show a / 2 ^ bt=0 from Nat.div_eq_of_lt (by rw [hbt];exact bitsN_lt a))
 have hmk:=make_u n (by omega) w
 have k1:IntKind.i64.wrap ((bt:Int) - 1)=(bt:Int) - 1:=by rw [IntKind.wrap_i64];omega
 clear ha hb oka okb hha hhb hnil hb0 hbt hbb
 go_enter Tryz.func101,Tryz.ntmps101
 go_upto_region 4 with ((with_reducible refine HC0.out.mono ?_);rintro e w1 ⟨rfl,hw⟩;subst hw)
 clear hmk HC0
 obtain ⟨g,hg⟩:∃ g,g=w.heap.size:=⟨_,rfl⟩
 obtain ⟨W,hW⟩:∃ W,W=(w.alloc (.cells (cellsU (List.replicate n 0)).toArray 41)).alloc (.cells #[] 41):=⟨_,rfl⟩
 have HM0:=Lh (show MulAt w W g a b n (List.replicate n 0) from ⟨by
   rw [hW,hg]
   have:=heap_alloc_new w (.cells (cellsU (List.replicate n 0)).toArray 41)
   exact (Below.heap_alloc _ _ _ (by simp)).trans this,by simp,fun x hx=>by rw [List.eq_of_mem_replicate hx];decide,by rw [hW];exact ((Below.refl _ _).alloc (Nat.le_refl _) _).alloc (by simp) _⟩)
 have HR0:=Lh (show UsAt W (fun k=>k < W.heap.size∧k≠g) (.slice (some ⟨w.heap.size+1,0,none⟩) 0 0) [] from ⟨_,0,rfl,by simp,by simp,fun h=>absurd rfl h⟩)
 have HG:=Lh (Nat.le_of_eq hg.symm)
 rw [←hW]
 rw [←hg] at HR0
 rw [←hg]
 clear hW hg
 have HGL0:=Lh HM0.out.to
 go_upto_region 5 with ((with_reducible refine (HBI.out W HGL0.out).mono ?_);rintro e_ w2 ⟨rfl,hb2⟩;have HB2:=Lh hb2;clear hb2)
 have HM1:=Lh (show MulAt w w2 g a b n (List.replicate n 0) from ⟨HM0.out.blk.next HB2.out,HM0.out.len,HM0.out.ok,HM0.out.to.trans (HB2.out.mono HM0.out.to.size)⟩)
 have HR1:=Lh (free_next HR0.out HB2.out)
 clear HM0 HR0 HGL0 HB2
 go_wp2
 go_loopw [8,9] (fun s8 s9 wr=>∃ (j:Nat) (Ar:Option Addr) (nr cr:Nat) (out:List Nat),j≤bt∧s9=.int .i64 ((j:Int) - 1)∧s8=.slice Ar nr cr∧UsAt wr (fun k=>k < wr.heap.size∧k≠g) (.slice Ar nr cr) (limbsOf (a / 2 ^ j % b))∧MulAt w wr g a b n out∧natV out=a / 2 ^ j / b*2 ^ j) (fun _ s9 _=>(intOf s9+1).toNat)
 case atStart=>exact ⟨bt,_,0,0,List.replicate n 0,Nat.le_refl _,rfl,rfl,by rw [HBE.out,Nat.zero_mod,limbsOf_zero];exact HR1.out,HM1.out,by rw [natV_zeros,HBE.out];simp⟩
 case round =>
   obtain ⟨j,Ar,nr,cr,out,hj,rfl,rfl,hr,hm,hv⟩:=hrel
   have HM:=Lh hm
   have HR:=Lh hr
   have HV:=Lh hv
   clear hm hr hv HM1 HR1
   rcases Nat.eq_zero_or_pos j with h0 | h0
   · subst h0
     have HSUM:=Lh (show natV out=a / b by have:=HV.out;simpa using this)
     have hat:=HM.out.blk.at_
     rw [HM.out.len] at hat
     have HTQ:=Lh (Trim_any (some ⟨g,0,none⟩) n n out wr _ hat HM.out.ok (by omega))
     rw [HSUM.out] at HTQ
     have hrl:=(us_len HR.out).1
     have HTR:=Lh (fun (w_:World) (h_:Below wr.heap.size wr w_)=>Trim_any Ar nr cr _ w_ _ (free_next HR.out h_) (limbsOf_ok _) (by
       rw [hrl]
       have:=limbs_len_le (n:=a / 2 ^ 0 % b) (k:=m) (Nat.lt_trans (Nat.mod_lt _ HB0.out) HLN.out.2)
       omega))
     rw [show natV (limbsOf (a / 2 ^ 0 % b))=a % b by rw [natV_limbs];simp] at HTR
     clear hat hrl
     go_wp2_with (first
       | ((with_reducible refine HTQ.out.mono ?_);rintro e w1 h_;obtain ⟨A1,n1,c1,h1_,ho1,hn1,hc1,hb1⟩:=h_;cases h1_;have HO1:=Lh ho1;have HN1:=Lh hn1;have HB1:=Lh hb1;clear ho1 hn1 hb1)
       | ((with_reducible refine (HTR.out _ HB1.out).mono ?_);rintro e w2 h_;obtain ⟨A2,n2,c2,h1_,ho2,hn2,hc2,hb2⟩:=h_;cases h1_;have HO2:=Lh ho2;have HN2:=Lh hn2;have HB2:=Lh hb2;clear ho2 hn2 hb2))
     go_ret3
     have hw:=HM.out.to
     have hs:=hw.size
     have hs1:=HB1.out.size
     exact ⟨A1,n1,c1,A2,n2,c2,rfl,own_base (own_kept HO1.out HB2.out) hs,HN1.out,hc1,own_base HO2.out (by omega),HN2.out,hc2,hw.trans ((HB1.out.trans (HB2.out.mono hs1)).mono hs)⟩
   · obtain ⟨i,rfl⟩:∃ i,j=i+1:=⟨j - 1,by omega⟩
     have ek:((i+1:Nat):Int) - 1=(i:Int):=by omega
     rw [ek]
     have d1:decide ((i:Int) ≥ 0)=true:=decide_eq_true (by omega)
     have d2:decide ((0:Int)≤(i:Int))=true:=decide_eq_true (by omega)
     have i1:IntKind.i64.wrap ((i:Int) - 1)=(i:Int) - 1:=by rw [IntKind.wrap_i64];have:=HBB.out;omega
     have HBR:=Lh HM.out.to
     have HGL:=Lh (show g < wr.heap.size from lt_of_block HM.out.blk)
     obtain ⟨R,hR⟩:∃ R,R=a / 2 ^ (i+1) % b:=⟨_,rfl⟩
     obtain ⟨Q,hQ⟩:∃ Q,Q=a / 2 ^ (i+1) / b:=⟨_,rfl⟩
     have HDS:=Lh (div_step hQ hR HB0.out)
     rw [←hR] at HR
     rw [←hQ] at HV
     clear hR hQ
     have HRL:=Lh (us_len HR.out).1
     have hRb:=HDS.out.2.2
     have hlr:=limbs_len_le (n:=R) (k:=m) (Nat.lt_trans hRb HLN.out.2)
     have hpow:LB ^ (m+1)=LB ^ m*LB:=Nat.pow_succ ..
     have hl2:R+R+1 < LB ^ (m+1):=by
       have:=HLN.out.2
       have h5:LB ^ m*2≤LB ^ m*LB:=Nat.mul_le_mul_left _ (by decide)
       omega
     have hlx:(limbsOf (R+R)).length≤900000:=by have:=limbs_len_le (n:=R+R) (k:=m+1) (by omega);omega
     have hlx1:(limbsOf (R+R+1)).length≤900000:=by have:=limbs_len_le hl2;omega
     have HA1:=Lh (Add_any Ar Ar nr cr nr cr _ _ wr (us_all HR.out) (us_all HR.out) (limbsOf_ok _) (limbsOf_ok _) (by rw [HRL.out];omega) (by rw [HRL.out];omega))
     rw [natV_limbs] at HA1
     have HA2:=Lh (fun (w1:World) (A1:Option Addr) (n1 c1:Nat) (h1:w1.ownsRow wr.heap.size 41 1 (.slice A1 n1 c1) n1 (cellsU (limbsOf (R+R)))) (h2:n1=(limbsOf (R+R)).length)=>Add_any A1 (some ⟨w1.heap.size,0,none⟩) n1 c1 1 1 (limbsOf (R+R)) [1] (w1.alloc (.cells #[.int .u64 1] 41)) (us_told h1 h2 ((Below.refl _ _).alloc (Nat.le_refl _) _)) (us_lit (t:=1) (by decide)).1 (limbsOf_ok _) (us_lit (w:=w1) (t:=1) (by decide)).2 (by rw [h2];exact hlx) (by omega))
     simp only [natV_limbs,show natV [1]=1 from rfl] at HA2
     obtain ⟨s,hs⟩:∃ s,s=i / 64:=⟨_,rfl⟩
     obtain ⟨r,hr⟩:∃ r,r=i % 64:=⟨_,rfl⟩
     have HS:=Lh (show i=64*s+r∧r < 64∧s < n∧i≤9000000000 from ⟨by omega,by omega,by have:=HBB.out;omega,by have:=HBB.out;omega⟩)
     obtain ⟨o,ho⟩:∃ o,out[s]? = some o:=⟨_,List.getElem?_eq_getElem (by have:=HM.out.len;have:=HS.out;omega)⟩
     have hor:=or_bit (i:=i) HM.out.ok HV.out (by rw [←hs];exact ho)
     rw [←hs,←hr] at hor
     obtain ⟨z,hz⟩:∃ z,z=2 ^ r:=⟨_,rfl⟩
     have hzl:z < 18446744073709551616:=by rw [hz];exact Nat.pow_lt_pow_right (n:=64) (a:=2) (by decide) HS.out.2.1
     have HZ:=Lh (show IntKind.u64.wrap (1*2 ^ r)=(z:Int)∧IntKind.u64.wrap (2 ^ r)=(z:Int) by
       have e1:((2:Int) ^ r)=(z:Int):=by rw [hz];simp
       rw [e1,Int.one_mul,wrapU']
       exact ⟨by omega,by omega⟩)
     rw [←hz] at hor
     have hob:=bits_or_u64_nat o z (get_ok HM.out.ok ho) hzl
     rw [hor.1] at hob
     have HOR:=Lh (And.intro hob hor.2)
     have HOO:=Lh ho
     have HI9:=Lh (show i≤9000000000 from HS.out.2.2.2)
     have hi9:i≤9000000000:=HI9.out
     have HLX0:=Lh hlx
     have HLX1:=Lh hlx1
     clear hRb hlr hpow hl2 hlx hlx1 hs hr ho hor hz hzl hob ek h0
     have HBT2:=Lh (fun (w_:World) (h_:Below w.heap.size w w_)=>HBT.out w_ h_ i HI9.out)
     cases ht:a.testBit i
     · have hx:2*R+(a.testBit i).toNat=R+R:=by rw [ht];simp only [Bool.toNat_false];omega
       rw [hx] at HDS
       rw [ht] at HBT2
       have HLX:=HLX0
       clear ht hx HLX1 HLX0 HA2
       by_cases hlt:R+R < b
       · have HLS:=Lh hlt
         clear hlt
         go_upto_region 10 with (first
           | ((with_reducible refine HA1.out.mono ?_);rintro e_ w3 ⟨A3,n3,c3,rfl,ho3,hn3,hc3,hb3⟩;have HO3:=Lh ho3;have HN3:=Lh hn3;have HB3:=Lh (HBR.out.trans (hb3.mono HBR.out.size));have HB3r:=Lh hb3;clear ho3 hn3 hb3 hc3)
           | ((with_reducible refine (HBT2.out w3 HB3.out).mono ?_);rintro e_ w4 ⟨rfl,hw4⟩;subst hw4))
         have HU3:=Lh (us_free HO3.out HN3.out HGL.out)
         have HCX:=Lh (HCM.out (R+R) w3 A3 n3 c3 HB3.out (us_all HU3.out) (by rw [HN3.out];exact HLX.out))
         obtain ⟨q,hq⟩:∃ q,q=cmpN (R+R) b:=⟨_,rfl⟩
         rw [←hq] at HCX
         have d9:decide (q ≥ (0:Int))=false:=decide_eq_false (by rw [hq];unfold cmpN;rw [if_pos (by have:=HLS.out;omega)];decide)
         have d8:decide ((0:Int)≤q)=false:=decide_eq_false (by rw [hq];unfold cmpN;rw [if_pos (by have:=HLS.out;omega)];decide)
         clear hq
         go_wp2_with ((with_reducible refine HCX.out.mono ?_);rintro e_ w5 ⟨rfl,hw5⟩;subst hw5)
         go_roundw
         case rel =>
           refine ⟨i,A3,n3,c3,out,by omega,rfl,rfl,?_,⟨HM.out.blk.next HB3r.out,HM.out.len,HM.out.ok,HM.out.to.trans (HB3r.out.mono HM.out.to.size)⟩,?_⟩
           · have h1:=HDS.out.1 HLS.out
             rw [h1.2]
             exact HU3.out
           · have h1:=HDS.out.1 HLS.out
             rw [h1.1,HV.out,Nat.pow_succ]
             ac_rfl
         case measure=>simp [intOf] <;> omega
       · have HLS2:=Lh (Nat.le_of_not_lt hlt)
         clear hlt
         go_upto_region 10 with (first
           | ((with_reducible refine HA1.out.mono ?_);rintro e_ w3 ⟨A3,n3,c3,rfl,ho3,hn3,hc3,hb3⟩;have HO3:=Lh ho3;have HN3:=Lh hn3;have HB3:=Lh (HBR.out.trans (hb3.mono HBR.out.size));have HB3r:=Lh hb3;clear ho3 hn3 hb3 hc3)
           | ((with_reducible refine (HBT2.out w3 HB3.out).mono ?_);rintro e_ w4 ⟨rfl,hw4⟩;subst hw4))
         have HU3:=Lh (us_free HO3.out HN3.out HGL.out)
         have HCX:=Lh (HCM.out (R+R) w3 A3 n3 c3 HB3.out (us_all HU3.out) (by rw [HN3.out];exact HLX.out))
         have HSX:=Lh (HSU.out (R+R) w3 A3 n3 c3 HB3.out (us_all HU3.out) (by rw [HN3.out];exact HLX.out) HLS2.out)
         obtain ⟨q,hq⟩:∃ q,q=cmpN (R+R) b:=⟨_,rfl⟩
         rw [←hq] at HCX
         have d9:decide (q ≥ (0:Int))=true:=decide_eq_true (by rw [hq];unfold cmpN;rw [if_neg (by have:=HLS2.out;omega)];split <;> decide)
         have d8:decide ((0:Int)≤q)=true:=decide_eq_true (by rw [hq];unfold cmpN;rw [if_neg (by have:=HLS2.out;omega)];split <;> decide)
         clear hq
         go_upto_region 12 with (first
           | ((with_reducible refine HCX.out.mono ?_);rintro e_ w5 ⟨rfl,hw5⟩;subst hw5)
           | ((with_reducible refine HSX.out.mono ?_);rintro e_ w6 ⟨A6,n6,c6,rfl,ho6,hn6,hc6,hb6⟩;have HO6:=Lh ho6;have HN6:=Lh hn6;have HB6:=Lh (HB3r.out.trans (hb6.mono HB3r.out.size));clear ho6 hn6 hb6 hc6))
         have HU6:=Lh (us_free (g:=g) (base:=w3.heap.size) HO6.out HN6.out (by have:=HGL.out;have:=HB3r.out.size;omega))
         have HM6:=Lh (show MulAt w w6 g a b n out from ⟨HM.out.blk.next HB6.out,HM.out.len,HM.out.ok,HM.out.to.trans (HB6.out.mono HM.out.to.size)⟩)
         obtain ⟨p0,pf⟩:=HM6.out.blk.get HOO.out
         have i21:(i:Int).tdiv 64=(s:Int):=by rw [Int.tdiv_eq_ediv_of_nonneg (by omega)];have:=HS.out;omega
         have i22:(i:Int).tmod 64=(r:Int):=by rw [Int.tmod_eq_emod_of_nonneg (by omega)];have:=HS.out;omega
         have i23:(i:Int) / 64=(s:Int):=by have:=HS.out;omega
         have i24:(i:Int) % 64=(r:Int):=by have:=HS.out;omega
         have i25:IntKind.i64.wrap (s:Int)=(s:Int):=by rw [IntKind.wrap_i64];have:=HS.out;omega
         have i26:IntKind.u64.wrap (r:Int)=(r:Int):=by rw [wrapU'];have:=HS.out;omega
         have i27:(0:Int)≤(r:Int):=by omega
         have i28:(0:Int)≤(s:Int):=by omega
         have i29:(s:Int) < (n:Int):=by have:=HS.out;omega
         have i30:IntKind.u64.wrap (1*2 ^ r)=(z:Int):=HZ.out.1
         have i31:IntKind.u64.wrap (2 ^ r)=(z:Int):=HZ.out.2
         have i32:=HOR.out.1
         go_wp2
         go_roundw
         case rel =>
           refine ⟨i,A6,n6,c6,out.set s (o+z),by omega,rfl,rfl,?_,HM6.out.put HG.out s HOR.out.2.1,?_⟩
           · have h1:=HDS.out.2.1 HLS2.out
             rw [h1.2]
             exact free_put HU6.out
           · have h1:=HDS.out.2.1 HLS2.out
             rw [h1.1]
             exact HOR.out.2.2
         case measure=>simp [intOf] <;> omega
     · have hx:2*R+(a.testBit i).toNat=R+R+1:=by rw [ht];simp only [Bool.toNat_true];omega
       rw [hx] at HDS
       rw [ht] at HBT2
       have HLX:=HLX1
       clear ht hx HLX1 HLX0
       by_cases hlt:R+R+1 < b
       · have HLS:=Lh hlt
         clear hlt
         go_upto_region 10 with (first
           | ((with_reducible refine HA1.out.mono ?_);rintro e_ w1 ⟨A1,n1,c1,rfl,ho1,hn1,hc1,hb1⟩;have HO1:=Lh ho1;have HN1:=Lh hn1;have HB1:=Lh (HBR.out.trans (hb1.mono HBR.out.size));have HB1r:=Lh hb1;clear ho1 hn1 hb1 hc1)
           | ((with_reducible refine (HBT2.out w1 HB1.out).mono ?_);rintro e_ w4 ⟨rfl,hw4⟩;subst hw4)
           | ((with_reducible refine (HA2.out w1 A1 n1 c1 HO1.out HN1.out).mono ?_);rintro e_ w3 h_;obtain ⟨A3,n3,c3,h1_,ho3,hn3,hc3,hb3⟩:=h_.of ((Below.refl w1.heap.size w1).alloc (Nat.le_refl _) _);cases h1_;have HO3:=Lh (own_base ho3 HB1r.out.size);have HN3:=Lh hn3;have HB3:=Lh (HB1.out.trans (hb3.mono HB1.out.size));have HB3r:=Lh (HB1r.out.trans (hb3.mono HB1r.out.size));clear ho3 hn3 hb3 hc3))
         have HU3:=Lh (us_free HO3.out HN3.out HGL.out)
         have HCX:=Lh (HCM.out (R+R+1) w3 A3 n3 c3 HB3.out (us_all HU3.out) (by rw [HN3.out];exact HLX.out))
         obtain ⟨q,hq⟩:∃ q,q=cmpN (R+R+1) b:=⟨_,rfl⟩
         rw [←hq] at HCX
         have d9:decide (q ≥ (0:Int))=false:=decide_eq_false (by rw [hq];unfold cmpN;rw [if_pos (by have:=HLS.out;omega)];decide)
         have d8:decide ((0:Int)≤q)=false:=decide_eq_false (by rw [hq];unfold cmpN;rw [if_pos (by have:=HLS.out;omega)];decide)
         clear hq
         go_wp2_with ((with_reducible refine HCX.out.mono ?_);rintro e_ w5 ⟨rfl,hw5⟩;subst hw5)
         go_roundw
         case rel =>
           refine ⟨i,A3,n3,c3,out,by omega,rfl,rfl,?_,⟨HM.out.blk.next HB3r.out,HM.out.len,HM.out.ok,HM.out.to.trans (HB3r.out.mono HM.out.to.size)⟩,?_⟩
           · have h1:=HDS.out.1 HLS.out
             rw [h1.2]
             exact HU3.out
           · have h1:=HDS.out.1 HLS.out
             rw [h1.1,HV.out,Nat.pow_succ]
             ac_rfl
         case measure=>simp [intOf] <;> omega
       · have HLS2:=Lh (Nat.le_of_not_lt hlt)
         clear hlt
         go_upto_region 10 with (first
           | ((with_reducible refine HA1.out.mono ?_);rintro e_ w1 ⟨A1,n1,c1,rfl,ho1,hn1,hc1,hb1⟩;have HO1:=Lh ho1;have HN1:=Lh hn1;have HB1:=Lh (HBR.out.trans (hb1.mono HBR.out.size));have HB1r:=Lh hb1;clear ho1 hn1 hb1 hc1)
           | ((with_reducible refine (HBT2.out w1 HB1.out).mono ?_);rintro e_ w4 ⟨rfl,hw4⟩;subst hw4)
           | ((with_reducible refine (HA2.out w1 A1 n1 c1 HO1.out HN1.out).mono ?_);rintro e_ w3 h_;obtain ⟨A3,n3,c3,h1_,ho3,hn3,hc3,hb3⟩:=h_.of ((Below.refl w1.heap.size w1).alloc (Nat.le_refl _) _);cases h1_;have HO3:=Lh (own_base ho3 HB1r.out.size);have HN3:=Lh hn3;have HB3:=Lh (HB1.out.trans (hb3.mono HB1.out.size));have HB3r:=Lh (HB1r.out.trans (hb3.mono HB1r.out.size));clear ho3 hn3 hb3 hc3))
         have HU3:=Lh (us_free HO3.out HN3.out HGL.out)
         have HCX:=Lh (HCM.out (R+R+1) w3 A3 n3 c3 HB3.out (us_all HU3.out) (by rw [HN3.out];exact HLX.out))
         have HSX:=Lh (HSU.out (R+R+1) w3 A3 n3 c3 HB3.out (us_all HU3.out) (by rw [HN3.out];exact HLX.out) HLS2.out)
         obtain ⟨q,hq⟩:∃ q,q=cmpN (R+R+1) b:=⟨_,rfl⟩
         rw [←hq] at HCX
         have d9:decide (q ≥ (0:Int))=true:=decide_eq_true (by rw [hq];unfold cmpN;rw [if_neg (by have:=HLS2.out;omega)];split <;> decide)
         have d8:decide ((0:Int)≤q)=true:=decide_eq_true (by rw [hq];unfold cmpN;rw [if_neg (by have:=HLS2.out;omega)];split <;> decide)
         clear hq
         go_upto_region 12 with (first
           | ((with_reducible refine HCX.out.mono ?_);rintro e_ w5 ⟨rfl,hw5⟩;subst hw5)
           | ((with_reducible refine HSX.out.mono ?_);rintro e_ w6 ⟨A6,n6,c6,rfl,ho6,hn6,hc6,hb6⟩;have HO6:=Lh ho6;have HN6:=Lh hn6;have HB6:=Lh (HB3r.out.trans (hb6.mono HB3r.out.size));clear ho6 hn6 hb6 hc6))
         have HU6:=Lh (us_free (g:=g) (base:=w3.heap.size) HO6.out HN6.out (by have:=HGL.out;have:=HB3r.out.size;omega))
         have HM6:=Lh (show MulAt w w6 g a b n out from ⟨HM.out.blk.next HB6.out,HM.out.len,HM.out.ok,HM.out.to.trans (HB6.out.mono HM.out.to.size)⟩)
         obtain ⟨p0,pf⟩:=HM6.out.blk.get HOO.out
         have i21:(i:Int).tdiv 64=(s:Int):=by rw [Int.tdiv_eq_ediv_of_nonneg (by omega)];have:=HS.out;omega
         have i22:(i:Int).tmod 64=(r:Int):=by rw [Int.tmod_eq_emod_of_nonneg (by omega)];have:=HS.out;omega
         have i23:(i:Int) / 64=(s:Int):=by have:=HS.out;omega
         have i24:(i:Int) % 64=(r:Int):=by have:=HS.out;omega
         have i25:IntKind.i64.wrap (s:Int)=(s:Int):=by rw [IntKind.wrap_i64];have:=HS.out;omega
         have i26:IntKind.u64.wrap (r:Int)=(r:Int):=by rw [wrapU'];have:=HS.out;omega
         have i27:(0:Int)≤(r:Int):=by omega
         have i28:(0:Int)≤(s:Int):=by omega
         have i29:(s:Int) < (n:Int):=by have:=HS.out;omega
         have i30:IntKind.u64.wrap (1*2 ^ r)=(z:Int):=HZ.out.1
         have i31:IntKind.u64.wrap (2 ^ r)=(z:Int):=HZ.out.2
         have i32:=HOR.out.1
         go_wp2
         go_roundw
         case rel =>
           refine ⟨i,A6,n6,c6,out.set s (o+z),by omega,rfl,rfl,?_,HM6.out.put HG.out s HOR.out.2.1,?_⟩
           · have h1:=HDS.out.2.1 HLS2.out
             rw [h1.2]
             exact free_put HU6.out
           · have h1:=HDS.out.2.1 HLS2.out
             rw [h1.1]
             exact HOR.out.2.2
         case measure=>simp [intOf] <;> omega
end Go.Proofs.YtjbabpnepjhllaaGreat
namespace Go.Proofs.YtjbabpnepjhllaaGreat
open Go.RowKit
set_option maxRecDepth 100000
structure NumAt (w:World) (A:Option Addr) (n c x:Nat):Prop where
 at_:∃ l,UsAt w (fun k=>k < w.heap.size) (.slice A n c) l∧LimbOk l∧natV l=x
 le:n≤100000
theorem NumAt.next {w w':World} {A:Option Addr} {n c x:Nat} (h:NumAt w A n c x) (hb:Below w.heap.size w w'):NumAt w' A n c x:=by
 obtain ⟨l,h1,h2,h3⟩:=h.at_
 exact ⟨⟨l,rows_next h1 hb,h2,h3⟩,h.le⟩
theorem NumAt.of {w:World} {base n:Nat} {A:Option Addr} {c x:Nat} (h:w.ownsRow base 41 1 (.slice A n c) n (cellsU (limbsOf x))) (hn:n=(limbsOf x).length) (hx:(limbsOf x).length≤100000):NumAt w A n c x :=
 ⟨⟨limbsOf x,us_mine h hn,limbsOf_ok x,natV_limbs x⟩,by rw [hn];exact hx⟩
theorem NumAt.lt {w:World} {A:Option Addr} {n c x:Nat} (h:NumAt w A n c x):x < LB ^ n:=by
 obtain ⟨l,h1,h2,h3⟩:=h.at_
 have h4:=natV_lt h2
 rw [←(us_len h1).1,h3] at h4
 exact h4
theorem NumAt.len {w:World} {A:Option Addr} {n c x:Nat} (h:NumAt w A n c x) {y:Nat} (hy:y≤x):(limbsOf y).length≤n:=limbs_len_le (Nat.lt_of_le_of_lt hy h.lt)
theorem NumAt.lit {w:World} {t:Nat} (h:t < LB):NumAt (w.alloc (.cells #[.int .u64 t] 41)) (some ⟨w.heap.size,0,none⟩) 1 1 t:=⟨⟨[t],(us_lit h).1,(us_lit (w:=w) h).2,by simp [natV]⟩,by decide⟩
def Told (x:Nat) (w:World) (e:Ending) (w':World):Prop:=∃ A n c,e=.returned (.slice A n c)∧NumAt w' A n c x∧n=(limbsOf x).length∧w'.ownsRow w.heap.size 41 1 (.slice A n c) n (cellsU (limbsOf x))∧Below w.heap.size w w'
def Told0 (x:Nat) (w:World) (e:Ending) (w':World):Prop:=∃ A n c,e=.returned (.tuple #[.slice A n c,.int .i64 0])∧NumAt w' A n c x∧n=(limbsOf x).length∧w'.ownsRow w.heap.size 41 1 (.slice A n c) n (cellsU (limbsOf x))∧Below w.heap.size w w'
theorem told_of {x:Nat} {w w':World} {e:Ending} (h:NatSay x w e w') (hx:(limbsOf x).length≤100000):Told x w e w':=by
 obtain ⟨A,n,c,h1,h2,h3,_,h5⟩:=h
 exact ⟨A,n,c,h1,.of h2 h3 hx,h3,h2,h5⟩
theorem told0_of {x:Nat} {w w':World} {e:Ending} (h:NatOk x w e w') (hx:(limbsOf x).length≤100000):Told0 x w e w':=by
 obtain ⟨A,n,c,h1,h2,h3,_,h5⟩:=h
 exact ⟨A,n,c,h1,.of h2 h3 hx,h3,h2,h5⟩
theorem Told0.from {x:Nat} {w w1 w':World} {e:Ending} (h:Told0 x w1 e w') (hb:Below w.heap.size w w1):Told0 x w e w':=by
 obtain ⟨A,n,c,h1,h2,h3,h4,h5⟩:=h
 exact ⟨A,n,c,h1,h2,h3,own_base h4 hb.size,hb.trans (h5.mono hb.size)⟩
theorem Told.from {x:Nat} {w w1 w':World} {e:Ending} (h:Told x w1 e w') (hb:Below w.heap.size w w1):Told x w e w':=by
 obtain ⟨A,n,c,h1,h2,h3,h4,h5⟩:=h
 exact ⟨A,n,c,h1,h2,h3,own_base h4 hb.size,hb.trans (h5.mono hb.size)⟩
theorem pow_le_LB {a b:Nat} (h:a≤b):LB ^ a≤LB ^ b:=Nat.pow_le_pow_right (by decide) h
section
variable {A B:Option Addr} {n c m d x y:Nat} {w:World}
theorem tAdd (hx:NumAt w A n c x) (hy:NumAt w B m d y) (hn:n≤90000) (hm:m≤90000):Calls Tryz.prog 96 #[.slice A n c,.slice B m d] w (Told (x+y) w):=by
 have hlt:(limbsOf (x+y)).length≤100000:=by
   obtain ⟨p,hp⟩:∃ p,p=max n m:=⟨_,rfl⟩
   have h1:=Nat.lt_of_lt_of_le hx.lt (pow_le_LB (show n≤p by omega))
   have h2:=Nat.lt_of_lt_of_le hy.lt (pow_le_LB (show m≤p by omega))
   have h3:LB ^ (p+1)=LB ^ p*LB:=Nat.pow_succ ..
   have h4:LB ^ p*2≤LB ^ p*LB:=Nat.mul_le_mul_left _ (by decide)
   have:=limbs_len_le (n:=x+y) (k:=p+1) (by omega)
   omega
 obtain ⟨l,h1,h2,rfl⟩:=hx.at_
 obtain ⟨l',h3,h4,rfl⟩:=hy.at_
 exact (Add_any A B n c m d l l' w h1 h3 h2 h4 (by omega) (by omega)).mono fun e w' h=>told_of h hlt
theorem tSub (hx:NumAt w A n c x) (hy:NumAt w B m d y) (hxy:y≤x):Calls Tryz.prog 99 #[.slice A n c,.slice B m d] w (Told0 (x - y) w):=by
 have hlt:=Nat.le_trans (hx.len (Nat.sub_le x y)) hx.le
 have hn:=hx.le
 have hm:=hy.le
 obtain ⟨l,h1,h2,rfl⟩:=hx.at_
 obtain ⟨l',h3,h4,rfl⟩:=hy.at_
 exact (Sub_any A B n c m d l l' w h1 h3 h2 h4 (by omega) (by omega) hxy).mono fun e w' h=>told0_of h hlt
theorem tMul (hx:NumAt w A n c x) (hy:NumAt w B m d y) (hn:n+m≤100000):Calls Tryz.prog 100 #[.slice A n c,.slice B m d] w (Told (x*y) w):=by
 have hlt:(limbsOf (x*y)).length≤100000:=by
   refine Nat.le_trans (limbs_len_le ?_) hn
   rw [Nat.pow_add]
   exact Nat.mul_lt_mul'' hx.lt hy.lt
 obtain ⟨l,h1,h2,rfl⟩:=hx.at_
 obtain ⟨l',h3,h4,rfl⟩:=hy.at_
 exact (Mul_any A B n c m d l l' w h1 h3 h2 h4 (by omega) (by omega)).mono fun e w' h=>told_of h hlt
theorem tCompare (hx:NumAt w A n c x) (hy:NumAt w B m d y):Calls Tryz.prog 73 #[.slice A n c,.slice B m d] w fun e w'=>e=.returned (.int .i64 (cmpN x y))∧w=w':=by
 have hn:=hx.le
 have hm:=hy.le
 obtain ⟨l,h1,h2,rfl⟩:=hx.at_
 obtain ⟨l',h3,h4,rfl⟩:=hy.at_
 exact Compare_any A B n c m d l l' w _ h1 h3 h2 h4 (by omega) (by omega)
theorem tBit (hx:NumAt w A n c x) (i:Nat) (hi:i≤9000000000):Calls Tryz.prog 71 #[.slice A n c,.int .i64 i] w fun e w'=>e=.returned (.bool (x.testBit i))∧w=w':=by
 obtain ⟨l,h1,h2,rfl⟩:=hx.at_
 exact Bit_any A n c l i w _ h1 h2 hi
theorem tBits (hx:NumAt w A n c x):Calls Tryz.prog 124 #[.slice A n c] w fun e w'=>e=.returned (.int .i64 (bitsN x:Nat))∧Below w.heap.size w w':=by
 have hn:=hx.le
 obtain ⟨l,h1,h2,rfl⟩:=hx.at_
 exact Bits_any A n c l w _ h1 h2 (by omega)
theorem tTrim (hx:NumAt w A n c x):Calls Tryz.prog 45 #[.slice A n c] w (Told x w):=by
 have hn:=hx.le
 have hlt:=Nat.le_trans (hx.len (Nat.le_refl x)) hx.le
 obtain ⟨l,h1,h2,rfl⟩:=hx.at_
 exact (Trim_any A n c l w _ h1 h2 (by omega)).mono fun e w' h=>told_of h hlt
theorem tLow (hx:NumAt w A n c x) (k:Nat) (hk:k≤1000000):Calls Tryz.prog 97 #[.slice A n c,.int .i64 k] w (Told (x % LB ^ k) w):=by
 have hn:=hx.le
 have hlt:=Nat.le_trans (hx.len (Nat.mod_le x (LB ^ k))) hx.le
 obtain ⟨l,h1,h2,rfl⟩:=hx.at_
 exact (Low_any A n c l k w _ h1 h2 (by omega) hk).mono fun e w' h=>told_of h hlt
def Told2 (x y:Nat) (w:World) (e:Ending) (w':World):Prop:=∃ A n c A2 n2 c2,e=.returned (.tuple #[.slice A n c,.slice A2 n2 c2,.int .i64 0])∧NumAt w' A n c x∧NumAt w' A2 n2 c2 y∧n2=(limbsOf y).length∧w'.ownsRow w.heap.size 41 1 (.slice A2 n2 c2) n2 (cellsU (limbsOf y))∧Below w.heap.size w w'∧n=(limbsOf x).length
theorem tDiv (hx:NumAt w A n c x) (hy:NumAt w B m d y) (h0:y≠0):Calls Tryz.prog 101 #[.slice A n c,.slice B m d] w (Told2 (x / y) (x % y) w):=by
 have hn:=hx.le
 have hm:=hy.le
 have hlt1:=Nat.le_trans (hx.len (Nat.div_le_self x y)) hx.le
 have hlt2:=Nat.le_trans (hx.len (Nat.mod_le x y)) hx.le
 obtain ⟨l,h1,h2,rfl⟩:=hx.at_
 obtain ⟨l',h3,h4,rfl⟩:=hy.at_
 refine (Div_any A B n c m d l l' w h1 h3 h2 h4 (by omega) (by omega) h0).mono fun e w' h=>?_
 obtain ⟨A1,n1,c1,A2,n2,c2,g1,g2,g3,_,g5,g6,_,g8⟩:=h
 exact ⟨A1,n1,c1,A2,n2,c2,g1,.of g2 g3 hlt1,.of g5 g6 hlt2,g6,g5,g8,g3⟩
end
set_option maxHeartbeats 2000000 in
theorem tRest {A B:Option Addr} {n c m d x y:Nat} {w:World} (hx:NumAt w A n c x) (hy:NumAt w B m d y) (h0:y≠0):Calls Tryz.prog 125 #[.slice A n c,.slice B m d] w (Told0 (x % y) w):=by
 have HD:=Lh (tDiv hx hy h0)
 clear hx hy h0
 go_enter Tryz.func125,Tryz.ntmps125
 go_wp2_with ((with_reducible refine HD.out.mono ?_);rintro e w1 ⟨A1,n1,c1,A2,n2,c2,rfl,h1,h2,h3,h4,hb,_⟩;have H2:=Lh h2;have H3:=Lh h3;have H4:=Lh h4;have HB:=Lh hb;clear h1 h2 h3 h4 hb)
 go_ret2
 exact ⟨A2,n2,c2,rfl,H2.out,H3.out,H4.out,HB.out⟩
set_option maxHeartbeats 2000000 in
theorem tAddm {A B C:Option Addr} {n c m d q r x y z:Nat} {w:World} (hx:NumAt w A n c x) (hy:NumAt w B m d y) (hz:NumAt w C q r z) (h0:z≠0) (hn:n≤90000) (hm:m≤90000):Calls Tryz.prog 102 #[.slice A n c,.slice B m d,.slice C q r] w (Told0 ((x+y) % z) w):=by
 have HA:=Lh (tAdd hx hy hn hm)
 have HZ:=Lh hz
 have H0:=Lh h0
 clear hx hy hz h0 hn hm
 go_enter Tryz.func102,Tryz.ntmps102
 go_wp2_with (first
   | ((with_reducible refine HA.out.mono ?_);rintro e w1 ⟨A1,n1,c1,rfl,h1,h2,h3,hb⟩;have H1:=Lh h1;have HB:=Lh hb;clear h1 h2 h3 hb)
   | ((with_reducible refine (tRest H1.out (HZ.out.next HB.out) H0.out).mono ?_);rintro e w2 h_;obtain ⟨A2,n2,c2,h1_,h2,h3,h4,hb⟩:=h_.from HB.out;cases h1_;have H2:=Lh h2;have H3:=Lh h3;have H4:=Lh h4;have HB2:=Lh hb;clear h2 h3 h4 hb))
 go_ret2
 exact ⟨A2,n2,c2,rfl,H2.out,H3.out,H4.out,HB2.out⟩
set_option maxHeartbeats 2000000 in
theorem tMulm {A B C:Option Addr} {n c m d q r x y z:Nat} {w:World} (hx:NumAt w A n c x) (hy:NumAt w B m d y) (hz:NumAt w C q r z) (h0:z≠0) (hn:n+m≤100000):Calls Tryz.prog 129 #[.slice A n c,.slice B m d,.slice C q r] w (Told0 (x*y % z) w):=by
 have HA:=Lh (tMul hx hy hn)
 have HZ:=Lh hz
 have H0:=Lh h0
 clear hx hy hz h0 hn
 go_enter Tryz.func129,Tryz.ntmps129
 go_wp2_with (first
   | ((with_reducible refine HA.out.mono ?_);rintro e w1 ⟨A1,n1,c1,rfl,h1,h2,h3,hb⟩;have H1:=Lh h1;have HB:=Lh hb;clear h1 h2 h3 hb)
   | ((with_reducible refine (tRest H1.out (HZ.out.next HB.out) H0.out).mono ?_);rintro e w2 h_;obtain ⟨A2,n2,c2,h1_,h2,h3,h4,hb⟩:=h_.from HB.out;cases h1_;have H2:=Lh h2;have H3:=Lh h3;have H4:=Lh h4;have HB2:=Lh hb;clear h2 h3 h4 hb))
 go_ret2
 exact ⟨A2,n2,c2,rfl,H2.out,H3.out,H4.out,HB2.out⟩
end Go.Proofs.YtjbabpnepjhllaaGreat
namespace Go.Proofs.YtjbabpnepjhllaaGreat
open Go.RowKit
set_option maxRecDepth 100000
set_option maxHeartbeats 2000000 in
theorem tSubm {A B C:Option Addr} {n c m d q r x y z:Nat} {w:World} (hx:NumAt w A n c x) (hy:NumAt w B m d y) (hz:NumAt w C q r z) (h0:z≠0) (hn:n≤90000) (hq:q≤90000):Calls Tryz.prog 103 #[.slice A n c,.slice B m d,.slice C q r] w (Told0 ((x % z+z - y % z) % z) w):=by
 have HX:=Lh (tRest hx hz h0)
 have HY:=Lh (fun (w1:World) (h:Below w.heap.size w w1)=>tRest (hy.next h) (hz.next h) h0)
 have HZ:=Lh hz
 have H0:=Lh h0
 have HLN:=Lh (show (limbsOf (x % z)).length≤90000 from Nat.le_trans (hx.len (Nat.mod_le x z)) hn)
 have HLT:=Lh (show y % z≤x % z+z from by have:=Nat.mod_lt y (Nat.pos_of_ne_zero h0);omega)
 have HQ:=Lh hq
 clear hx hy hz h0 hn hq
 go_enter Tryz.func103,Tryz.ntmps103
 go_upto_region 4 with ((with_reducible refine HX.out.mono ?_);rintro e w1 ⟨A1,n1,c1,rfl,h1,hn1,h3,hb⟩;have H1:=Lh h1;have HN1:=Lh hn1;have HB1:=Lh hb;clear h1 hn1 h3 hb)
 go_upto_region 5 with ((with_reducible refine (HY.out _ HB1.out).mono ?_);rintro e w2 ⟨A2,n2,c2,rfl,h1,hn1,h3,hb⟩;have H2:=Lh h1;have HB2:=Lh hb;clear h1 hn1 h3 hb)
 have HB12:=Lh (HB1.out.trans (HB2.out.mono HB1.out.size))
 have HA:=Lh (tAdd (H1.out.next HB2.out) (HZ.out.next HB12.out) (by rw [HN1.out];exact HLN.out) HQ.out)
 go_wp2_with (first
   | ((with_reducible refine HA.out.mono ?_);rintro e w3 ⟨A3,n3,c3,rfl,h1,hn1,h3,hb⟩;have H3:=Lh h1;have HB3:=Lh hb;clear h1 hn1 h3 hb)
   | ((with_reducible refine (tSub H3.out (H2.out.next HB3.out) HLT.out).mono ?_);rintro e w4 ⟨A4,n4,c4,rfl,h1,hn1,h3,hb⟩;have H4:=Lh h1;have HB4:=Lh (HB12.out.trans ((HB3.out.trans (hb.mono HB3.out.size)).mono HB12.out.size));clear h1 hn1 h3 hb)
   | ((with_reducible refine (tRest H4.out (HZ.out.next HB4.out) H0.out).mono ?_);rintro e w5 h_;obtain ⟨A5,n5,c5,h1_,h2,h3,h4,hb⟩:=h_.from HB4.out;cases h1_;have H5:=Lh h2;have H6:=Lh h3;have H7:=Lh h4;have HB5:=Lh hb;clear h2 h3 h4 hb))
 go_ret2
 exact ⟨A5,n5,c5,rfl,H5.out,H6.out,H7.out,HB5.out⟩
theorem pow_step {x z e i:Nat}:(x ^ (e / 2 ^ (i+1)) % z*(x ^ (e / 2 ^ (i+1)) % z) % z*(if e.testBit i then x else 1)) % z=x ^ (e / 2 ^ i) % z:=by
 have h2:e / 2 ^ i=2*(e / 2 ^ (i+1))+(e.testBit i).toNat:=by
   rw [Nat.testBit_eq_decide_div_mod_eq,Nat.pow_succ,←Nat.div_div_eq_div_mul]
   by_cases h:e / 2 ^ i % 2=1
   · rw [decide_eq_true h];simp only [Bool.toNat_true];omega
   · rw [decide_eq_false h];simp only [Bool.toNat_false];omega
 rw [h2]
 generalize e / 2 ^ (i+1)=q
 rw [Nat.pow_add,Nat.two_mul,Nat.pow_add]
 generalize x ^ q=p
 have h3:x ^ (e.testBit i).toNat=if e.testBit i then x else 1:=by cases e.testBit i <;> simp
 rw [h3]
 generalize (if e.testBit i=true then x else 1)=t
 rw [←Nat.mul_mod,Nat.mod_mul_mod]
set_option maxHeartbeats 4000000 in
theorem tPow {A B C:Option Addr} {n c m d q r x y z:Nat} {w:World} (hx:NumAt w A n c x) (hy:NumAt w B m d y) (hz:NumAt w C q r z) (h0:z≠0) (hn:n≤40000) (hq:q≤40000):Calls Tryz.prog 105 #[.slice A n c,.slice B m d,.slice C q r] w (Told0 (x ^ y % z) w):=by
 have HX:=Lh hx
 have HY:=Lh hy
 have HZ:=Lh hz
 have H0:=Lh h0
 have HL:=Lh (And.intro hn hq)
 have hbn:bitsN y≤64*m:=bitsN_le (by have:=hy.lt;rw [LB_two] at this;exact this)
 have hmm:=hy.le
 obtain ⟨bt,hbt⟩:∃ bt,bt=bitsN y:=⟨_,rfl⟩
 have HBT:=Lh (show ∀ w1,Below w.heap.size w w1→Calls Tryz.prog 124 #[.slice B m d] w1 fun e w'=>e=.returned (.int .i64 (bt:Nat))∧Below w1.heap.size w1 w' from fun w1 h=>by rw [hbt];exact tBits (hy.next h))
 have HB9:=Lh (show bt≤64*m∧m≤100000 from ⟨by rw [hbt];exact hbn,hmm⟩)
 have HE0:=Lh (show y / 2 ^ bt=0 from Nat.div_eq_of_lt (by rw [hbt];exact bitsN_lt y))
 have HR1:=Lh (show Calls Tryz.prog 125 #[.slice (some ⟨w.heap.size,0,none⟩) 1 1,.slice C q r] (w.alloc (.cells #[.int .u64 1] 41)) (Told0 (1 % z) (w.alloc (.cells #[.int .u64 1] 41))) from tRest (NumAt.lit (w:=w) (t:=1) (by decide)) (hz.next ((Below.refl _ _).alloc (Nat.le_refl _) _)) h0)
 have k1:IntKind.i64.wrap ((bt:Int) - 1)=(bt:Int) - 1:=by rw [IntKind.wrap_i64];have:=HB9.out;omega
 clear hx hy hz h0 hn hq hbn hmm hbt
 go_enter Tryz.func105,Tryz.ntmps105
 go_upto_region 4 with ((with_reducible refine HR1.out.mono ?_);rintro e w1 h_;obtain ⟨A1,n1,c1,h1_,h1,hn1,h3,hb⟩:=h_.from ((Below.refl w.heap.size w).alloc (Nat.le_refl _) _);cases h1_;have H1:=Lh h1;have HO1:=Lh h3;have HN1:=Lh hn1;have HB1:=Lh hb;clear h1 hn1 h3 hb)
 go_upto_region 5 with ((with_reducible refine (HBT.out _ HB1.out).mono ?_);rintro e w2 ⟨rfl,hb⟩;have HB2:=Lh hb;clear hb)
 go_wp2
 go_loopw [8,10] (fun s8 s10 wr=>∃ (j:Nat) (Ar:Option Addr) (nr cr:Nat),j≤bt∧s10=.int .i64 ((j:Int) - 1)∧s8=.slice Ar nr cr∧NumAt wr Ar nr cr (x ^ (y / 2 ^ j) % z)∧nr=(limbsOf (x ^ (y / 2 ^ j) % z)).length∧wr.ownsRow w.heap.size 41 1 (.slice Ar nr cr) nr (cellsU (limbsOf (x ^ (y / 2 ^ j) % z)))∧Below w.heap.size w wr) (fun _ s10 _=>(intOf s10+1).toNat)
 case atStart=>exact ⟨bt,A1,n1,c1,Nat.le_refl _,rfl,rfl,by rw [HE0.out,Nat.pow_zero];exact H1.out.next HB2.out,by rw [HE0.out,Nat.pow_zero];exact HN1.out,by rw [HE0.out,Nat.pow_zero];exact own_kept HO1.out HB2.out,HB1.out.trans (HB2.out.mono HB1.out.size)⟩
 case round =>
   obtain ⟨j,Ar,nr,cr,hj,rfl,rfl,hr,hnr,hor,hbr⟩:=hrel
   have HR:=Lh hr
   have HNR:=Lh hnr
   have HOR:=Lh hor
   have HBR:=Lh hbr
   clear hr hnr hor hbr H1 HN1 HO1
   rcases Nat.eq_zero_or_pos j with h0 | h0
   · subst h0
     have e1:x ^ (y / 2 ^ 0) % z=x ^ y % z:=by simp
     go_wp2
     go_ret2
     exact ⟨Ar,nr,cr,rfl,by rw [←e1];exact HR.out,by rw [←e1];exact HNR.out,by rw [←e1];exact HOR.out,HBR.out⟩
   · obtain ⟨i,rfl⟩:∃ i,j=i+1:=⟨j - 1,by omega⟩
     have ek:((i+1:Nat):Int) - 1=(i:Int):=by omega
     rw [ek]
     have d1:decide ((i:Int) ≥ 0)=true:=decide_eq_true (by omega)
     have d2:decide ((0:Int)≤(i:Int))=true:=decide_eq_true (by omega)
     have i1:IntKind.i64.wrap ((i:Int) - 1)=(i:Int) - 1:=by rw [IntKind.wrap_i64];have:=HB9.out;omega
     have HPS:=Lh (pow_step (x:=x) (z:=z) (e:=y) (i:=i))
     have hlen:nr≤40000:=by
       have h1:=HZ.out.len (Nat.le_of_lt (Nat.mod_lt (x ^ (y / 2 ^ (i+1))) (Nat.pos_of_ne_zero H0.out)))
       have h2:=HNR.out
       have h3:=HL.out
       omega
     have HM:=Lh (tMulm HR.out HR.out (HZ.out.next HBR.out) H0.out (by omega))
     have HBIT:=Lh (fun (w1:World) (h:Below w.heap.size w w1)=>tBit (HY.out.next h) i (by have:=HB9.out;omega))
     obtain ⟨P,hP⟩:∃ P,P=x ^ (y / 2 ^ (i+1)) % z:=⟨_,rfl⟩
     rw [←hP] at HM HPS
     have HPL:=Lh (show (limbsOf (P*P % z)).length≤40000 by
       have h1:=HZ.out.len (Nat.le_of_lt (Nat.mod_lt (P*P) (Nat.pos_of_ne_zero H0.out)))
       have h3:=HL.out
       omega)
     clear hP ek h0 HR HOR HNR
     cases hb:y.testBit i
     · rw [hb] at HPS
       simp only [Bool.false_eq_true,if_false,Nat.mul_one,Nat.mod_mod] at HPS
       have HBI:=Lh (fun (w1:World) (h:Below w.heap.size w w1)=>(by have:=HBIT.out w1 h;rw [hb] at this;exact this:Calls Tryz.prog 71 #[.slice B m d,.int .i64 i] w1 fun e w'=>e=.returned (.bool false)∧w1=w'))
       clear hb
       go_wp2_with (first
         | ((with_reducible refine HM.out.mono ?_);rintro e w3 ⟨A3,n3,c3,rfl,h1,hn1,h3,hb⟩;have H3:=Lh h1;have HN3:=Lh hn1;have HO3:=Lh (own_base h3 HBR.out.size);have HB3:=Lh (HBR.out.trans (hb.mono HBR.out.size));clear h1 hn1 h3 hb)
         | ((with_reducible refine (HBI.out _ HB3.out).mono ?_);rintro e w4 ⟨rfl,hw⟩;subst hw))
       go_roundw
       case rel=>exact ⟨i,A3,n3,c3,by omega,rfl,rfl,by rw [←HPS.out];exact H3.out,by rw [←HPS.out];exact HN3.out,by rw [←HPS.out];exact HO3.out,HB3.out⟩
       case measure=>simp [intOf] <;> omega
     · rw [hb] at HPS
       simp only [if_true] at HPS
       have HBI:=Lh (fun (w1:World) (h:Below w.heap.size w w1)=>(by have:=HBIT.out w1 h;rw [hb] at this;exact this:Calls Tryz.prog 71 #[.slice B m d,.int .i64 i] w1 fun e w'=>e=.returned (.bool true)∧w1=w'))
       clear hb
       go_wp2_with (first
         | ((with_reducible refine HM.out.mono ?_);rintro e w3 ⟨A3,n3,c3,rfl,h1,hn1,h3,hb⟩;have H3:=Lh h1;have HN3:=Lh hn1;have HB3:=Lh (HBR.out.trans (hb.mono HBR.out.size));clear h1 hn1 h3 hb)
         | ((with_reducible refine (HBI.out _ HB3.out).mono ?_);rintro e w4 ⟨rfl,hw⟩;subst hw)
         | ((with_reducible refine (tMulm H3.out (HX.out.next HB3.out) (HZ.out.next HB3.out) H0.out (by have:=HN3.out;have:=HPL.out;have:=HL.out;omega)).mono ?_);rintro e w5 ⟨A5,n5,c5,rfl,h1,hn1,h3,hb⟩;have H5:=Lh h1;have HN5:=Lh hn1;have HO5:=Lh (own_base h3 HB3.out.size);have HB5:=Lh (HB3.out.trans (hb.mono HB3.out.size));clear h1 hn1 h3 hb))
       go_roundw
       case rel=>exact ⟨i,A5,n5,c5,by omega,rfl,rfl,by rw [←HPS.out];exact H5.out,by rw [←HPS.out];exact HN5.out,by rw [←HPS.out];exact HO5.out,HB5.out⟩
       case measure=>simp [intOf] <;> omega
end Go.Proofs.YtjbabpnepjhllaaGreat
namespace Go.Proofs.YtjbabpnepjhllaaGreat
def Cg (n:Nat) (a b:Int):Prop:=(n:Int) ∣ a - b
theorem Cg.refl (n:Nat) (a:Int):Cg n a a:=⟨0,by simp⟩
theorem Cg.trans {n:Nat} {a b c:Int} (h:Cg n a b) (h':Cg n b c):Cg n a c:=by
 have:=Int.dvd_add h h'
 unfold Cg
 rwa [show a - b+(b - c)=a - c by omega] at this
theorem Cg.symm {n:Nat} {a b:Int} (h:Cg n a b):Cg n b a:=by
 have:=Int.dvd_neg.2 h
 unfold Cg
 rwa [show -(a - b)=b - a by omega] at this
theorem Cg.add {n:Nat} {a b c d:Int} (h:Cg n a b) (h':Cg n c d):Cg n (a+c) (b+d):=by
 have:=Int.dvd_add h h'
 unfold Cg
 rwa [show a - b+(c - d)=a+c - (b+d) by omega] at this
def egN (n u v s t:Nat):Nat:=if _h:v=0 then s else egN n v (u % v) t ((s % n+n - u / v*t % n % n) % n)
termination_by v
decreasing_by exact Nat.mod_lt _ (Nat.pos_of_ne_zero _h)
theorem egN_zero (n u s t:Nat):egN n u 0 s t=s:=by rw [egN];simp
theorem egN_next {n u v s t:Nat} (h:v≠0):egN n u v s t=egN n v (u % v) t ((s % n+n - u / v*t % n % n) % n):=by rw [egN];simp [h]
def invN (a n:Nat):Nat:=egN n n (a % n) 0 1 % n
def montN (t n k:Nat):Nat:=t*invN (LB ^ k % n) n % n
theorem montN_lt {t n k:Nat} (h:0 < n):montN t n k < n:=Nat.mod_lt _ h
theorem odd_gcd {n:Nat} (h:n % 2=1) (k:Nat):Nat.gcd (LB ^ k % n) n=1:=by
 rw [←Nat.gcd_rec,Nat.gcd_comm]
 have h2:Nat.gcd 2 n=1:=by rw [Nat.gcd_rec,h];rfl
 have h64:LB=2 ^ 64:=rfl
 rw [h64,←Nat.pow_mul]
 exact Nat.Coprime.pow_left _ h2
end Go.Proofs.YtjbabpnepjhllaaGreat
