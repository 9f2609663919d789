/- Part 5 of a claim; what it proves stands in its last text. -/
import Derived.Test.YtjbabpnepjhllaaGreatSx4
import Derived.Test.YtjbabpnepjhllaaGreatSx2
namespace Go.Proofs.YtjbabpnepjhllaaGreat
open Go.RowKit
set_option maxRecDepth 100000
theorem us_uniq {w:World} {F G:Nat→Prop} {A:Option Addr} {n c:Nat} {l l':List Nat} (h:UsAt w F (.slice A n c) l) (h':UsAt w G (.slice A n c) l'):l=l':=by
 have h1:=(us_len h).1
 have h2:=(us_len h').1
 refine List.ext_getElem? fun i=>?_
 rcases Nat.lt_or_ge i n with hi | hi
 · obtain ⟨x,hx⟩:∃ x,l[i]? = some x:=⟨_,List.getElem?_eq_getElem (by omega)⟩
   obtain ⟨y,hy⟩:∃ y,l'[i]? = some y:=⟨_,List.getElem?_eq_getElem (by omega)⟩
   obtain ⟨b,o,hA,_,p0⟩:=h.at_ hx
   obtain ⟨b',o',hA',_,p1⟩:=h'.at_ hy
   rw [hA] at hA'
   simp only [Option.some.injEq,Addr.mk.injEq,and_true] at hA'
   obtain ⟨rfl,rfl⟩:=hA'
   rw [p0] at p1
   simp only [Option.some.injEq,Value.int.injEq,true_and] at p1
   rw [hx,hy,show x=y by omega]
 · rw [List.getElem?_eq_none (by omega),List.getElem?_eq_none (by omega)]
theorem num_uniq {w:World} {A:Option Addr} {n c x y:Nat} (h:NumAt w A n c x) (h':NumAt w A n c y):x=y:=by
 obtain ⟨l,h1,_,h3⟩:=h.at_
 obtain ⟨l',h1',_,h3'⟩:=h'.at_
 rw [←h3,←h3',us_uniq h1 h1']
noncomputable def numOf (v:Value) (w:World):Nat :=
 match v with
 | .slice A n c=>by classical exact if h:∃ x,NumAt w A n c x then Classical.choose h else 0
 | _=>0
theorem numOf_eq {w:World} {A:Option Addr} {n c x:Nat} (h:NumAt w A n c x):numOf (.slice A n c) w=x:=by
 unfold numOf
 have hx:∃ x,NumAt w A n c x:=⟨x,h⟩
 simp only
 rw [dif_pos hx]
 exact num_uniq (Classical.choose_spec hx) h
set_option maxHeartbeats 2000000 in
theorem tSame {A B:Option Addr} {n c m d x y:Nat} {w:World} (hx:NumAt w A n c x) (hy:NumAt w B m d y):Calls Tryz.prog 149 #[.slice A n c,.slice B m d] w fun e w'=>e=.returned (.bool (x == y))∧w=w':=by
 have HC:=Lh (tCompare hx hy)
 have h1:(cmpN x y == 0)=(x == y):=by
   unfold cmpN
   rw [Bool.eq_iff_iff,beq_iff_eq,beq_iff_eq]
   split
   · omega
   · split <;> omega
 obtain ⟨q,hq⟩:∃ q,q=cmpN x y:=⟨_,rfl⟩
 obtain ⟨b,hb⟩:∃ b,b=(x == y):=⟨_,rfl⟩
 rw [←hq,←hb] at h1
 rw [←hq] at HC
 rw [←hb]
 clear hq hb hx hy
 go_enter Tryz.func149,Tryz.ntmps149
 go_wp2_with ((with_reducible refine HC.out.mono ?_);rintro e w1 ⟨rfl,hw⟩;subst hw)
 go_ret
 exact ⟨rfl,rfl⟩
set_option maxHeartbeats 2000000 in
theorem tOdd {A:Option Addr} {n c x:Nat} {w:World} (hx:NumAt w A n c x):Calls Tryz.prog 127 #[.slice A n c] w fun e w'=>e=.returned (.bool (x % 2 == 1))∧w=w':=by
 obtain ⟨l,h1,h2,rfl⟩:=hx.at_
 have hn:=(us_len h1).1
 cases l with
 | nil =>
   have h0:n=0:=hn
   subst h0
   clear hx h1 h2 hn
   go_enter Tryz.func127,Tryz.ntmps127
   go_wp2
   go_ret
   exact ⟨rfl,rfl⟩
 | cons y r =>
   obtain ⟨b,o,rfl,_,p0⟩:=UsAt.at_ (k:=0) (x:=y) h1 rfl
   have p1:w.cell? ⟨b,o,none⟩=some (.int .u64 y):=by simpa using p0
   rw [List.length_cons] at hn
   have i0:0 < n:=by omega
   have i1:(0:Int) < (n:Int):=by omega
   have i2:decide (0 < n)=true:=decide_eq_true i0
   have e1:natV (y :: r) % 2=y % 2:=by
     simp only [natV,LB]
     omega
   rw [e1]
   obtain ⟨z,hz⟩:∃ z,z=y % 2:=⟨_,rfl⟩
   rw [←hz]
   have e2:(y:Int) % 2=(z:Int):=by omega
   have e4:(y:Int).tmod 2=(z:Int):=by rw [Int.tmod_eq_emod_of_nonneg (by omega)];omega
   have e3:((z:Int) == 1)=(z == 1):=by rw [Bool.eq_iff_iff,beq_iff_eq,beq_iff_eq];omega
   obtain ⟨t,ht⟩:∃ t,t=(z == 1):=⟨_,rfl⟩
   rw [←ht] at e3
   rw [←ht]
   clear hx h1 h2 hn e1 hz ht
   go_enter Tryz.func127,Tryz.ntmps127
   go_wp2
   go_ret
   exact ⟨rfl,rfl⟩
set_option maxHeartbeats 2000000 in
theorem tGcd {A B:Option Addr} {n c m d x y:Nat} {w:World} (hx:NumAt w A n c x) (hy:NumAt w B m d y):Calls Tryz.prog 150 #[.slice A n c,.slice B m d] w (Told (Nat.gcd x y) w):=by
 have HX:=Lh (tTrim hx)
 have HY:=Lh (fun (w1:World) (h:Below w.heap.size w w1)=>tTrim (hy.next h))
 clear hx hy
 go_enter Tryz.func150,Tryz.ntmps150
 go_upto_region 2 with (first
   | ((with_reducible refine HX.out.mono ?_);rintro e w1 ⟨A1,n1,c1,rfl,h1,hn1,h3,hb⟩;have H1:=Lh h1;have HN1:=Lh hn1;have HO1:=Lh h3;have HB1:=Lh hb;clear h1 hn1 h3 hb)
   | ((with_reducible refine (HY.out _ HB1.out).mono ?_);rintro e w2 ⟨A2,n2,c2,rfl,h1,hn1,h3,hb⟩;have H2:=Lh h1;have HN2:=Lh hn1;have HO2:=Lh (own_base h3 HB1.out.size);have HB2:=Lh hb;clear h1 hn1 h3 hb))
 go_loopw [0,1,5,6,7] (fun s0 s1 _ _ _ wr=>∃ (u v:Nat) (A:Option Addr) (n c:Nat) (B:Option Addr) (m d:Nat),s0=.slice A n c∧s1=.slice B m d∧NumAt wr A n c u∧NumAt wr B m d v∧n=(limbsOf u).length∧m=(limbsOf v).length∧wr.ownsRow w.heap.size 41 1 (.slice A n c) n (cellsU (limbsOf u))∧wr.ownsRow w.heap.size 41 1 (.slice B m d) m (cellsU (limbsOf v))∧Nat.gcd x y=Nat.gcd u v∧Below w.heap.size w wr) (fun _ s1 _ _ _ wr=>numOf s1 wr)
 case atStart=>exact ⟨x,y,A1,n1,c1,A2,n2,c2,rfl,rfl,H1.out.next HB2.out,H2.out,HN1.out,HN2.out,own_kept HO1.out HB2.out,HO2.out,rfl,HB1.out.trans (HB2.out.mono HB1.out.size)⟩
 case round =>
   obtain ⟨u,v,A,n,c,B,m,d,rfl,rfl,hu,hv,hnu,hnv,hou,hov,hg,hbr⟩:=hrel
   have HU:=Lh hu
   have HV:=Lh hv
   have HNU:=Lh hnu
   have HNV:=Lh hnv
   have HOU:=Lh hou
   have HOV:=Lh hov
   have HG:=Lh hg
   have HBR:=Lh hbr
   clear hu hv hnu hnv hou hov hg hbr H1 H2 HN1 HN2 HO1 HO2 HB1 HB2
   rcases Nat.eq_zero_or_pos m with h0 | h0
   · have hv0:v=0:=limbs_len_zero.1 (by have:=HNV.out;omega)
     have HE:=Lh (show Nat.gcd x y=u by rw [HG.out,hv0,Nat.gcd_zero_right])
     clear hv0
     subst h0
     go_wp2
     go_ret
     rw [HE.out]
     exact ⟨A,n,c,rfl,HU.out,HNU.out,HOU.out,HBR.out⟩
   · have hv0:v≠0:=fun e=>by have h1:=HNV.out;rw [e,limbsOf_zero] at h1;simp at h1;omega
     have d1:decide (0 < m)=true:=decide_eq_true h0
     have d2:decide ((m:Int) > 0)=true:=decide_eq_true (by omega)
     have d3:decide ((0:Int) < (m:Int))=true:=decide_eq_true (by omega)
     have HD:=Lh (tDiv HU.out HV.out hv0)
     have HV0:=Lh hv0
     have HM:=Lh (numOf_eq HV.out)
     clear hv0 h0
     go_wp2_with ((with_reducible refine HD.out.mono ?_);rintro e w3 ⟨A3,n3,c3,A4,n4,c4,rfl,h3,h4,hn4,ho4,hb,_⟩;have H4:=Lh h4;have HN4:=Lh hn4;have HO4:=Lh (own_base ho4 HBR.out.size);have HB4:=Lh hb;clear h3 h4 hn4 ho4 hb)
     go_roundw
     case rel=>exact ⟨v,u % v,B,m,d,A4,n4,c4,rfl,rfl,HV.out.next HB4.out,H4.out,HNV.out,HN4.out,own_kept HOV.out HB4.out,HO4.out,by rw [HG.out,Nat.gcd_comm,Nat.gcd_rec,Nat.gcd_comm],HBR.out.trans (HB4.out.mono HBR.out.size)⟩
     case measure=>rw [HM.out,numOf_eq H4.out];exact Nat.mod_lt _ (Nat.pos_of_ne_zero HV0.out)
end Go.Proofs.YtjbabpnepjhllaaGreat
namespace Go.Proofs.YtjbabpnepjhllaaGreat
open Go.RowKit
set_option maxRecDepth 100000
set_option maxHeartbeats 4000000 in
theorem tInverse {A B:Option Addr} {n c m d x z:Nat} {w:World} (hx:NumAt w A n c x) (hz:NumAt w B m d z) (h0:z≠0) (hg:Nat.gcd (x % z) z=1) (hm:m≤40000):Calls Tryz.prog 128 #[.slice A n c,.slice B m d] w (Told0 (invN x z) w):=by
 have HX:=Lh (tRest hx hz h0)
 have HZ:=Lh hz
 have H0:=Lh h0
 have HM:=Lh hm
 have HG:=Lh (fun (w1:World) (A1:Option Addr) (n1 c1:Nat) (h1:NumAt w1 A1 n1 c1 (x % z)) (h:Below w.heap.size w w1)=>(by have:=tGcd h1 (hz.next h);rw [hg] at this;exact this:Calls Tryz.prog 150 #[.slice A1 n1 c1,.slice B m d] w1 (Told 1 w1)))
 have HSM:=Lh (fun (w1:World) (A1:Option Addr) (n1 c1:Nat) (h1:NumAt w1 A1 n1 c1 1)=>(tSame (h1.next ((Below.refl _ _).alloc (Nat.le_refl _) (.cells #[.int .u64 1] 41))) (NumAt.lit (w:=w1) (t:=1) (by decide)):Calls Tryz.prog 149 #[.slice A1 n1 c1,.slice (some ⟨w1.heap.size,0,none⟩) 1 1] (w1.alloc (.cells #[.int .u64 1] 41)) fun e w'=>e=.returned (.bool true)∧w1.alloc (.cells #[.int .u64 1] 41)=w'))
 have HT:=Lh (fun (w1:World) (h:Below w.heap.size w w1)=>tTrim (hz.next h))
 have HZL:=Lh (show (limbsOf z).length≤40000 from Nat.le_trans (hz.len (Nat.le_refl z)) hm)
 have HXL:=Lh (show (limbsOf (x % z)).length≤40000 from Nat.le_trans (hz.len (Nat.le_of_lt (Nat.mod_lt x (Nat.pos_of_ne_zero h0)))) hm)
 obtain ⟨y,hy⟩:∃ y,y=x % z:=⟨_,rfl⟩
 have HIV:=Lh (show invN x z=egN z z y 0 1 % z by rw [hy];rfl)
 rw [←hy] at HX HG HXL
 clear hx hz h0 hg hm hy
 go_enter Tryz.func128,Tryz.ntmps128
 go_upto_region 4 with ((with_reducible refine HX.out.mono ?_);rintro e w1 ⟨A1,n1,c1,rfl,h1,hn1,h3,hb⟩;have H1:=Lh h1;have HN1:=Lh hn1;have HB1:=Lh hb;clear h1 hn1 h3 hb)
 go_upto_region 6 with (first
   | ((with_reducible refine (HG.out _ A1 n1 c1 H1.out HB1.out).mono ?_);rintro e w2 ⟨A2,n2,c2,rfl,h1,hn1,h3,hb⟩;have H2:=Lh h1;have HB2:=Lh (HB1.out.trans (hb.mono HB1.out.size));have HB12:=Lh hb;clear h1 hn1 h3 hb)
   | ((with_reducible refine (HSM.out _ A2 n2 c2 H2.out).mono ?_);rintro e w3 ⟨rfl,hw⟩;subst hw))
 have HB3:=Lh (HB2.out.alloc HB2.out.size (.cells #[.int .u64 1] 41))
 have HB13:=Lh (HB12.out.alloc HB12.out.size (.cells #[.int .u64 1] 41))
 clear HSM HG H2 HB2 HB12
 generalize w2.alloc (.cells #[.int .u64 1] 41)=W3 at *
 go_upto_region 7 with ((with_reducible refine (HT.out _ HB3.out).mono ?_);rintro e w4 ⟨A4,n4,c4,rfl,h1,hn1,h3,hb⟩;have H4:=Lh h1;have HN4:=Lh hn1;have HB4:=Lh (HB3.out.trans (hb.mono HB3.out.size));have HB14:=Lh (HB13.out.trans (hb.mono HB13.out.size));clear h1 hn1 h3 hb)
 clear HT HB3 HB13 HX
 go_wp2
 obtain ⟨W5,hW5⟩:∃ W5,W5=(w4.alloc (.cells #[] 41)).alloc (.cells #[.int .u64 1] 41):=⟨_,rfl⟩
 have hb45:Below w4.heap.size w4 W5:=by rw [hW5];exact ((Below.refl _ _).alloc (Nat.le_refl _) _).alloc (by simp) _
 have h5s:NumAt W5 (some ⟨w4.heap.size,0,none⟩) 0 0 0:=⟨⟨[],⟨_,0,rfl,by simp,by simp,fun h=>absurd rfl h⟩,fun x hx=>(nomatch hx),rfl⟩,by decide⟩
 have h5t:NumAt W5 (some ⟨w4.heap.size+1,0,none⟩) 1 1 1:=by
   rw [hW5]
   have:=NumAt.lit (w:=w4.alloc (.cells #[] 41)) (t:=1) (by decide)
   simpa using this
 rw [←hW5]
 have H5S:=Lh h5s
 have H5T:=Lh h5t
 have HB45:=Lh hb45
 obtain ⟨g,hg⟩:∃ g,g=w4.heap.size:=⟨_,rfl⟩
 rw [←hg] at H5S H5T
 (try rw [←hg])
 clear hW5 hb45 h5s h5t hg
 go_loopw [8,9,10,11,12,13,14,15,16,17,18] (fun s8 s9 s10 s11 _ _ _ _ _ _ _ wr=>∃ (u v s t:Nat) (Au:Option Addr) (nu cu:Nat) (Av:Option Addr) (nv cv:Nat) (As:Option Addr) (ns cs:Nat) (At:Option Addr) (nt ct:Nat),s8=.slice Au nu cu∧s9=.slice Av nv cv∧s10=.slice As ns cs∧s11=.slice At nt ct∧NumAt wr Au nu cu u∧NumAt wr Av nv cv v∧NumAt wr As ns cs s∧NumAt wr At nt ct t∧(nu≤40000∧nv≤40000∧ns≤40000∧nt≤40000)∧nv=(limbsOf v).length∧egN z u v s t=egN z z y 0 1∧Below w.heap.size w wr) (fun _ s9 _ _ _ _ _ _ _ _ _ wr=>numOf s9 wr)
 case atStart=>exact ⟨z,y,0,1,A4,n4,c4,A1,n1,c1,_,0,0,_,1,1,rfl,rfl,rfl,rfl,H4.out.next HB45.out,H1.out.next (HB14.out.trans (HB45.out.mono HB14.out.size)),H5S.out,H5T.out,⟨by rw [HN4.out];exact HZL.out,by rw [HN1.out];exact HXL.out,by decide,by decide⟩,HN1.out,rfl,HB4.out.trans (HB45.out.mono HB4.out.size)⟩
 case round =>
   obtain ⟨u,v,s,t,Au,nu,cu,Av,nv,cv,As,ns,cs,At,nt,ct,rfl,rfl,rfl,rfl,hu,hv,hs,ht,hl,hnv,heg,hbr⟩:=hrel
   have HU:=Lh hu
   have HV:=Lh hv
   have HS:=Lh hs
   have HTT:=Lh ht
   have HL:=Lh hl
   have HNV:=Lh hnv
   have HEG:=Lh heg
   have HBR:=Lh hbr
   clear hu hv hs ht hl hnv heg hbr H1 H4 H5S H5T HN1 HN4 HB1 HB4 HB14 HB45
   rcases Nat.eq_zero_or_pos nv with h0 | h0
   · have hv0:v=0:=limbs_len_zero.1 (by have:=HNV.out;omega)
     have HE:=Lh (show invN x z=s % z by rw [HIV.out,←HEG.out,hv0,egN_zero])
     have HR:=Lh (tRest HS.out (HZ.out.next HBR.out) H0.out)
     clear hv0
     subst h0
     go_wp2_with ((with_reducible refine HR.out.mono ?_);rintro e w5 h_;obtain ⟨A5,n5,c5,h1_,h2,h3,h4,hb⟩:=h_.from HBR.out;cases h1_;have H5:=Lh h2;have H6:=Lh h3;have H7:=Lh h4;have HB5:=Lh hb;clear h2 h3 h4 hb)
     go_ret2
     rw [HE.out]
     exact ⟨A5,n5,c5,rfl,H5.out,H6.out,H7.out,HB5.out⟩
   · have hv0:v≠0:=fun e=>by have h1:=HNV.out;rw [e,limbsOf_zero] at h1;simp at h1;omega
     have d1:decide (0 < nv)=true:=decide_eq_true h0
     have d2:decide ((nv:Int) > 0)=true:=decide_eq_true (by omega)
     have d3:decide ((0:Int) < (nv:Int))=true:=decide_eq_true (by omega)
     have HD:=Lh (tDiv HU.out HV.out hv0)
     have HV0:=Lh hv0
     have HMS:=Lh (numOf_eq HV.out)
     have HQL:=Lh (show (limbsOf (u / v)).length≤40000 from Nat.le_trans (HU.out.len (Nat.div_le_self u v)) HL.out.1)
     have HRL:=Lh (show (limbsOf (u % v)).length≤40000 from Nat.le_trans (HU.out.len (Nat.mod_le u v)) HL.out.1)
     have hz0:=Nat.pos_of_ne_zero H0.out
     have HDL:=Lh (show (limbsOf ((s % z+z - u / v*t % z % z) % z)).length≤40000 from Nat.le_trans (HZ.out.len (Nat.le_of_lt (Nat.mod_lt _ hz0))) HM.out)
     clear hv0 h0 hz0
     go_wp2_with (first
       | ((with_reducible refine HD.out.mono ?_);rintro e w3 ⟨A3,n3,c3,A4,n4,c4,rfl,h3,h4,hn4,ho4,hb,hn3⟩;have H3:=Lh h3;have HN3:=Lh hn3;have H4:=Lh h4;have HN4:=Lh hn4;have HB4:=Lh hb;have HBZ:=Lh (HBR.out.trans (hb.mono HBR.out.size));clear h3 h4 hn4 ho4 hb hn3)
       | ((with_reducible refine (tMulm H3.out (HTT.out.next HB4.out) (HZ.out.next HBZ.out) H0.out (by rw [HN3.out];have:=HQL.out;have:=HL.out;omega)).mono ?_);rintro e w5 ⟨A5,n5,c5,rfl,h1,hn1,h3,hb⟩;have H5:=Lh h1;have HB5:=Lh hb;clear h1 hn1 h3 hb)
       | ((with_reducible refine (tSubm ((HS.out.next HB4.out).next HB5.out) H5.out ((HZ.out.next HBZ.out).next HB5.out) H0.out (by have:=HL.out;omega) (by have:=HM.out;omega)).mono ?_);rintro e w6 ⟨A6,n6,c6,rfl,h1,hn1,h3,hb⟩;have H6:=Lh h1;have HN6:=Lh hn1;have HB6:=Lh hb;clear h1 hn1 h3 hb))
     go_roundw
     case rel=>exact ⟨v,u % v,t,(s % z+z - u / v*t % z % z) % z,Av,nv,cv,A4,n4,c4,At,nt,ct,A6,n6,c6,rfl,rfl,rfl,rfl,((HV.out.next HB4.out).next HB5.out).next HB6.out,(H4.out.next HB5.out).next HB6.out,((HTT.out.next HB4.out).next HB5.out).next HB6.out,H6.out,⟨HL.out.2.1,by rw [HN4.out];exact HRL.out,HL.out.2.2.2,by rw [HN6.out];exact HDL.out⟩,HN4.out,by rw [←HEG.out,egN_next HV0.out],HBZ.out.trans ((HB5.out.trans (HB6.out.mono HB5.out.size)).mono HBZ.out.size)⟩
     case measure=>rw [HMS.out,numOf_eq ((H4.out.next HB5.out).next HB6.out)];exact Nat.mod_lt _ (Nat.pos_of_ne_zero HV0.out)
set_option maxHeartbeats 2000000 in
theorem tPower (k:Nat) (hk:k≤512) (w:World):Calls Tryz.prog 148 #[.int .i64 k] w fun e w'=>∃ A n c,e=.returned (.slice A n c)∧NumAt w' A n c (LB ^ k)∧Below w.heap.size w w':=by
 obtain ⟨N,hN⟩:∃ N,N=k+1:=⟨_,rfl⟩
 have k1:IntKind.i64.wrap ((k:Int)+1)=(N:Int):=by rw [IntKind.wrap_i64];omega
 have hmk:=make_u N (by omega) w
 have hget:(List.replicate N 0)[k]? = some 0:=by rw [List.getElem?_replicate];simp [hN]
 have HM:=Lh (show MulAt w (w.alloc (.cells (cellsU (List.replicate N 0)).toArray 41)) w.heap.size 0 0 N (List.replicate N 0) from ⟨heap_alloc_new w _,by simp,fun x hx=>by rw [List.eq_of_mem_replicate hx];decide,(Below.refl _ _).alloc (Nat.le_refl _) _⟩)
 have HS:=Lh (HM.out.put (Nat.le_refl _) k (t:=1) (by decide))
 have HV:=Lh (show natV ((List.replicate N 0).set k 1)=LB ^ k by
   have:=natV_set 1 hget
   rw [natV_zeros] at this
   simpa using this)
 have HN:=Lh (show N≤600 by omega)
 obtain ⟨p0,pf⟩:=HM.out.blk.get hget
 have i0:(0:Int)≤(k:Int):=by omega
 have i1:(k:Int) < (N:Int):=by omega
 clear hN hget
 go_enter Tryz.func148,Tryz.ntmps148
 go_wp2
 go_ret
 have hblk:UBlk (w.alloc (.cells ((cellsU (List.replicate N 0)).set k (.int .u64 1)).toArray 41)) w.heap.size ((List.replicate N 0).set k 1):=by
   unfold UBlk
   rw [heap_alloc_new]
   simp [cellsU,List.map_set]
 have hat:=hblk.at_
 rw [List.length_set,List.length_replicate] at hat
 exact ⟨_,N,N,rfl,⟨⟨_,hat,HS.out.ok,HV.out⟩,by have:=HN.out;omega⟩,(Below.refl _ _).alloc (Nat.le_refl _) _⟩
set_option maxHeartbeats 2000000 in
theorem tRadix {B:Option Addr} {m d z:Nat} {w:World} (k:Nat) (hk:k≤512) (hz:NumAt w B m d z) (h0:z≠0):Calls Tryz.prog 126 #[.int .i64 k,.slice B m d] w (Told0 (LB ^ k % z) w):=by
 have HP:=Lh (tPower k hk w)
 have HZ:=Lh hz
 have H0:=Lh h0
 have d1:decide ((k:Int) < 0)=false:=decide_eq_false (by omega)
 have d2:decide ((k:Int) > 512)=false:=decide_eq_false (by omega)
 have d3:decide ((512:Int) < (k:Int))=false:=decide_eq_false (by omega)
 obtain ⟨P,hP⟩:∃ P,P=LB ^ k:=⟨_,rfl⟩
 rw [←hP] at HP
 rw [←hP]
 clear hz h0 hk hP
 go_enter Tryz.func126,Tryz.ntmps126
 go_wp2_with (first
   | ((with_reducible refine HP.out.mono ?_);rintro e w1 ⟨A1,n1,c1,rfl,h1,hb⟩;have H1:=Lh h1;have HB:=Lh hb;clear h1 hb)
   | ((with_reducible refine (tRest H1.out (HZ.out.next HB.out) H0.out).mono ?_);rintro e w2 h_;obtain ⟨A2,n2,c2,h1_,h2,h3,h4,hb⟩:=h_.from HB.out;cases h1_;have H2:=Lh h2;have H3:=Lh h3;have H4:=Lh h4;have HB2:=Lh hb;clear h2 h3 h4 hb))
 go_ret2
 exact ⟨A2,n2,c2,rfl,H2.out,H3.out,H4.out,HB2.out⟩
set_option maxHeartbeats 2000000 in
theorem tReduce {A B:Option Addr} {n c m d t z:Nat} {w:World} (k:Nat) (hk:k≤512) (ht:NumAt w A n c t) (hz:NumAt w B m d z) (hodd:z % 2=1) (hn:n≤40000) (hm:m≤40000):Calls Tryz.prog 104 #[.slice A n c,.slice B m d,.int .i64 k] w (Told0 (montN t z k) w):=by
 have h0:z≠0:=by omega
 have HR:=Lh (tRadix k hk hz h0)
 have HT:=Lh ht
 have HZ:=Lh hz
 have H0:=Lh h0
 have HL:=Lh (And.intro hn hm)
 have HO:=Lh (fun (w1:World) (h:Below w.heap.size w w1)=>(by have:=tOdd (hz.next h);rw [show (z % 2 == 1)=true from beq_iff_eq.2 hodd] at this;exact this:Calls Tryz.prog 127 #[.slice B m d] w1 fun e w'=>e=.returned (.bool true)∧w1=w'))
 have HG:=Lh (show Nat.gcd (LB ^ k % z % z) z=1 by rw [Nat.mod_mod];exact odd_gcd hodd k)
 have HE:=Lh (show montN t z k=t*invN (LB ^ k % z) z % z from rfl)
 obtain ⟨P,hP⟩:∃ P,P=LB ^ k % z:=⟨_,rfl⟩
 have HIL:=Lh (show (limbsOf (invN P z)).length≤40000 from Nat.le_trans (hz.len (Nat.le_of_lt (Nat.mod_lt _ (Nat.pos_of_ne_zero h0)))) hm)
 rw [←hP] at HR HG HE
 clear ht hz h0 hn hm hk hP
 go_enter Tryz.func104,Tryz.ntmps104
 go_wp2_with (first
   | ((with_reducible refine HR.out.mono ?_);rintro e w1 ⟨A1,n1,c1,rfl,h1,hn1,h3,hb⟩;have H1:=Lh h1;have HB1:=Lh hb;clear h1 hn1 h3 hb)
   | ((with_reducible refine (HO.out _ HB1.out).mono ?_);rintro e w2 ⟨rfl,hw⟩;subst hw)
   | ((with_reducible refine (tInverse H1.out (HZ.out.next HB1.out) H0.out HG.out HL.out.2).mono ?_);rintro e w3 ⟨A3,n3,c3,rfl,h1,hn1,h3,hb⟩;have H3:=Lh h1;have HN3:=Lh hn1;have HB3:=Lh (HB1.out.trans (hb.mono HB1.out.size));clear h1 hn1 h3 hb)
   | ((with_reducible refine (tMulm (HT.out.next HB3.out) H3.out (HZ.out.next HB3.out) H0.out (by rw [HN3.out];have:=HIL.out;have:=HL.out;omega)).mono ?_);rintro e w5 h_;obtain ⟨A5,n5,c5,h1_,h2,h3,h4,hb⟩:=h_.from HB3.out;cases h1_;have H5:=Lh h2;have H6:=Lh h3;have H7:=Lh h4;have HB5:=Lh hb;clear h2 h3 h4 hb))
 go_ret2
 rw [HE.out]
 exact ⟨A5,n5,c5,rfl,H5.out,H6.out,H7.out,HB5.out⟩
end Go.Proofs.YtjbabpnepjhllaaGreat
namespace Go.Proofs.YtjbabpnepjhllaaGreat
def kStep (o:KOp) (i:Nat) (s:List Int×List Nat):List Int×List Nat :=
 if o.kind=15 then (s.1,i :: s.2)
 else if o.kind=16 then match s.2 with
   | m :: r=>((s.1.set m (i:Int)).set i (m:Int),r)
   | []=>s
 else s
def kTo (ops:List KOp):Nat→List Int×List Nat
 | 0=>(List.replicate ops.length (-1),[])
 | k+1=>match ops[k]? with
   | some o=>kStep o k (kTo ops k)
   | none=>kTo ops k
def kEnds (ops:List KOp):List Int:=(kTo ops ops.length).1
def kS (ops:List KOp) (k:Nat):List Nat:=(kTo ops k).2
structure KBal (ops:List KOp):Prop where
 some_:∀ (k:Nat) (o:KOp),ops[k]? = some o→o.kind=16→kS ops k≠[]
 done:kS ops ops.length=[]
theorem kTo_next {ops:List KOp} {k:Nat} {o:KOp} (ho:ops[k]? = some o):kTo ops (k+1)=kStep o k (kTo ops k):=by simp only [kTo,ho]
theorem kS_next {ops:List KOp} {k:Nat} {o:KOp} (ho:ops[k]? = some o):kS ops (k+1)=if o.kind=15 then k :: kS ops k else if o.kind=16 then (kS ops k).tail else kS ops k:=by
 unfold kS
 rw [kTo_next ho]
 unfold kStep
 split
 · rfl
 · split
   · cases h:(kTo ops k).2 with
     | nil=>simp [h]
     | cons m r=>rfl
   · rfl
structure KInv (ops:List KOp) (k:Nat):Prop where
 len:(kTo ops k).1.length=ops.length
 open_:∀ j∈kS ops k,j < k∧∃ o,ops[j]? = some o∧o.kind=15
 ord:(kS ops k).Pairwise fun x y=>y < x
 free:∀ j∈kS ops k,(kTo ops k).1[j]? = some (-1)
 loop:∀ (j:Nat) (o:KOp),j < k→ops[j]? = some o→o.kind=15→j∈kS ops k∨∃ (i:Nat) (q:KOp),j < i∧i < k∧(kTo ops k).1[j]? = some (i:Int)∧(kTo ops k).1[i]? = some (j:Int)∧ops[i]? = some q∧q.kind=16∧(∀ x,j < x→x≤i→j∈kS ops x)∧kS ops i=j :: kS ops j∧kS ops (i+1)=kS ops j
 end_:∀ (j:Nat) (o:KOp),j < k→ops[j]? = some o→o.kind=16→∃ m:Nat,m < j∧(kTo ops k).1[j]? = some (m:Int)∧(kTo ops k).1[m]? = some (j:Int)
 rest:∀ (a:List Nat) (l:Nat) (r:List Nat),kS ops k=a++l :: r→kS ops l=r
 held:∀ j∈kS ops k,∀ x,j < x→x≤k→j∈kS ops x
theorem kS_lt (ops:List KOp):∀ k,∀ m∈kS ops k,m < k:=by
 intro k
 induction k with
 | zero=>intro m hm;simp [kS,kTo] at hm
 | succ k ih =>
   intro m hm
   cases ho:ops[k]? with
   | none =>
     have:kS ops (k+1)=kS ops k:=by unfold kS;simp only [kTo,ho]
     rw [this] at hm
     have:=ih m hm;omega
   | some o =>
     rw [kS_next ho] at hm
     split at hm
     · rcases List.mem_cons.1 hm with rfl | hm
       · omega
       · have:=ih m hm;omega
     · split at hm
       · have:=ih m (List.mem_of_mem_tail hm);omega
       · have:=ih m hm;omega
theorem kTo_fresh (ops:List KOp):∀ k j,k≤j→j < ops.length→(kTo ops k).1[j]? = some (-1):=by
 intro k
 induction k with
 | zero=>intro j _ hj;simp [kTo,hj]
 | succ k ih =>
   intro j hk hj
   have h1:=ih j (by omega) hj
   cases ho:ops[k]? with
   | none=>simp only [kTo,ho];exact h1
   | some o =>
     rw [kTo_next ho]
     unfold kStep
     split
     · exact h1
     · split
       · cases hs:(kTo ops k).2 with
         | nil=>exact h1
         | cons m r =>
           have hm:m < k:=kS_lt ops k m (by unfold kS;rw [hs];exact List.mem_cons_self)
           simp only
           rw [List.getElem?_set_ne (by omega),List.getElem?_set_ne (by omega)]
           exact h1
       · exact h1
theorem k_inv {ops:List KOp} (h:KBal ops):∀ k,k≤ops.length→KInv ops k:=by
 intro k
 induction k with
 | zero=>exact fun _=>⟨by simp [kTo],fun j hj=>by simp [kS,kTo] at hj,List.Pairwise.nil,fun j hj=>by simp [kS,kTo] at hj,fun j o hj=>absurd hj (by omega),fun j o hj=>absurd hj (by omega),fun a l r e=>by simp [kS,kTo] at e,fun j hj=>by simp [kS,kTo] at hj⟩
 | succ k ih =>
   intro hk
   have I:=ih (by omega)
   obtain ⟨o,ho⟩:∃ o,ops[k]? = some o:=⟨_,List.getElem?_eq_getElem (by omega)⟩
   have hS:=kS_next ho
   have hT:=kTo_next ho
   have hke:∀ x,x < k+1→x=k∨x < k:=fun x hx=>by omega
   by_cases h15:o.kind=15
   · rw [if_pos h15] at hS
     have hE:(kTo ops (k+1)).1=(kTo ops k).1:=by rw [hT];unfold kStep;rw [if_pos h15]
     refine ⟨by rw [hE];exact I.len,fun j hj=>?_,?_,fun j hj=>?_,fun j q hj hq h15'=>?_,fun j q hj hq h16'=>?_,fun a l r e=>?_,fun j hj x h1 h2=>?_⟩
     · rw [hS] at hj
       rcases List.mem_cons.1 hj with rfl | hj
       · exact ⟨by omega,o,ho,h15⟩
       · have:=I.open_ j hj;exact ⟨by omega,this.2⟩
     · rw [hS];exact List.pairwise_cons.2 ⟨fun y hy=>(I.open_ y hy).1,I.ord⟩
     · rw [hS] at hj;rw [hE]
       rcases List.mem_cons.1 hj with rfl | hj
       ·
         rcases Classical.em ((kTo ops j).1[j]? = some (-1)) with h1 | h1
         · exact h1
         · exact absurd (kTo_fresh ops j j (Nat.le_refl _) (by omega)) h1
       · exact I.free j hj
     · rw [hS,hE]
       rcases hke j hj with rfl | hj
       · exact .inl List.mem_cons_self
       · rcases I.loop j q hj hq h15' with h1 | ⟨i,q',h1,h2,h3⟩
         · exact .inl (List.mem_cons_of_mem _ h1)
         · exact .inr ⟨i,q',h1,by omega,h3⟩
     · rcases hke j hj with rfl | hj
       · rw [ho] at hq;cases hq;omega
       · rw [hE];exact I.end_ j q hj hq h16'
     · rw [hS] at e
       cases a with
       | nil=>simp at e;rw [←e.1];exact e.2
       | cons y a=>simp at e;exact I.rest a l r e.2
     · rw [hS] at hj
       rcases List.mem_cons.1 hj with rfl | hj
       · obtain rfl:x=j+1:=by omega
         rw [hS];exact List.mem_cons_self
       · rcases Nat.lt_or_ge k x with h3 | h3
         · obtain rfl:x=k+1:=by omega
           rw [hS];exact List.mem_cons_of_mem _ hj
         · exact I.held j hj x h1 h3
   rw [if_neg h15] at hS
   by_cases h16:o.kind=16
   · rw [if_pos h16] at hS
     obtain ⟨m,r,hmr⟩:∃ m r,kS ops k=m :: r:=by
       cases hs:kS ops k with
       | nil=>exact absurd hs (h.some_ k o ho h16)
       | cons m r=>exact ⟨m,r,rfl⟩
     rw [hmr] at hS
     simp only [List.tail_cons] at hS
     have hE:(kTo ops (k+1)).1=((kTo ops k).1.set m (k:Int)).set k (m:Int):=by
       rw [hT];unfold kStep;rw [if_neg h15,if_pos h16]
       have:(kTo ops k).2=m :: r:=hmr
       rw [this]
     have hm:=I.open_ m (by rw [hmr];exact List.mem_cons_self)
     have hord:=I.ord
     rw [hmr] at hord
     have hord:=List.pairwise_cons.1 hord
     have hlen:=I.len
     have hget:∀ j,j≠m→j≠k→(kTo ops (k+1)).1[j]? =(kTo ops k).1[j]?:=fun j h1 h2=>by rw [hE,List.getElem?_set_ne (by omega),List.getElem?_set_ne (by omega)]
     have hgm:(kTo ops (k+1)).1[m]? = some (k:Int):=by rw [hE,List.getElem?_set_ne (by omega),List.getElem?_set_self (by omega)]
     have hgk:(kTo ops (k+1)).1[k]? = some (m:Int):=by rw [hE,List.getElem?_set_self (by simp;omega)]
     have hfree:(kTo ops k).1[m]? = some (-1):=I.free m (by rw [hmr];exact List.mem_cons_self)
     have hrest:kS ops m=r:=I.rest [] m r hmr
     refine ⟨by rw [hE];simp [hlen],fun j hj=>?_,by rw [hS];exact hord.2,fun j hj=>?_,fun j q hj hq h15'=>?_,fun j q hj hq h16'=>?_,fun a l r' e=>?_,fun j hj x h1 h2=>?_⟩
     · rw [hS] at hj
       have:=I.open_ j (by rw [hmr];exact List.mem_cons_of_mem _ hj)
       exact ⟨by omega,this.2⟩
     · rw [hS] at hj
       have h1:=hord.1 j hj
       rw [hget j (by omega) (by have:=hm.1;omega)]
       exact I.free j (by rw [hmr];exact List.mem_cons_of_mem _ hj)
     · rcases hke j hj with rfl | hj
       · rw [ho] at hq;cases hq;omega
       · rcases I.loop j q hj hq h15' with h1 | ⟨i,q',h1,h2,h3,h4,h5⟩
         · rw [hmr] at h1
           rcases List.mem_cons.1 h1 with rfl | h1
           · exact .inr ⟨k,o,by omega,by omega,hgm,hgk,ho,h16,fun x h1 h2=>I.held j (by rw [hmr];exact List.mem_cons_self) x h1 h2,by rw [hmr,hrest],by rw [hS,hrest]⟩
           · exact .inl (by rw [hS];exact h1)
         · have hjm:j≠m:=fun e=>by subst e;rw [hfree] at h3;cases h3
           have him:i≠m:=fun e=>by subst e;rw [hfree] at h4;cases h4
           exact .inr ⟨i,q',h1,by omega,by rw [hget j hjm (by omega)];exact h3,by rw [hget i him (by omega)];exact h4,h5⟩
     · rcases hke j hj with rfl | hj
       · exact ⟨m,hm.1,hgk,hgm⟩
       · obtain ⟨m',h1,h2,h3⟩:=I.end_ j q hj hq h16'
         have hjm:j≠m:=fun e=>by subst e;rw [hfree] at h2;cases h2
         have hmm:m'≠m:=fun e=>by subst e;rw [hfree] at h3;cases h3
         exact ⟨m',h1,by rw [hget j hjm (by omega)];exact h2,by rw [hget m' hmm (by omega)];exact h3⟩
     · rw [hS] at e
       exact I.rest (m :: a) l r' (by rw [hmr,e];rfl)
     · rw [hS] at hj
       rcases Nat.lt_or_ge k x with h3 | h3
       · obtain rfl:x=k+1:=by omega
         rw [hS];exact hj
       · exact I.held j (by rw [hmr];exact List.mem_cons_of_mem _ hj) x h1 h3
   rw [if_neg h16] at hS
   have hE:(kTo ops (k+1))=(kTo ops k):=by rw [hT];unfold kStep;rw [if_neg h15,if_neg h16]
   refine ⟨by rw [hE];exact I.len,fun j hj=>?_,by rw [hS];exact I.ord,fun j hj=>by rw [hS] at hj;rw [hE];exact I.free j hj,fun j q hj hq h15'=>?_,fun j q hj hq h16'=>?_,fun a l r e=>I.rest a l r (by rw [←hS];exact e),fun j hj x h1 h2=>?_⟩
   · rw [hS] at hj;have:=I.open_ j hj;exact ⟨by omega,this.2⟩
   · rcases hke j hj with rfl | hj
     · rw [ho] at hq;cases hq;exact absurd h15' h15
     · rw [hS,hE]
       rcases I.loop j q hj hq h15' with h1 | ⟨i,q',h1,h2,h3⟩
       · exact .inl h1
       · exact .inr ⟨i,q',h1,by omega,h3⟩
   · rcases hke j hj with rfl | hj
     · rw [ho] at hq;cases hq;exact absurd h16' h16
     · rw [hE];exact I.end_ j q hj hq h16'
   · rw [hS] at hj
     rcases Nat.lt_or_ge k x with h3 | h3
     · obtain rfl:x=k+1:=by omega
       rw [hS];exact hj
     · exact I.held j hj x h1 h3
theorem k_loop {ops:List KOp} (h:KBal ops) {j:Nat} {o:KOp} (ho:ops[j]? = some o) (hk:o.kind=15):∃ (e:Nat) (q:KOp),j < e∧e < ops.length∧(kEnds ops).getD j 0=(e:Int)∧ops[e]? = some q∧q.kind=16∧(∀ x,j < x→x≤e→j∈kS ops x)∧kS ops e=j :: kS ops j∧kS ops (e+1)=kS ops j:=by
 have hj:=(List.getElem?_eq_some_iff.1 ho).1
 rcases (k_inv h ops.length (Nat.le_refl _)).loop j o hj ho hk with h1 | ⟨e,q,h1,h2,h3,h4,h5,h6,h7,h8,h9⟩
 · rw [h.done] at h1;cases h1
 · exact ⟨e,q,h1,h2,by unfold kEnds;rw [List.getD_eq_getElem?_getD,h3];rfl,h5,h6,h7,h8,h9⟩
end Go.Proofs.YtjbabpnepjhllaaGreat
namespace Go.Proofs.YtjbabpnepjhllaaGreat
inductive RunD (vs:List KVar) (ops:List KOp):Bool→Nat→Nat→List Fct→List (List Fct)→List Fct→List (List Fct)→Prop
 | done {i t l A} (h:t≤i):RunD vs ops false i t l A l A
 | op {i t l A o l' A'} (h:i < t) (ho:ops[i]? = some o) (hk:o.kind≠15) (hr:RunD vs ops false (i+1) t (afterF vs o l) (A.set i l) l' A'):RunD vs ops false i t l A l' A'
 | loop {i t l A o e l1 A1 l' A'} (h:i < t) (ho:ops[i]? = some o) (hk:o.kind=15) (he:(kEnds ops).getD i 0=((e:Nat):Int)) (hl:RunD vs ops true i e l (A.set i l) l1 A1) (hr:RunD vs ops false (e+1) t l1 (A1.set e l1) l' A'):RunD vs ops false i t l A l' A'
 | still {i t l A l1 A1} (hr:RunD vs ops false (i+1) t l A l1 A1) (hs:(l.filter (knowsF l1)).length=l.length):RunD vs ops true i t l A l1 A1
 | more {i t l A l1 A1 l' A'} (hr:RunD vs ops false (i+1) t l A l1 A1) (hs:(l.filter (knowsF l1)).length≠l.length) (hm:RunD vs ops true i t (l.filter (knowsF l1)) A1 l' A'):RunD vs ops true i t l A l' A'
structure LiveK (ops:List KOp) (i t:Nat):Prop where
 le:i≤t
 len:t≤ops.length
 base:(t=ops.length∧kS ops i=[])∨∃ (m:Nat) (o:KOp),ops[m]? = some o∧o.kind=15∧(kEnds ops).getD m 0=(t:Int)∧kS ops i=m :: kS ops m∧m < i
theorem LiveK.op {ops:List KOp} (hb:KBal ops) {i t:Nat} (h:LiveK ops i t) (hi:i < t) {o:KOp} (ho:ops[i]? = some o) (hk:o.kind≠15):o.kind≠16∧LiveK ops (i+1) t:=by
 have hn:=kS_next ho
 rw [if_neg hk] at hn
 rcases h.base with ⟨h1,h2⟩ | ⟨m,q,hq,hq15,he,hs,hm⟩
 · have h16:o.kind≠16:=fun e=>hb.some_ i o ho e h2
   rw [if_neg h16] at hn
   exact ⟨h16,⟨hi,h.len,.inl ⟨h1,hn.trans h2⟩⟩⟩
 · have h16:o.kind≠16:=fun e=>by
     rw [if_pos e,hs] at hn
     simp only [List.tail_cons] at hn
     obtain ⟨e',q',g1,g2,g3,g4,g5,g6,g7,g8⟩:=k_loop hb hq hq15
     rw [he] at g3
     have:e'=t:=by omega
     subst this
     have h1:=g6 (i+1) (by omega) (by omega)
     rw [hn] at h1
     have:=kS_lt ops m m h1
     omega
   rw [if_neg h16] at hn
   exact ⟨h16,⟨hi,h.len,.inr ⟨m,q,hq,hq15,he,hn.trans hs,by omega⟩⟩⟩
theorem LiveK.loop {ops:List KOp} (hb:KBal ops) {i t:Nat} (h:LiveK ops i t) (hi:i < t) {o:KOp} (ho:ops[i]? = some o) (hk:o.kind=15):∃ e:Nat,(kEnds ops).getD i 0=(e:Int)∧i < e∧e < t∧LiveK ops (i+1) e∧LiveK ops (e+1) t∧∃ q,ops[e]? = some q∧q.kind=16:=by
 obtain ⟨e,q,g1,g2,g3,g4,g5,g6,g7,g8⟩:=k_loop hb ho hk
 have hn:=kS_next ho
 rw [if_pos hk] at hn
 have het:e < t:=by
   rcases h.base with ⟨h1,h2⟩ | ⟨m,q',hq,hq15,he,hs,hm⟩
   · omega
   · rcases Nat.lt_or_ge e t with h1 | h1
     · exact h1
     · obtain ⟨e',q'',k1,k2,k3,k4,k5,k6,k7,k8⟩:=k_loop hb hq hq15
       rw [he] at k3
       have:e'=t:=by omega
       subst this
       have h2:=g6 e' (by omega) h1
       rw [k7] at h2
       rcases List.mem_cons.1 h2 with h2 | h2
       · omega
       · have:=kS_lt ops m i h2;omega
 refine ⟨e,g3,g1,het,⟨g1,by omega,.inr ⟨i,o,ho,hk,g3,hn,by omega⟩⟩,⟨het,h.len,?_⟩,q,g4,g5⟩
 rcases h.base with ⟨h1,h2⟩ | ⟨m,q',hq,hq15,he,hs,hm⟩
 · exact .inl ⟨h1,g8.trans h2⟩
 · exact .inr ⟨m,q',hq,hq15,he,g8.trans hs,by omega⟩
theorem filter_lt {l:List Fct} {p:Fct→Bool} (h:(l.filter p).length≠l.length):(l.filter p).length < l.length:=by
 have:=List.length_filter_le p l
 omega
theorem runD_ends {vs:List KVar} {ops:List KOp} (hb:KBal ops):∀ (n i t:Nat),LiveK ops i t→t - i≤n→∀ l A,∃ l' A',RunD vs ops false i t l A l' A':=by
 intro n
 induction n with
 | zero=>exact fun i t h hn l A=>⟨l,A,.done (by omega)⟩
 | succ n ih =>
   intro i t h hn l A
   rcases Nat.lt_or_ge i t with hi | hi
   rotate_left
   · exact ⟨l,A,.done hi⟩
   obtain ⟨o,ho⟩:∃ o,ops[i]? = some o:=⟨_,List.getElem?_eq_getElem (by have:=h.len;omega)⟩
   by_cases hk:o.kind=15
   · obtain ⟨e,he,h1,h2,h3,h4,_⟩:=h.loop hb hi ho hk
     have key:∀ (m:Nat) (l:List Fct) (A:List (List Fct)),l.length≤m→∃ l' A',RunD vs ops true i e l A l' A':=by
       intro m
       induction m with
       | zero =>
         intro l A hl
         obtain ⟨l1,A1,hr⟩:=ih (i+1) e h3 (by omega) l A
         exact ⟨l1,A1,.still hr (by have:=List.length_filter_le (knowsF l1) l;omega)⟩
       | succ m ihm =>
         intro l A hl
         obtain ⟨l1,A1,hr⟩:=ih (i+1) e h3 (by omega) l A
         by_cases hs:(l.filter (knowsF l1)).length=l.length
         · exact ⟨l1,A1,.still hr hs⟩
         · obtain ⟨l',A',hm⟩:=ihm (l.filter (knowsF l1)) A1 (by have:=filter_lt hs;omega)
           exact ⟨l',A',.more hr hs hm⟩
     obtain ⟨l1,A1,hl⟩:=key l.length l (A.set i l) (Nat.le_refl _)
     obtain ⟨l',A',hr⟩:=ih (e+1) t h4 (by omega) l1 (A1.set e l1)
     exact ⟨l',A',.loop hi ho hk he hl hr⟩
   · obtain ⟨_,h2⟩:=h.op hb hi ho hk
     obtain ⟨l',A',hr⟩:=ih (i+1) t h2 (by omega) (afterF vs o l) (A.set i l)
     exact ⟨l',A',.op hi ho hk hr⟩
structure FineF (l:List Fct):Prop where
 ord:OrdF l
 may:∀ f∈l,mayF f=true
theorem fine_sort (l:List Fct):FineF (sortF l):=⟨ord_sortF l,fun _ hf=>(mem_sortF.1 hf).2⟩
theorem fine_after {vs:List KVar} {o:KOp} {l:List Fct} (h:FineF l):FineF (afterF vs o l):=⟨ord_afterF h.ord,fun f hf=>by
 by_cases hc:o.kind=2∧o.d=o.a
 · unfold afterF at hf
   rw [if_pos hc] at hf
   exact h.may f hf
 · exact ((mem_afterF hc f).1 hf).1⟩
theorem fine_filter {l:List Fct} (h:FineF l) (p:Fct→Bool):FineF (l.filter p):=⟨h.ord.filter p,fun f hf=>h.may f (List.mem_filter.1 hf).1⟩
def gvD (A:List (List Fct)) (t:Nat) (l:List Fct) (j:Nat):List Fct:=if j=t then l else A.getD j []
theorem gv_end (A:List (List Fct)) (t:Nat) (l:List Fct):gvD A t l t=l:=by unfold gvD;rw [if_pos rfl]
theorem gv_in {A:List (List Fct)} {t:Nat} {l:List Fct} {j:Nat} (h:j≠t):gvD A t l j=A.getD j []:=by unfold gvD;rw [if_neg h]
structure GoodD (vs:List KVar) (ops:List KOp) (i t:Nat) (l':List Fct) (A':List (List Fct)):Prop where
 fine:∀ j,i≤j→j≤t→FineF (gvD A' t l' j)
 op:∀ (j:Nat) (o:KOp),i≤j→j < t→ops[j]? = some o→o.kind≠15→o.kind≠16→gvD A' t l' (j+1)=afterF vs o (gvD A' t l' j)
 loop:∀ (j:Nat) (o:KOp) (e:Nat),i≤j→j < t→ops[j]? = some o→o.kind=15→(kEnds ops).getD j 0=(e:Int)→(∀ f∈gvD A' t l' (j+1),knowsF (gvD A' t l' j) f=true∧knowsF (gvD A' t l' e) f=true)∧gvD A' t l' (e+1)=gvD A' t l' e
theorem set_getD {A:List (List Fct)} {i j:Nat} {l:List Fct} (h:i≠j):(A.set i l).getD j []=A.getD j []:=by rw [List.getD_eq_getElem?_getD,List.getD_eq_getElem?_getD,List.getElem?_set_ne h]
theorem set_getD_self {A:List (List Fct)} {i:Nat} {l:List Fct} (h:i < A.length):(A.set i l).getD i []=l:=by rw [List.getD_eq_getElem?_getD,List.getElem?_set_self h];rfl
theorem runD_good {vs:List KVar} {ops:List KOp} (hb:KBal ops) {m:Bool} {i t:Nat} {l l':List Fct} {A A':List (List Fct)} (h:RunD vs ops m i t l A l' A'):∀ (_:A.length=ops.length) (_:FineF l),
   match m with
   | false=>LiveK ops i t→A'.length=A.length∧(∀ j,j < i∨t≤j→A'.getD j []=A.getD j [])∧GoodD vs ops i t l' A'∧gvD A' t l' i=l
   | true=>LiveK ops (i+1) t→A'.length=A.length∧(∀ j,j≤i∨t≤j→A'.getD j []=A.getD j [])∧GoodD vs ops (i+1) t l' A'∧(∀ f∈gvD A' t l' (i+1),f∈l∧knowsF l' f=true):=by
 induction h with
 | @done i t l A h =>
   intro hA hl hL
   have e:i=t:=by have:=hL.le;omega
   subst e
   refine ⟨rfl,fun j _=>rfl,⟨fun j h1 h2=>?_,fun j o h1 h2=>absurd h2 (by omega),fun j o e h1 h2=>absurd h2 (by omega)⟩,gv_end _ _ _⟩
   have:j=i:=by omega
   subst this
   rw [gv_end];exact hl
 | @op i t l A o l' A' hi ho hk hr ih =>
   intro hA hl hL
   obtain ⟨h16,hL1⟩:=hL.op hb hi ho hk
   obtain ⟨g1,g2,g3,g4⟩:=ih (by rw [List.length_set];exact hA) (fine_after hl) hL1
   have hiA:i < A.length:=by have:=hL.len;omega
   have hAi:A'.getD i []=l:=by rw [g2 i (.inl (by omega)),set_getD_self hiA]
   have hgi:gvD A' t l' i=l:=by rw [gv_in (by omega)];exact hAi
   refine ⟨by rw [g1,List.length_set],fun j hj=>?_,⟨fun j h1 h2=>?_,fun j q h1 h2 hq k15 k16=>?_,fun j q e h1 h2 hq k15 he=>?_⟩,hgi⟩
   · rw [g2 j (by omega),set_getD (by omega)]
   · by_cases e:j=i
     · subst e;rw [hgi];exact hl
     · exact g3.fine j (by omega) h2
   · by_cases e:j=i
     · subst e
       rw [ho] at hq;cases hq
       rw [hgi,g4]
     · exact g3.op j q (by omega) h2 hq k15 k16
   · by_cases e':j=i
     · subst e';rw [ho] at hq;cases hq;exact absurd k15 hk
     · exact g3.loop j q e (by omega) h2 hq k15 he
 | @loop i t l A o e l1 A1 l' A' hi ho hk he hl0 hr ihl ihr =>
   intro hA hl hL
   obtain ⟨e',he',h1,h2,hL1,hL2,_⟩:=hL.loop hb hi ho hk
   have:e'=e:=by rw [he] at he';omega
   subst this
   have hiA:i < A.length:=by have:=hL.len;omega
   obtain ⟨g1,g2,g3,g4⟩:=ihl (by rw [List.length_set];exact hA) hl hL1
   have hf1:FineF l1:=by have:=g3.fine e' (by omega) (Nat.le_refl _);rw [gv_end] at this;exact this
   have hA1:A1.length=ops.length:=by rw [g1,List.length_set];exact hA
   obtain ⟨k1,k2,k3,k4⟩:=ihr (by rw [List.length_set];exact hA1) hf1 hL2
   have heA:e' < A1.length:=by have:=hL.len;omega
   have hAe:A'.getD e' []=l1:=by rw [k2 e' (.inl (by omega)),set_getD_self heA]
   have hAi:A'.getD i []=l:=by rw [k2 i (.inl (by omega)),set_getD (by omega),g2 i (.inl (Nat.le_refl _)),set_getD_self hiA]
   have hgi:gvD A' t l' i=l:=by rw [gv_in (by omega)];exact hAi
   have hge:gvD A' t l' e'=l1:=by rw [gv_in (by omega)];exact hAe
   have hin:∀ j,i < j→j≤e'→gvD A' t l' j=gvD A1 e' l1 j:=fun j h3 h4=>by
     by_cases e:j=e'
     · subst e;rw [hge,gv_end]
     · rw [gv_in (by omega),gv_in e,k2 j (.inl (by omega)),set_getD (by omega)]
   refine ⟨by rw [k1,List.length_set,g1,List.length_set],fun j hj=>?_,⟨fun j h3 h4=>?_,fun j q h3 h4 hq k15 k16=>?_,fun j q e h3 h4 hq k15 he2=>?_⟩,hgi⟩
   · rw [k2 j (by omega),set_getD (by omega),g2 j (by omega),set_getD (by omega)]
   · by_cases e:j=i
     · subst e;rw [hgi];exact hl
     · rcases Nat.lt_or_ge e' j with h5 | h5
       · exact k3.fine j (by omega) h4
       · rw [hin j (by omega) h5];exact g3.fine j (by omega) h5
   · by_cases e:j=i
     · subst e;rw [ho] at hq;cases hq;exact absurd hk k15
     · rcases Nat.lt_or_ge j e' with h5 | h5
       · rw [hin j (by omega) (by omega),hin (j+1) (by omega) (by omega)]
         exact g3.op j q (by omega) h5 hq k15 k16
       · by_cases e2:j=e'
         · subst e2
           obtain ⟨_,q',_,_,_,z4,z5,_⟩:=k_loop hb ho hk
           obtain ⟨z,q2,y1,y2,y3,y4,y5,_⟩:=k_loop hb ho hk
           rw [he] at y3
           have:z=j:=by omega
           subst this
           rw [hq] at y4;cases y4
           exact absurd y5 k16
         · exact k3.op j q (by omega) h4 hq k15 k16
   · by_cases e1:j=i
     · subst e1
       rw [ho] at hq;cases hq
       have:e=e':=by rw [he] at he2;omega
       subst this
       refine ⟨fun f hf=>?_,?_⟩
       · rw [hin (j+1) (by omega) (by omega)] at hf
         obtain ⟨z1,z2⟩:=g4 f hf
         exact ⟨by rw [hgi];exact knowsF_mem z1,by rw [hge];exact z2⟩
       · rw [hge];exact k4
     · rcases Nat.lt_or_ge j e' with h5 | h5
       · have hgl:=g3.loop j q e (by omega) h5 hq k15 he2
         have hee:e < e':=by
           obtain ⟨z,q2,y1,y2,y3,y4,y5,y6,y7,y8⟩:=k_loop hb hq k15
           rw [he2] at y3
           have:z=e:=by omega
           subst this
           rcases Nat.lt_or_ge z e' with h6 | h6
           · exact h6
           · have h7:=y6 e' h5 h6
             obtain ⟨z',q3,x1,x2,x3,x4,x5,x6,x7,x8⟩:=k_loop hb ho hk
             rw [he] at x3
             have:z'=e':=by omega
             subst this
             rw [x7] at h7
             rcases List.mem_cons.1 h7 with h7 | h7
             · omega
             · have:=kS_lt ops i j h7;omega
         have hje:j < e:=by
           obtain ⟨z,q2,y1,y2,y3,_⟩:=k_loop hb hq k15
           rw [he2] at y3
           omega
         rw [hin j (by omega) (by omega),hin (j+1) (by omega) (by omega),hin e (by omega) (by omega),hin (e+1) (by omega) (by omega)]
         exact hgl
       · by_cases e2:j=e'
         · subst e2
           obtain ⟨z,q2,y1,y2,y3,y4,y5,_⟩:=k_loop hb ho hk
           rw [he] at y3
           have:z=j:=by omega
           subst this
           rw [hq] at y4;cases y4
           omega
         · exact k3.loop j q e (by omega) h4 hq k15 he2
 | @still i t l A l1 A1 hr hs ih =>
   intro hA hl hL
   obtain ⟨g1,g2,g3,g4⟩:=ih hA hl hL
   refine ⟨g1,fun j hj=>g2 j (by omega),g3,fun f hf=>?_⟩
   rw [g4] at hf
   have h1:l.filter (knowsF l1)=l:=List.filter_sublist.eq_of_length hs
   rw [←h1] at hf
   obtain ⟨h2,h3⟩:=List.mem_filter.1 hf
   exact ⟨h2,h3⟩
 | @more i t l A l1 A1 l' A' hr hs hm ih1 ih2 =>
   intro hA hl hL
   obtain ⟨g1,g2,g3,g4⟩:=ih1 hA hl hL
   obtain ⟨k1,k2,k3,k4⟩:=ih2 (by rw [g1];exact hA) (fine_filter hl _) hL
   exact ⟨by rw [k1,g1],fun j hj=>by rw [k2 j hj,g2 j (by omega)],k3,fun f hf=>⟨(List.mem_filter.1 (k4 f hf).1).1,(k4 f hf).2⟩⟩
end Go.Proofs.YtjbabpnepjhllaaGreat
namespace Go.Proofs.YtjbabpnepjhllaaGreat
def thereK (n:Nat) (x:Int):Bool:=decide (0≤x) && decide (x < n)
def needK (n:Nat) (o:KOp):Bool :=
 o.d == -1 && (o.e == -1 && (o.c == -1 && (thereK n o.a && (if o.imm=2 then thereK n o.b else if o.imm=1∨o.imm=3 then o.b == -1 else false))))
def kHasD (k:Int):Bool:=decide (k≤14)
def kHasE (k:Int):Bool:=k == 14
def kHasA (k:Int):Bool:=decide (2≤k) && decide (k≤13)
def kHasB (k:Int):Bool:=(decide (3≤k) && decide (k≤8)) || (decide (10≤k) && decide (k≤13))
def kHasC (k:Int):Bool:=decide (8≤k) && decide (k≤14)
def partK (n:Nat) (has:Bool) (x:Int):Bool:=if has then thereK n x else x == -1
def partsK (n:Nat) (o:KOp):Bool:=partK n (kHasD o.kind) o.d && (partK n (kHasE o.kind) o.e && (partK n (kHasA o.kind) o.a && (partK n (kHasB o.kind) o.b && partK n (kHasC o.kind) o.c)))
def numK (o:KOp):Bool :=
 if o.kind=1 then true else if o.kind=13 then decide (1≤o.imm) && decide (o.imm≤6) else if o.kind=15 then decide (1≤o.imm) && decide (o.imm≤4096) else decide (o.imm=0)
def takesK (o:KOp):List Int:=[o.a,o.b,o.c].filter (fun v=>decide (0≤v))++(if o.kind=14 then [o.d,o.e] else [])
def varK (vs:List KVar) (v:Int):KVar:=vs.getD v.toNat ⟨0,false,0⟩
def givenK (v:KVar):Bool:=v.mode == 1 || v.mode == 2
def secretK (vs:List KVar) (o:KOp):Bool:=(takesK o).any fun v=>(varK vs v).secret
def intoK (vs:List KVar) (sec:Bool) (v:Int):Bool:=!(decide (0≤v) && (givenK (varK vs v) || (sec && !(varK vs v).secret)))
def alikeK (o:KOp):List Int :=
 if o.kind=6 then [o.a,o.b] else if o.kind=14 then [o.d,o.e] else if o.kind=8 then [o.d,o.a,o.b] else if o.kind=9 then [o.d,o.c]
 else if o.kind=10∨o.kind=11∨o.kind=12 then [o.d,o.a,o.b,o.c] else if o.kind=13 then [o.d,o.a,o.c] else []
def agreeK (vs:List KVar) (o:KOp):Bool:=(alikeK o).all fun v=>(varK vs v).limbs ==(varK vs ((alikeK o).headD 0)).limbs
def oneK (vs:List KVar) (o:KOp):Bool :=
 if o.kind=17 then needK vs.length o
 else decide (1≤o.kind) && (decide (o.kind≤16) && (numK o && (partsK vs.length o && (intoK vs (secretK vs o) o.d && (intoK vs (secretK vs o) o.e && ((decide (o.e < 0) || !(o.d == o.e)) && agreeK vs o))))))
def varOk (v:KVar):Bool:=decide (1≤v.limbs) && (decide (v.limbs≤512) && (decide (0≤v.mode) && decide (v.mode≤3)))
def varTo (vs:List KVar):Nat→Option Nat
 | 0=>some 0
 | k+1=>match varTo vs k,vs[k]? with
   | some n,some v=>if varOk v=false then none else if v.mode=0 then some n else if n < k∨v.secret≠!(v.mode == 1) then none else some (n+1)
   | _,_=>none
def varsK (vs:List KVar):Bool:=match varTo vs vs.length with
 | some n=>decide (1≤vs.length) && (decide (vs.length≤256) && decide (n≤12))
 | none=>false
def outK (vs:List KVar) (v:Int):Bool:=decide (0≤v) && (varK vs v).mode == 3
def reqK (vs:List KVar) (o:KOp):Bool:=o.kind == 17 && (needK vs.length o && (!outK vs o.a && !outK vs o.b))
def opStep (vs:List KVar) (o:KOp) (s:List Bool×Int):Option (List Bool×Int) :=
 if oneK vs o=false then none
 else if (takesK o).any (fun v=>!(s.1.getD v.toNat false))=true then none
 else
   let d:=if o.kind=15 then s.2+1 else if o.kind=16 then s.2 - 1 else s.2
   if d < 0∨4 < d then none else some (if 0≤o.d then s.1.set o.d.toNat true else s.1,d)
def opTo (vs:List KVar) (ops:List KOp):Nat→Option (List Bool×Int)
 | 0=>some (vs.map givenK,0)
 | k+1=>match opTo vs ops k,ops[k]? with
   | some s,some o=>opStep vs o s
   | _,_=>none
def opsK (vs:List KVar) (ops:List KOp):Bool:=match opTo vs ops ops.length with
 | some s=>(List.range vs.length).all (fun i:Nat=>!outK vs (i:Nat) || s.1.getD i false) && s.2 == 0
 | none=>false
def checkK (k:Krn):Bool:=varsK k.vars && (decide (k.ops.length≤4096) && (decide (k.reqs.length≤4096) && (k.reqs.all (reqK k.vars) && opsK k.vars k.ops)))
def errK (k:Krn):Int:=if checkK k then 0 else 2
theorem opTo_some {vs:List KVar} {ops:List KOp}:∀ {n k:Nat},k≤n→∀ {s},opTo vs ops n=some s→∃ t,opTo vs ops k=some t:=by
 intro n
 induction n with
 | zero => intro k hk s h; have : k = 0 := by omega
           subst this;exact ⟨_,h⟩
 | succ n ih =>
   intro k hk s h
   rcases Nat.lt_or_ge k (n+1) with h1 | h1
   · have h2:=h
     simp only [opTo] at h2
     split at h2
     · rename_i t o ht ho
       exact ih (by omega) ht
     · cases h2
   · have:k=n+1:=by omega
     subst this;exact ⟨_,h⟩
theorem opTo_next {vs:List KVar} {ops:List KOp} {k:Nat} {o:KOp} {s t:List Bool×Int} (ho:ops[k]? = some o) (hs:opTo vs ops k=some s) (ht:opTo vs ops (k+1)=some t):opStep vs o s=some t:=by
 simp only [opTo,hs,ho] at ht
 exact ht
theorem opStep_one {vs:List KVar} {o:KOp} {s t:List Bool×Int} (h:opStep vs o s=some t):oneK vs o=true∧t.2=(if o.kind=15 then s.2+1 else if o.kind=16 then s.2 - 1 else s.2)∧0≤t.2∧t.2≤4:=by
 unfold opStep at h
 split at h
 · cases h
 · rename_i h1
   split at h
   · cases h
   · dsimp only at h
     generalize (if o.kind=15 then s.2+1 else if o.kind=16 then s.2 - 1 else s.2)=d at h ⊢
     by_cases h3:d < 0∨4 < d
     · rw [if_pos h3] at h;cases h
     · rw [if_neg h3] at h
       cases h
       exact ⟨by simpa using h1,rfl,by simp only;omega,by simp only;omega⟩
theorem opTo_deep {vs:List KVar} {ops:List KOp}:∀ (k:Nat),k≤ops.length→∀ s,opTo vs ops k=some s→s.2=((kS ops k).length:Nat):=by
 intro k
 induction k with
 | zero=>intro _ s h;cases h;rfl
 | succ k ih =>
   intro hk s h
   obtain ⟨t,ht⟩:=opTo_some (Nat.le_succ k) h
   obtain ⟨o,ho⟩:∃ o,ops[k]? = some o:=⟨_,List.getElem?_eq_getElem (by omega)⟩
   obtain ⟨_,h1,h2,_⟩:=opStep_one (opTo_next ho ht h)
   have h3:=ih (by omega) t ht
   rw [kS_next ho]
   by_cases h15:o.kind=15
   · rw [if_pos h15] at h1 ⊢
     rw [List.length_cons];omega
   · rw [if_neg h15] at h1 ⊢
     by_cases h16:o.kind=16
     · rw [if_pos h16] at h1 ⊢
       rw [List.length_tail];omega
     · rw [if_neg h16] at h1 ⊢
       rw [h1,h3]
theorem opsK_some {vs:List KVar} {ops:List KOp} (h:opsK vs ops=true):∃ s,opTo vs ops ops.length=some s∧s.2=0:=by
 unfold opsK at h
 split at h
 · rename_i s hs
   simp only [Bool.and_eq_true,beq_iff_eq] at h
   exact ⟨s,hs,h.2⟩
 · cases h
theorem opsK_bal {vs:List KVar} {ops:List KOp} (h:opsK vs ops=true):KBal ops:=by
 obtain ⟨s,hs,h0⟩:=opsK_some h
 refine ⟨fun k o ho hk hn=>?_,?_⟩
 · have hlt:k < ops.length:=(List.getElem?_eq_some_iff.1 ho).1
   obtain ⟨t,ht⟩:=opTo_some (Nat.le_of_lt hlt) hs
   obtain ⟨u,hu⟩:=opTo_some (show k+1≤ops.length from hlt) hs
   obtain ⟨_,h1,h2,_⟩:=opStep_one (opTo_next ho ht hu)
   have h3:=opTo_deep k (by omega) t ht
   rw [hn] at h3
   rw [if_neg (by omega),if_pos hk] at h1
   simp at h3
   omega
 · have h1:=opTo_deep ops.length (Nat.le_refl _) s hs
   rw [h0] at h1
   exact List.length_eq_zero_iff.1 (by omega)
theorem opsK_one {vs:List KVar} {ops:List KOp} (h:opsK vs ops=true) {k:Nat} {o:KOp} (ho:ops[k]? = some o):oneK vs o=true:=by
 obtain ⟨s,hs,_⟩:=opsK_some h
 have hlt:k < ops.length:=(List.getElem?_eq_some_iff.1 ho).1
 obtain ⟨t,ht⟩:=opTo_some (Nat.le_of_lt hlt) hs
 obtain ⟨u,hu⟩:=opTo_some (show k+1≤ops.length from hlt) hs
 exact (opStep_one (opTo_next ho ht hu)).1
theorem checkK_parts {k:Krn} (h:checkK k=true):varsK k.vars=true∧k.ops.length≤4096∧k.reqs.length≤4096∧(∀ o∈k.reqs,reqK k.vars o=true)∧opsK k.vars k.ops=true:=by
 unfold checkK at h
 simp only [Bool.and_eq_true,decide_eq_true_eq,List.all_eq_true] at h
 exact h
theorem varsK_len {vs:List KVar} (h:varsK vs=true):1≤vs.length∧vs.length≤256:=by
 unfold varsK at h
 split at h
 · simp only [Bool.and_eq_true,decide_eq_true_eq] at h
   exact ⟨h.1,h.2.1⟩
 · cases h
structure PartsK (n:Nat) (o:KOp):Prop where
 kind:1≤o.kind∧o.kind≤17
 d:if o.kind≤14 then 0≤o.d∧o.d < n else o.d = -1
 e:if o.kind=14 then (0≤o.e∧o.e < n)∧o.d≠o.e else o.e = -1
 a:(2≤o.kind∧o.kind≤13)∨o.kind=17→0≤o.a∧o.a < n
 b:(3≤o.kind∧o.kind≤8)∨(10≤o.kind∧o.kind≤13)→0≤o.b∧o.b < n
 c:8≤o.kind∧o.kind≤14→0≤o.c∧o.c < n
theorem part_yes {n:Nat} {has:Bool} {x:Int} (h:partK n has x=true):if has then 0≤x∧x < n else x = -1:=by
 unfold partK thereK at h
 cases has
 · simpa using h
 · simpa using h
theorem oneK_parts {vs:List KVar} {o:KOp} (h:oneK vs o=true):PartsK vs.length o:=by
 unfold oneK at h
 split at h
 · rename_i h17
   unfold needK thereK at h
   simp only [Bool.and_eq_true,decide_eq_true_eq,beq_iff_eq] at h
   obtain ⟨hd,he,hc,ha,_⟩:=h
   refine ⟨by omega,by rw [if_neg (by omega)];exact hd,by rw [if_neg (by omega)];exact he,fun _=>ha,fun h=>by omega,fun h=>by omega⟩
 · simp only [Bool.and_eq_true,decide_eq_true_eq] at h
   obtain ⟨h1,h16,_,hp,_,_,hde,_⟩:=h
   unfold partsK at hp
   simp only [Bool.and_eq_true] at hp
   obtain ⟨hd,he,ha,hb,hc⟩:=hp
   have hd:=part_yes hd
   have he:=part_yes he
   have ha:=part_yes ha
   have hb:=part_yes hb
   have hc:=part_yes hc
   unfold kHasD at hd
   unfold kHasE at he
   unfold kHasA at ha
   unfold kHasB at hb
   unfold kHasC at hc
   simp only [decide_eq_true_eq,beq_iff_eq,Bool.and_eq_true,Bool.or_eq_true,Bool.not_eq_true'] at hd he ha hb hc hde
   refine ⟨by omega,hd,?_,fun h=>?_,fun h=>?_,fun h=>?_⟩
   · split at he
     · rename_i h14
       rw [if_pos h14]
       refine ⟨he,fun e=>?_⟩
       rcases hde with h | h
       · omega
       · rw [e] at h;simp at h
     · rename_i h14
       rw [if_neg h14];exact he
   · rw [if_pos (by omega)] at ha;exact ha
   · rw [if_pos (by omega)] at hb;exact hb
   · rw [if_pos (by omega)] at hc;exact hc
theorem check_bal {k:Krn} (h:checkK k=true):KBal k.ops:=opsK_bal (checkK_parts h).2.2.2.2
end Go.Proofs.YtjbabpnepjhllaaGreat
