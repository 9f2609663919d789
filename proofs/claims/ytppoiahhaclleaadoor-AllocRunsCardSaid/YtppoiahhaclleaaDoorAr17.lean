/- Part 17 of a claim; what it proves stands in its last text. -/
import Derived.Test.YtppoiahhaclleaaDoorAr16
namespace Go.Proofs.YtppoiahhaclleaaDoor
open Go.RowKit
set_option maxRecDepth 100000
variable {aB aA kV kW aC aD kX kY kZ lA lB lC aE aF aG aH aI aJ aK aL aN aO aP aQ aR aS aT aU aV aW aX aY aZ a8 bA bB bC bD bE bF bG bH bI bJ bK bL bM bN bO bP bQ bS bT bU bV bW bX bY bZ b4 b6 cA cC cD cE cF cG cH cI cJ cK cL cM cN cO cP cQ cR cT cU cV cW cX cY cZ c8 dA dB dC dD dE dF dG dH dI dJ dK dL dM dN dO dP dQ dR dS dT dU dV dW dX dY dZ d7 eA eB eC eD eE eF eG eH eI eJ eK eL eM eN eO eP eQ eR eS eT eU eV eW eX eY eZ fA fB fC fD fE fF fG fH fI fJ fK fL fM fN fO fP fQ fR fS fT fU fV fW fX fY fZ gA gC gD gE gF gG gH gI gJ gK gL gM gN gO gP gQ gR gS gT gU gV gW gX gY gZ g9 hJ hY hZ iA iB iC iD iE iF iG iH iI iJ iK iL iM iO iP iQ iR pR pS pT pU pV pW pX pY : Value}
def SymOk (g n c gb gs m0:Nat) (sp:List (Int×Int)) (rest:List Value) (N:Nat):Prop :=
 ∀ (x u v y:List Int) (a m b:Nat) (w:World),OrdAt w g (x++u++v++y) rest→n=x.length+u.length+v.length+y.length→KeysAt w gb gs m0 sp→(∀ z∈x++u++v++y,0≤z∧z < (m0:Int))→x.length=a→a+u.length=m→m+v.length=b→0 < u.length→0 < v.length→u.length+v.length≤N →
   Calls Tryd.prog 73 #[.slice (some ⟨g,0,none⟩) n c,.int .i64 a,.int .i64 m,.int .i64 b,.func (.func 35) #[] #[.pointer (some ⟨gb,0,none⟩)]] w fun e w'=>e=.returned (.tuple #[])∧∃ s,s.Perm (u++v)∧(Srt (keyF sp) u→Srt (keyF sp) v→Srt (keyF sp) s)∧OrdAt w' g (x++s++y) rest∧Chg (fun k=>k=g) w w'
theorem len4 (x u v y:List Int):(x++u++v++y).length=x.length+u.length+v.length+y.length:=by simp [Nat.add_assoc]
theorem mem_perm {l l':List Int} {P:Int→Prop} (h:∀ z∈l,P z) (hp:l'.Perm l):∀ z∈l',P z:=fun z hz=>h z (hp.mem_iff.1 hz)
theorem perm_mid (x:List Int) {s t:List Int} (y:List Int) (h:s.Perm t):(x++s++y).Perm (x++t++y):=(h.append_left x).append_right y
theorem perm_rot (x u v y:List Int):(x++v++u++y).Perm (x++u++v++y):=by
 rw [List.append_assoc x v u,List.append_assoc x u v]
 exact perm_mid x y List.perm_append_comm
def Halves (key:Int→Int) (g:Nat) (x aA kV p4 mZ y:List Int) (rest:List Value) (w w':World):Prop :=
 ∃ s1 s2:List Int,s1.Perm (aA++p4)∧s2.Perm (kV++mZ)∧(Srt key aA→Srt key p4→Srt key s1)∧(Srt key kV→Srt key mZ→Srt key s2)∧OrdAt w' g (x++s1++s2++y) rest∧Chg (fun k=>k=g) w w'
set_option maxHeartbeats 4000000 in
theorem sm_r38 {mid m q e:Nat} (w:World) (Q:Exit→Act→World→Prop) (he:mid+m=q+e) (hmid:mid≤1000) (hm:m≤1000) (hq:q≤1000)
   (k:∀ (nV nW nX:Value),Q .normal ⟨#[aB,aA,kV,kW,aC,aD,kX,kY,kZ,lA,lB,lC,aE,aF,aG,aH,aI,aJ,aK,.int .i64 ((mid:Int)+(m:Int)),.int .i64 (q:Nat),aN,aO,aP,.int .i64 (e:Nat),aR,aS,aT,aU,aV,aW,aX,aY,aZ,a8,bA,bB,bC,bD,bE,bF,bG,bH,bI,bJ,bK,bL,bM,bN,bO,bP,bQ,bS,bT,bU,bV,bW,bX,bY,bZ,b4,b6,cA,cC,cD,cE,cF,cG,cH,cI,cJ,cK,cL,cM,cN,cO,cP,cQ,cR,cT,cU,cV,cW,cX,cY,cZ,c8,dA,dB,dC,dD,dE,dF,dG,dH,dI,dJ,dK,dL,dM,dN,dO,dP,dQ,dR,dS,dT,dU,dV,dW,dX,dY,dZ,d7,eA,eB,eC,eD,eE,eF,eG,eH,eI,eJ,eK,eL,eM,eN,eO,eP,eQ,eR,eS,eT,eU,eV,eW,eX,eY,eZ,fA,fB,fC,fD,fE,fF,fG,fH,fI,fJ,fK,fL,fM,fN,fO,fP,fQ,fR,fS,fT,fU,fV,fW,fX,fY,fZ,gA,gC,gD,gE,gF,gG,gH,gI,gJ,nV,nW,nX,gN,gO,gP,gQ,gR,gS,gT,gU,gV,gW,gX,gY,gZ,g9,hJ,hY,hZ,iA,iB,iC,iD,iE,iF,iG,iH,iI,iJ,iK,iL,iM,iO,iP,iQ,iR,pR,pS,pT,pU,pV,pW,pX,pY],[]⟩ w):(partR Tryd.f73 38).wp Tryd.prog Q ⟨#[aB,aA,kV,kW,aC,aD,kX,kY,kZ,lA,lB,lC,aE,aF,aG,aH,aI,aJ,aK,.int .i64 ((mid:Int)+(m:Int)),.int .i64 (q:Nat),aN,aO,aP,aQ,aR,aS,aT,aU,aV,aW,aX,aY,aZ,a8,bA,bB,bC,bD,bE,bF,bG,bH,bI,bJ,bK,bL,bM,bN,bO,bP,bQ,bS,bT,bU,bV,bW,bX,bY,bZ,b4,b6,cA,cC,cD,cE,cF,cG,cH,cI,cJ,cK,cL,cM,cN,cO,cP,cQ,cR,cT,cU,cV,cW,cX,cY,cZ,c8,dA,dB,dC,dD,dE,dF,dG,dH,dI,dJ,dK,dL,dM,dN,dO,dP,dQ,dR,dS,dT,dU,dV,dW,dX,dY,dZ,d7,eA,eB,eC,eD,eE,eF,eG,eH,eI,eJ,eK,eL,eM,eN,eO,eP,eQ,eR,eS,eT,eU,eV,eW,eX,eY,eZ,fA,fB,fC,fD,fE,fF,fG,fH,fI,fJ,fK,fL,fM,fN,fO,fP,fQ,fR,fS,fT,fU,fV,fW,fX,fY,fZ,gA,gC,gD,gE,gF,gG,gH,gI,gJ,gK,gL,gM,gN,gO,gP,gQ,gR,gS,gT,gU,gV,gW,gX,gY,gZ,g9,hJ,hY,hZ,iA,iB,iC,iD,iE,iF,iG,iH,iI,iJ,iK,iL,iM,iO,iP,iQ,iR,pR,pS,pT,pU,pV,pW,pX,pY],[]⟩ w:=by
 have HK:=Lh k
 have z1:(mid:Int)+(m:Int) - (q:Int)=(e:Int):=by omega
 have he1:e≤2000:=by omega
 have hm1:mid≤1000:=by omega
 have hm2:m≤1000:=by omega
 have hq1:q≤1000:=by omega
 clear k he
 conv=>arg 2;whnf
 go_wp2
 exact HK.out _ _ _
set_option maxHeartbeats 32000000 in
theorem sm_tail {g n c gb gs m0 a m b mid q e N:Nat} {sp:List (Int×Int)} {x aA kV p4 mZ y:List Int} {rest:List Value} (w:World) (Q:Exit→Act→World→Prop) (IH:SymOk g n c gb gs m0 sp rest N) (hr:OrdAt w g (x++aA++kV++p4++mZ++y) rest) (hl:n=x.length+aA.length+kV.length+p4.length+mZ.length+y.length∧x.length=a∧a+aA.length=q∧q+kV.length=m∧m+p4.length=e∧e+mZ.length=b∧q+p4.length=mid)
   (hk:KeysAt w gb gs m0 sp) (hmem:∀ z∈x++aA++kV++p4++mZ++y,0≤z∧z < (m0:Int)) (hg:gb≠g∧gs≠g) (hn:n≤1000) (hN:aA.length+p4.length≤N∧kV.length+mZ.length≤N)
   (k:∀ (nY nZ n8 n9 oA oW oX oY oZ o8 o9 pA pB p5 p6 p7 p8 p9 qA qB qC qD qE qF qG qH qI qJ qK qL qM qN qO qP qQ qR qS qT qU qV qW qX:Value) (w':World),Halves (keyF sp) g x aA kV p4 mZ y rest w w'→Q .normal ⟨#[.slice (some ⟨g,0,none⟩) n c,.int .i64 (a:Nat),.int .i64 (m:Nat),.int .i64 (b:Nat),.func (.func 35) #[] #[.pointer (some ⟨gb,0,none⟩)],aD,kX,kY,kZ,lA,lB,lC,aE,aF,aG,aH,aI,aJ,.int .i64 (mid:Nat),aL,.int .i64 (q:Nat),aN,aO,aP,.int .i64 (e:Nat),aR,aS,aT,aU,aV,aW,aX,aY,aZ,a8,bA,bB,bC,bD,bE,bF,bG,bH,bI,bJ,bK,bL,bM,bN,bO,bP,bQ,bS,bT,bU,bV,bW,bX,bY,bZ,b4,b6,cA,cC,cD,cE,cF,cG,cH,cI,cJ,cK,cL,cM,cN,cO,cP,cQ,cR,cT,cU,cV,cW,cX,cY,cZ,c8,dA,dB,dC,dD,dE,dF,dG,dH,dI,dJ,dK,dL,dM,dN,dO,dP,dQ,dR,dS,dT,dU,dV,dW,dX,dY,dZ,d7,eA,eB,eC,eD,eE,eF,eG,eH,eI,eJ,eK,eL,eM,eN,eO,eP,eQ,eR,eS,eT,eU,eV,eW,eX,eY,eZ,fA,fB,fC,fD,fE,fF,fG,fH,fI,fJ,fK,fL,fM,fN,fO,fP,fQ,fR,fS,fT,fU,fV,fW,fX,fY,fZ,gA,gC,gD,gE,gF,gG,gH,gI,gJ,gK,gL,gM,nY,nZ,n8,n9,oA,oW,oX,oY,oZ,o8,o9,pA,pB,p5,p6,p7,p8,p9,qA,qB,qC,qD,qE,qF,qG,qH,qI,qJ,qK,qL,qM,qN,qO,qP,qQ,qR,qS,qT,qU,qV,qW,qX],[]⟩ w'):(partT Tryd.f73 38).wp Tryd.prog Q ⟨#[.slice (some ⟨g,0,none⟩) n c,.int .i64 (a:Nat),.int .i64 (m:Nat),.int .i64 (b:Nat),.func (.func 35) #[] #[.pointer (some ⟨gb,0,none⟩)],aD,kX,kY,kZ,lA,lB,lC,aE,aF,aG,aH,aI,aJ,.int .i64 (mid:Nat),aL,.int .i64 (q:Nat),aN,aO,aP,.int .i64 (e:Nat),aR,aS,aT,aU,aV,aW,aX,aY,aZ,a8,bA,bB,bC,bD,bE,bF,bG,bH,bI,bJ,bK,bL,bM,bN,bO,bP,bQ,bS,bT,bU,bV,bW,bX,bY,bZ,b4,b6,cA,cC,cD,cE,cF,cG,cH,cI,cJ,cK,cL,cM,cN,cO,cP,cQ,cR,cT,cU,cV,cW,cX,cY,cZ,c8,dA,dB,dC,dD,dE,dF,dG,dH,dI,dJ,dK,dL,dM,dN,dO,dP,dQ,dR,dS,dT,dU,dV,dW,dX,dY,dZ,d7,eA,eB,eC,eD,eE,eF,eG,eH,eI,eJ,eK,eL,eM,eN,eO,eP,eQ,eR,eS,eT,eU,eV,eW,eX,eY,eZ,fA,fB,fC,fD,fE,fF,fG,fH,fI,fJ,fK,fL,fM,fN,fO,fP,fQ,fR,fS,fT,fU,fV,fW,fX,fY,fZ,gA,gC,gD,gE,gF,gG,gH,gI,gJ,gK,gL,gM,gN,gO,gP,gQ,gR,gS,gT,gU,gV,gW,gX,gY,gZ,g9,hJ,hY,hZ,iA,iB,iC,iD,iE,iF,iG,iH,iI,iJ,iK,iL,iM,iO,iP,iQ,iR,pR,pS,pT,pU,pV,pW,pX,pY],[]⟩ w:=by
 have HK:=Lh k
 have HIH:=Lh IH
 have HR:=Lh hr
 have HA:=Lh hl
 have HKY:=Lh hk
 have HM:=Lh hmem
 have HG:=Lh hg
 have HN:=Lh hN
 have hm1:m≤1000:=by omega
 have ha1:a≤1000:=by omega
 have hb1:b≤1000:=by omega
 have hq1:q≤1000:=by omega
 have he1:e≤1000:=by omega
 have hmid1:mid≤1000:=by omega
 clear k IH hr hl hk hmem hg hN
 conv=>arg 2;whnf
 by_cases d1:q < m
 · by_cases d2:m < e
   · have t1:decide (q < m)=true:=decide_eq_true d1
     have t2:decide (m < e)=true:=decide_eq_true d2
     have HD:=Lh (And.intro d1 d2)
     have HROT:=Lh (rotate_any (g:=g) (n:=n) (c:=c) (a:=q) (m:=m) (b:=e) (x:=x++aA) (u:=kV) (v:=p4) (y:=mZ++y) (rest:=rest) (fv:=.func (.func 35) #[] #[.pointer (some ⟨gb,0,none⟩)]) w (by have:=HR.out;simpa using this) (by have:=HA.out;simp only [List.length_append];omega) hn (by have:=HA.out;rw [List.length_append];omega) (by have:=HA.out;rw [List.length_append];omega) (by have:=HA.out;rw [List.length_append];omega) (by have:=HA.out;omega) (by have:=HA.out;omega))
     clear d1 d2
     go_upto_region 41 with ((with_reducible refine (HROT.out).mono ?_);rintro e_ w3 ⟨rfl,h1,h2⟩;have H3:=Lh (And.intro (show OrdAt w3 g (x++(aA++p4)++(kV++mZ)++y) rest by simpa using h1) h2);clear h1 h2)
     clear t1 t2
     have HP3:=Lh (show (x++(aA++p4)++(kV++mZ)++y).Perm (x++aA++kV++p4++mZ++y) by have:=perm_rot (x++aA) kV p4 (mZ++y);simpa using this)
     by_cases d3:a < q
     · by_cases d4:q < mid
       · have t3:decide (a < q)=true:=decide_eq_true d3
         have t4:decide (q < mid)=true:=decide_eq_true d4
         have HC1:=Lh (HIH.out x aA p4 (kV++mZ++y) a q mid w3 (by have:=H3.out.1;simpa using this) (by have:=HA.out;simp only [List.length_append];omega) (KeysAt.chg HKY.out H3.out.2 HG.out.1 HG.out.2) (mem_perm HM.out (by have:=HP3.out;simpa using this)) HA.out.2.1 (by have:=HA.out;omega) (by have:=HA.out;omega) (by have:=HA.out;omega) (by have:=HA.out;omega) (by have:=HA.out;have:=HN.out;omega))
         clear d3 d4
         go_upto_region 43 with ((with_reducible refine (HC1.out).mono ?_);rintro e_ w4 ⟨rfl,s1,p1,c1,o1,h1⟩;have H4:=Lh (And.intro p1 (And.intro c1 (And.intro (show OrdAt w4 g (x++s1++(kV++mZ)++y) rest by simpa using o1) (H3.out.2.trans h1))));clear p1 c1 o1 h1)
         clear t3 t4
         by_cases d5:mid < e
         · by_cases d6:e < b
           · have t5:decide (mid < e)=true:=decide_eq_true d5
             have t6:decide (e < b)=true:=decide_eq_true d6
             have HL1:=Lh (show s1.length=aA.length+p4.length by rw [H4.out.1.length_eq,List.length_append])
             have HC2:=Lh (HIH.out (x++s1) kV mZ y mid e b w4 (by have:=H4.out.2.2.1;simpa using this) (by have:=HA.out;have:=HL1.out;simp only [List.length_append];omega) (KeysAt.chg HKY.out H4.out.2.2.2 HG.out.1 HG.out.2) (mem_perm HM.out (by have h1:=HP3.out;have h2:=perm_mid x (kV++mZ++y) H4.out.1;refine List.Perm.trans (List.Perm.of_eq ?_) (h2.trans ((List.Perm.of_eq ?_).trans h1)) <;> simp)) (by have:=HA.out;have:=HL1.out;rw [List.length_append];omega) (by have:=HA.out;omega) (by have:=HA.out;omega) (by have:=HA.out;omega) (by have:=HA.out;omega) (by have:=HA.out;have:=HN.out;omega))
             clear d5 d6
             go_wp2_with ((with_reducible refine (HC2.out).mono ?_);rintro e_ w5 ⟨rfl,s2,p2,c2,o2,h2⟩;have H5:=Lh (And.intro p2 (And.intro c2 (And.intro o2 h2)));clear p2 c2 o2 h2)
             exact HK.out _ _ _ _ _ _ _ _ _ _ _ _ _ _ _ _ _ _ _ _ _ _ _ _ _ _ _ _ _ _ _ _ _ _ _ _ _ _ _ _ _ _ _ ⟨s1,s2,H4.out.1,H5.out.1,H4.out.2.1,H5.out.2.1,by have:=H5.out.2.2.1;simpa using this,H4.out.2.2.2.trans H5.out.2.2.2⟩
           · have t5:decide (mid < e)=true:=decide_eq_true d5
             have t6:decide (e < b)=false:=decide_eq_false d6
             have HV2:=Lh (show mZ=[] from List.eq_nil_of_length_eq_zero (by have:=HA.out;omega))
             clear d5 d6
             go_wp2
             exact HK.out _ _ _ _ _ _ _ _ _ _ _ _ _ _ _ _ _ _ _ _ _ _ _ _ _ _ _ _ _ _ _ _ _ _ _ _ _ _ _ _ _ _ _ ⟨s1,kV++mZ,H4.out.1,List.Perm.refl _,H4.out.2.1,(by rw [HV2.out,List.append_nil];exact fun h _=>h),H4.out.2.2.1,H4.out.2.2.2⟩
         · have t5:decide (mid < e)=false:=decide_eq_false d5
           have HV2:=Lh (show kV=[] from List.eq_nil_of_length_eq_zero (by have:=HA.out;omega))
           clear d5
           go_wp2
           exact HK.out _ _ _ _ _ _ _ _ _ _ _ _ _ _ _ _ _ _ _ _ _ _ _ _ _ _ _ _ _ _ _ _ _ _ _ _ _ _ _ _ _ _ _ ⟨s1,kV++mZ,H4.out.1,List.Perm.refl _,H4.out.2.1,(by rw [HV2.out,List.nil_append];exact fun _ h=>h),H4.out.2.2.1,H4.out.2.2.2⟩
       · have t3:decide (a < q)=true:=decide_eq_true d3
         have t4:decide (q < mid)=false:=decide_eq_false d4
         have HV1:=Lh (show p4=[] from List.eq_nil_of_length_eq_zero (by have:=HA.out;omega))
         have H4:=Lh (And.intro (List.Perm.refl (aA++p4)) (And.intro (show Srt (keyF sp) aA→Srt (keyF sp) p4→Srt (keyF sp) (aA++p4) by rw [HV1.out,List.append_nil];exact fun h _=>h) H3.out))
         clear d3 d4
         go_upto_region 43 with fail
         clear t3 t4
         by_cases d5:mid < e
         · by_cases d6:e < b
           · have t5:decide (mid < e)=true:=decide_eq_true d5
             have t6:decide (e < b)=true:=decide_eq_true d6
             have HL1:=Lh (show (aA++p4).length=aA.length+p4.length by rw [H4.out.1.length_eq,List.length_append])
             have HC2:=Lh (HIH.out (x++(aA++p4)) kV mZ y mid e b w3 (by have:=H4.out.2.2.1;simpa using this) (by have:=HA.out;have:=HL1.out;simp only [List.length_append];omega) (KeysAt.chg HKY.out H4.out.2.2.2 HG.out.1 HG.out.2) (mem_perm HM.out (by have h1:=HP3.out;have h2:=perm_mid x (kV++mZ++y) H4.out.1;refine List.Perm.trans (List.Perm.of_eq ?_) (h2.trans ((List.Perm.of_eq ?_).trans h1)) <;> simp)) (by have:=HA.out;have:=HL1.out;rw [List.length_append];omega) (by have:=HA.out;omega) (by have:=HA.out;omega) (by have:=HA.out;omega) (by have:=HA.out;omega) (by have:=HA.out;have:=HN.out;omega))
             clear d5 d6
             go_wp2_with ((with_reducible refine (HC2.out).mono ?_);rintro e_ w5 ⟨rfl,s2,p2,c2,o2,h2⟩;have H5:=Lh (And.intro p2 (And.intro c2 (And.intro o2 h2)));clear p2 c2 o2 h2)
             exact HK.out _ _ _ _ _ _ _ _ _ _ _ _ _ _ _ _ _ _ _ _ _ _ _ _ _ _ _ _ _ _ _ _ _ _ _ _ _ _ _ _ _ _ _ ⟨(aA++p4),s2,H4.out.1,H5.out.1,H4.out.2.1,H5.out.2.1,by have:=H5.out.2.2.1;simpa using this,H4.out.2.2.2.trans H5.out.2.2.2⟩
           · have t5:decide (mid < e)=true:=decide_eq_true d5
             have t6:decide (e < b)=false:=decide_eq_false d6
             have HV2:=Lh (show mZ=[] from List.eq_nil_of_length_eq_zero (by have:=HA.out;omega))
             clear d5 d6
             go_wp2
             exact HK.out _ _ _ _ _ _ _ _ _ _ _ _ _ _ _ _ _ _ _ _ _ _ _ _ _ _ _ _ _ _ _ _ _ _ _ _ _ _ _ _ _ _ _ ⟨(aA++p4),kV++mZ,H4.out.1,List.Perm.refl _,H4.out.2.1,(by rw [HV2.out,List.append_nil];exact fun h _=>h),H4.out.2.2.1,H4.out.2.2.2⟩
         · have t5:decide (mid < e)=false:=decide_eq_false d5
           have HV2:=Lh (show kV=[] from List.eq_nil_of_length_eq_zero (by have:=HA.out;omega))
           clear d5
           go_wp2
           exact HK.out _ _ _ _ _ _ _ _ _ _ _ _ _ _ _ _ _ _ _ _ _ _ _ _ _ _ _ _ _ _ _ _ _ _ _ _ _ _ _ _ _ _ _ ⟨(aA++p4),kV++mZ,H4.out.1,List.Perm.refl _,H4.out.2.1,(by rw [HV2.out,List.nil_append];exact fun _ h=>h),H4.out.2.2.1,H4.out.2.2.2⟩
     · have t3:decide (a < q)=false:=decide_eq_false d3
       have HV1:=Lh (show aA=[] from List.eq_nil_of_length_eq_zero (by have:=HA.out;omega))
       have H4:=Lh (And.intro (List.Perm.refl (aA++p4)) (And.intro (show Srt (keyF sp) aA→Srt (keyF sp) p4→Srt (keyF sp) (aA++p4) by rw [HV1.out,List.nil_append];exact fun _ h=>h) H3.out))
       clear d3
       go_upto_region 43 with fail
       clear t3
       by_cases d5:mid < e
       · by_cases d6:e < b
         · have t5:decide (mid < e)=true:=decide_eq_true d5
           have t6:decide (e < b)=true:=decide_eq_true d6
           have HL1:=Lh (show (aA++p4).length=aA.length+p4.length by rw [H4.out.1.length_eq,List.length_append])
           have HC2:=Lh (HIH.out (x++(aA++p4)) kV mZ y mid e b w3 (by have:=H4.out.2.2.1;simpa using this) (by have:=HA.out;have:=HL1.out;simp only [List.length_append];omega) (KeysAt.chg HKY.out H4.out.2.2.2 HG.out.1 HG.out.2) (mem_perm HM.out (by have h1:=HP3.out;have h2:=perm_mid x (kV++mZ++y) H4.out.1;refine List.Perm.trans (List.Perm.of_eq ?_) (h2.trans ((List.Perm.of_eq ?_).trans h1)) <;> simp)) (by have:=HA.out;have:=HL1.out;rw [List.length_append];omega) (by have:=HA.out;omega) (by have:=HA.out;omega) (by have:=HA.out;omega) (by have:=HA.out;omega) (by have:=HA.out;have:=HN.out;omega))
           clear d5 d6
           go_wp2_with ((with_reducible refine (HC2.out).mono ?_);rintro e_ w5 ⟨rfl,s2,p2,c2,o2,h2⟩;have H5:=Lh (And.intro p2 (And.intro c2 (And.intro o2 h2)));clear p2 c2 o2 h2)
           exact HK.out _ _ _ _ _ _ _ _ _ _ _ _ _ _ _ _ _ _ _ _ _ _ _ _ _ _ _ _ _ _ _ _ _ _ _ _ _ _ _ _ _ _ _ ⟨(aA++p4),s2,H4.out.1,H5.out.1,H4.out.2.1,H5.out.2.1,by have:=H5.out.2.2.1;simpa using this,H4.out.2.2.2.trans H5.out.2.2.2⟩
         · have t5:decide (mid < e)=true:=decide_eq_true d5
           have t6:decide (e < b)=false:=decide_eq_false d6
           have HV2:=Lh (show mZ=[] from List.eq_nil_of_length_eq_zero (by have:=HA.out;omega))
           clear d5 d6
           go_wp2
           exact HK.out _ _ _ _ _ _ _ _ _ _ _ _ _ _ _ _ _ _ _ _ _ _ _ _ _ _ _ _ _ _ _ _ _ _ _ _ _ _ _ _ _ _ _ ⟨(aA++p4),kV++mZ,H4.out.1,List.Perm.refl _,H4.out.2.1,(by rw [HV2.out,List.append_nil];exact fun h _=>h),H4.out.2.2.1,H4.out.2.2.2⟩
       · have t5:decide (mid < e)=false:=decide_eq_false d5
         have HV2:=Lh (show kV=[] from List.eq_nil_of_length_eq_zero (by have:=HA.out;omega))
         clear d5
         go_wp2
         exact HK.out _ _ _ _ _ _ _ _ _ _ _ _ _ _ _ _ _ _ _ _ _ _ _ _ _ _ _ _ _ _ _ _ _ _ _ _ _ _ _ _ _ _ _ ⟨(aA++p4),kV++mZ,H4.out.1,List.Perm.refl _,H4.out.2.1,(by rw [HV2.out,List.nil_append];exact fun _ h=>h),H4.out.2.2.1,H4.out.2.2.2⟩
   · have t1:decide (q < m)=true:=decide_eq_true d1
     have t2:decide (m < e)=false:=decide_eq_false d2
     have HV:=Lh (show p4=[] from List.eq_nil_of_length_eq_zero (by have:=HA.out;omega))
     have H3:=Lh (And.intro (show OrdAt w g (x++(aA++p4)++(kV++mZ)++y) rest by have:=HR.out;rw [HV.out] at this ⊢;simpa using this) (Chg.refl (fun k=>k=g) w))
     clear d1 d2
     go_upto_region 41 with fail
     clear t1 t2
     have HP3:=Lh (show (x++(aA++p4)++(kV++mZ)++y).Perm (x++aA++kV++p4++mZ++y) by have:=perm_rot (x++aA) kV p4 (mZ++y);simpa using this)
     by_cases d3:a < q
     · by_cases d4:q < mid
       · have t3:decide (a < q)=true:=decide_eq_true d3
         have t4:decide (q < mid)=true:=decide_eq_true d4
         have HC1:=Lh (HIH.out x aA p4 (kV++mZ++y) a q mid w (by have:=H3.out.1;simpa using this) (by have:=HA.out;simp only [List.length_append];omega) (KeysAt.chg HKY.out H3.out.2 HG.out.1 HG.out.2) (mem_perm HM.out (by have:=HP3.out;simpa using this)) HA.out.2.1 (by have:=HA.out;omega) (by have:=HA.out;omega) (by have:=HA.out;omega) (by have:=HA.out;omega) (by have:=HA.out;have:=HN.out;omega))
         clear d3 d4
         go_upto_region 43 with ((with_reducible refine (HC1.out).mono ?_);rintro e_ w4 ⟨rfl,s1,p1,c1,o1,h1⟩;have H4:=Lh (And.intro p1 (And.intro c1 (And.intro (show OrdAt w4 g (x++s1++(kV++mZ)++y) rest by simpa using o1) (H3.out.2.trans h1))));clear p1 c1 o1 h1)
         clear t3 t4
         by_cases d5:mid < e
         · by_cases d6:e < b
           · have t5:decide (mid < e)=true:=decide_eq_true d5
             have t6:decide (e < b)=true:=decide_eq_true d6
             have HL1:=Lh (show s1.length=aA.length+p4.length by rw [H4.out.1.length_eq,List.length_append])
             have HC2:=Lh (HIH.out (x++s1) kV mZ y mid e b w4 (by have:=H4.out.2.2.1;simpa using this) (by have:=HA.out;have:=HL1.out;simp only [List.length_append];omega) (KeysAt.chg HKY.out H4.out.2.2.2 HG.out.1 HG.out.2) (mem_perm HM.out (by have h1:=HP3.out;have h2:=perm_mid x (kV++mZ++y) H4.out.1;refine List.Perm.trans (List.Perm.of_eq ?_) (h2.trans ((List.Perm.of_eq ?_).trans h1)) <;> simp)) (by have:=HA.out;have:=HL1.out;rw [List.length_append];omega) (by have:=HA.out;omega) (by have:=HA.out;omega) (by have:=HA.out;omega) (by have:=HA.out;omega) (by have:=HA.out;have:=HN.out;omega))
             clear d5 d6
             go_wp2_with ((with_reducible refine (HC2.out).mono ?_);rintro e_ w5 ⟨rfl,s2,p2,c2,o2,h2⟩;have H5:=Lh (And.intro p2 (And.intro c2 (And.intro o2 h2)));clear p2 c2 o2 h2)
             exact HK.out _ _ _ _ _ _ _ _ _ _ _ _ _ _ _ _ _ _ _ _ _ _ _ _ _ _ _ _ _ _ _ _ _ _ _ _ _ _ _ _ _ _ _ ⟨s1,s2,H4.out.1,H5.out.1,H4.out.2.1,H5.out.2.1,by have:=H5.out.2.2.1;simpa using this,H4.out.2.2.2.trans H5.out.2.2.2⟩
           · have t5:decide (mid < e)=true:=decide_eq_true d5
             have t6:decide (e < b)=false:=decide_eq_false d6
             have HV2:=Lh (show mZ=[] from List.eq_nil_of_length_eq_zero (by have:=HA.out;omega))
             clear d5 d6
             go_wp2
             exact HK.out _ _ _ _ _ _ _ _ _ _ _ _ _ _ _ _ _ _ _ _ _ _ _ _ _ _ _ _ _ _ _ _ _ _ _ _ _ _ _ _ _ _ _ ⟨s1,kV++mZ,H4.out.1,List.Perm.refl _,H4.out.2.1,(by rw [HV2.out,List.append_nil];exact fun h _=>h),H4.out.2.2.1,H4.out.2.2.2⟩
         · have t5:decide (mid < e)=false:=decide_eq_false d5
           have HV2:=Lh (show kV=[] from List.eq_nil_of_length_eq_zero (by have:=HA.out;omega))
           clear d5
           go_wp2
           exact HK.out _ _ _ _ _ _ _ _ _ _ _ _ _ _ _ _ _ _ _ _ _ _ _ _ _ _ _ _ _ _ _ _ _ _ _ _ _ _ _ _ _ _ _ ⟨s1,kV++mZ,H4.out.1,List.Perm.refl _,H4.out.2.1,(by rw [HV2.out,List.nil_append];exact fun _ h=>h),H4.out.2.2.1,H4.out.2.2.2⟩
       · have t3:decide (a < q)=true:=decide_eq_true d3
         have t4:decide (q < mid)=false:=decide_eq_false d4
         have HV1:=Lh (show p4=[] from List.eq_nil_of_length_eq_zero (by have:=HA.out;omega))
         have H4:=Lh (And.intro (List.Perm.refl (aA++p4)) (And.intro (show Srt (keyF sp) aA→Srt (keyF sp) p4→Srt (keyF sp) (aA++p4) by rw [HV1.out,List.append_nil];exact fun h _=>h) H3.out))
         clear d3 d4
         go_upto_region 43 with fail
         clear t3 t4
         by_cases d5:mid < e
         · by_cases d6:e < b
           · have t5:decide (mid < e)=true:=decide_eq_true d5
             have t6:decide (e < b)=true:=decide_eq_true d6
             have HL1:=Lh (show (aA++p4).length=aA.length+p4.length by rw [H4.out.1.length_eq,List.length_append])
             have HC2:=Lh (HIH.out (x++(aA++p4)) kV mZ y mid e b w (by have:=H4.out.2.2.1;simpa using this) (by have:=HA.out;have:=HL1.out;simp only [List.length_append];omega) (KeysAt.chg HKY.out H4.out.2.2.2 HG.out.1 HG.out.2) (mem_perm HM.out (by have h1:=HP3.out;have h2:=perm_mid x (kV++mZ++y) H4.out.1;refine List.Perm.trans (List.Perm.of_eq ?_) (h2.trans ((List.Perm.of_eq ?_).trans h1)) <;> simp)) (by have:=HA.out;have:=HL1.out;rw [List.length_append];omega) (by have:=HA.out;omega) (by have:=HA.out;omega) (by have:=HA.out;omega) (by have:=HA.out;omega) (by have:=HA.out;have:=HN.out;omega))
             clear d5 d6
             go_wp2_with ((with_reducible refine (HC2.out).mono ?_);rintro e_ w5 ⟨rfl,s2,p2,c2,o2,h2⟩;have H5:=Lh (And.intro p2 (And.intro c2 (And.intro o2 h2)));clear p2 c2 o2 h2)
             exact HK.out _ _ _ _ _ _ _ _ _ _ _ _ _ _ _ _ _ _ _ _ _ _ _ _ _ _ _ _ _ _ _ _ _ _ _ _ _ _ _ _ _ _ _ ⟨(aA++p4),s2,H4.out.1,H5.out.1,H4.out.2.1,H5.out.2.1,by have:=H5.out.2.2.1;simpa using this,H4.out.2.2.2.trans H5.out.2.2.2⟩
           · have t5:decide (mid < e)=true:=decide_eq_true d5
             have t6:decide (e < b)=false:=decide_eq_false d6
             have HV2:=Lh (show mZ=[] from List.eq_nil_of_length_eq_zero (by have:=HA.out;omega))
             clear d5 d6
             go_wp2
             exact HK.out _ _ _ _ _ _ _ _ _ _ _ _ _ _ _ _ _ _ _ _ _ _ _ _ _ _ _ _ _ _ _ _ _ _ _ _ _ _ _ _ _ _ _ ⟨(aA++p4),kV++mZ,H4.out.1,List.Perm.refl _,H4.out.2.1,(by rw [HV2.out,List.append_nil];exact fun h _=>h),H4.out.2.2.1,H4.out.2.2.2⟩
         · have t5:decide (mid < e)=false:=decide_eq_false d5
           have HV2:=Lh (show kV=[] from List.eq_nil_of_length_eq_zero (by have:=HA.out;omega))
           clear d5
           go_wp2
           exact HK.out _ _ _ _ _ _ _ _ _ _ _ _ _ _ _ _ _ _ _ _ _ _ _ _ _ _ _ _ _ _ _ _ _ _ _ _ _ _ _ _ _ _ _ ⟨(aA++p4),kV++mZ,H4.out.1,List.Perm.refl _,H4.out.2.1,(by rw [HV2.out,List.nil_append];exact fun _ h=>h),H4.out.2.2.1,H4.out.2.2.2⟩
     · have t3:decide (a < q)=false:=decide_eq_false d3
       have HV1:=Lh (show aA=[] from List.eq_nil_of_length_eq_zero (by have:=HA.out;omega))
       have H4:=Lh (And.intro (List.Perm.refl (aA++p4)) (And.intro (show Srt (keyF sp) aA→Srt (keyF sp) p4→Srt (keyF sp) (aA++p4) by rw [HV1.out,List.nil_append];exact fun _ h=>h) H3.out))
       clear d3
       go_upto_region 43 with fail
       clear t3
       by_cases d5:mid < e
       · by_cases d6:e < b
         · have t5:decide (mid < e)=true:=decide_eq_true d5
           have t6:decide (e < b)=true:=decide_eq_true d6
           have HL1:=Lh (show (aA++p4).length=aA.length+p4.length by rw [H4.out.1.length_eq,List.length_append])
           have HC2:=Lh (HIH.out (x++(aA++p4)) kV mZ y mid e b w (by have:=H4.out.2.2.1;simpa using this) (by have:=HA.out;have:=HL1.out;simp only [List.length_append];omega) (KeysAt.chg HKY.out H4.out.2.2.2 HG.out.1 HG.out.2) (mem_perm HM.out (by have h1:=HP3.out;have h2:=perm_mid x (kV++mZ++y) H4.out.1;refine List.Perm.trans (List.Perm.of_eq ?_) (h2.trans ((List.Perm.of_eq ?_).trans h1)) <;> simp)) (by have:=HA.out;have:=HL1.out;rw [List.length_append];omega) (by have:=HA.out;omega) (by have:=HA.out;omega) (by have:=HA.out;omega) (by have:=HA.out;omega) (by have:=HA.out;have:=HN.out;omega))
           clear d5 d6
           go_wp2_with ((with_reducible refine (HC2.out).mono ?_);rintro e_ w5 ⟨rfl,s2,p2,c2,o2,h2⟩;have H5:=Lh (And.intro p2 (And.intro c2 (And.intro o2 h2)));clear p2 c2 o2 h2)
           exact HK.out _ _ _ _ _ _ _ _ _ _ _ _ _ _ _ _ _ _ _ _ _ _ _ _ _ _ _ _ _ _ _ _ _ _ _ _ _ _ _ _ _ _ _ ⟨(aA++p4),s2,H4.out.1,H5.out.1,H4.out.2.1,H5.out.2.1,by have:=H5.out.2.2.1;simpa using this,H4.out.2.2.2.trans H5.out.2.2.2⟩
         · have t5:decide (mid < e)=true:=decide_eq_true d5
           have t6:decide (e < b)=false:=decide_eq_false d6
           have HV2:=Lh (show mZ=[] from List.eq_nil_of_length_eq_zero (by have:=HA.out;omega))
           clear d5 d6
           go_wp2
           exact HK.out _ _ _ _ _ _ _ _ _ _ _ _ _ _ _ _ _ _ _ _ _ _ _ _ _ _ _ _ _ _ _ _ _ _ _ _ _ _ _ _ _ _ _ ⟨(aA++p4),kV++mZ,H4.out.1,List.Perm.refl _,H4.out.2.1,(by rw [HV2.out,List.append_nil];exact fun h _=>h),H4.out.2.2.1,H4.out.2.2.2⟩
       · have t5:decide (mid < e)=false:=decide_eq_false d5
         have HV2:=Lh (show kV=[] from List.eq_nil_of_length_eq_zero (by have:=HA.out;omega))
         clear d5
         go_wp2
         exact HK.out _ _ _ _ _ _ _ _ _ _ _ _ _ _ _ _ _ _ _ _ _ _ _ _ _ _ _ _ _ _ _ _ _ _ _ _ _ _ _ _ _ _ _ ⟨(aA++p4),kV++mZ,H4.out.1,List.Perm.refl _,H4.out.2.1,(by rw [HV2.out,List.nil_append];exact fun _ h=>h),H4.out.2.2.1,H4.out.2.2.2⟩
 · have t1:decide (q < m)=false:=decide_eq_false d1
   have HV:=Lh (show kV=[] from List.eq_nil_of_length_eq_zero (by have:=HA.out;omega))
   have H3:=Lh (And.intro (show OrdAt w g (x++(aA++p4)++(kV++mZ)++y) rest by have:=HR.out;rw [HV.out] at this ⊢;simpa using this) (Chg.refl (fun k=>k=g) w))
   clear d1
   go_upto_region 41 with fail
   clear t1
   have HP3:=Lh (show (x++(aA++p4)++(kV++mZ)++y).Perm (x++aA++kV++p4++mZ++y) by have:=perm_rot (x++aA) kV p4 (mZ++y);simpa using this)
   by_cases d3:a < q
   · by_cases d4:q < mid
     · have t3:decide (a < q)=true:=decide_eq_true d3
       have t4:decide (q < mid)=true:=decide_eq_true d4
       have HC1:=Lh (HIH.out x aA p4 (kV++mZ++y) a q mid w (by have:=H3.out.1;simpa using this) (by have:=HA.out;simp only [List.length_append];omega) (KeysAt.chg HKY.out H3.out.2 HG.out.1 HG.out.2) (mem_perm HM.out (by have:=HP3.out;simpa using this)) HA.out.2.1 (by have:=HA.out;omega) (by have:=HA.out;omega) (by have:=HA.out;omega) (by have:=HA.out;omega) (by have:=HA.out;have:=HN.out;omega))
       clear d3 d4
       go_upto_region 43 with ((with_reducible refine (HC1.out).mono ?_);rintro e_ w4 ⟨rfl,s1,p1,c1,o1,h1⟩;have H4:=Lh (And.intro p1 (And.intro c1 (And.intro (show OrdAt w4 g (x++s1++(kV++mZ)++y) rest by simpa using o1) (H3.out.2.trans h1))));clear p1 c1 o1 h1)
       clear t3 t4
       by_cases d5:mid < e
       · by_cases d6:e < b
         · have t5:decide (mid < e)=true:=decide_eq_true d5
           have t6:decide (e < b)=true:=decide_eq_true d6
           have HL1:=Lh (show s1.length=aA.length+p4.length by rw [H4.out.1.length_eq,List.length_append])
           have HC2:=Lh (HIH.out (x++s1) kV mZ y mid e b w4 (by have:=H4.out.2.2.1;simpa using this) (by have:=HA.out;have:=HL1.out;simp only [List.length_append];omega) (KeysAt.chg HKY.out H4.out.2.2.2 HG.out.1 HG.out.2) (mem_perm HM.out (by have h1:=HP3.out;have h2:=perm_mid x (kV++mZ++y) H4.out.1;refine List.Perm.trans (List.Perm.of_eq ?_) (h2.trans ((List.Perm.of_eq ?_).trans h1)) <;> simp)) (by have:=HA.out;have:=HL1.out;rw [List.length_append];omega) (by have:=HA.out;omega) (by have:=HA.out;omega) (by have:=HA.out;omega) (by have:=HA.out;omega) (by have:=HA.out;have:=HN.out;omega))
           clear d5 d6
           go_wp2_with ((with_reducible refine (HC2.out).mono ?_);rintro e_ w5 ⟨rfl,s2,p2,c2,o2,h2⟩;have H5:=Lh (And.intro p2 (And.intro c2 (And.intro o2 h2)));clear p2 c2 o2 h2)
           exact HK.out _ _ _ _ _ _ _ _ _ _ _ _ _ _ _ _ _ _ _ _ _ _ _ _ _ _ _ _ _ _ _ _ _ _ _ _ _ _ _ _ _ _ _ ⟨s1,s2,H4.out.1,H5.out.1,H4.out.2.1,H5.out.2.1,by have:=H5.out.2.2.1;simpa using this,H4.out.2.2.2.trans H5.out.2.2.2⟩
         · have t5:decide (mid < e)=true:=decide_eq_true d5
           have t6:decide (e < b)=false:=decide_eq_false d6
           have HV2:=Lh (show mZ=[] from List.eq_nil_of_length_eq_zero (by have:=HA.out;omega))
           clear d5 d6
           go_wp2
           exact HK.out _ _ _ _ _ _ _ _ _ _ _ _ _ _ _ _ _ _ _ _ _ _ _ _ _ _ _ _ _ _ _ _ _ _ _ _ _ _ _ _ _ _ _ ⟨s1,kV++mZ,H4.out.1,List.Perm.refl _,H4.out.2.1,(by rw [HV2.out,List.append_nil];exact fun h _=>h),H4.out.2.2.1,H4.out.2.2.2⟩
       · have t5:decide (mid < e)=false:=decide_eq_false d5
         have HV2:=Lh (show kV=[] from List.eq_nil_of_length_eq_zero (by have:=HA.out;omega))
         clear d5
         go_wp2
         exact HK.out _ _ _ _ _ _ _ _ _ _ _ _ _ _ _ _ _ _ _ _ _ _ _ _ _ _ _ _ _ _ _ _ _ _ _ _ _ _ _ _ _ _ _ ⟨s1,kV++mZ,H4.out.1,List.Perm.refl _,H4.out.2.1,(by rw [HV2.out,List.nil_append];exact fun _ h=>h),H4.out.2.2.1,H4.out.2.2.2⟩
     · have t3:decide (a < q)=true:=decide_eq_true d3
       have t4:decide (q < mid)=false:=decide_eq_false d4
       have HV1:=Lh (show p4=[] from List.eq_nil_of_length_eq_zero (by have:=HA.out;omega))
       have H4:=Lh (And.intro (List.Perm.refl (aA++p4)) (And.intro (show Srt (keyF sp) aA→Srt (keyF sp) p4→Srt (keyF sp) (aA++p4) by rw [HV1.out,List.append_nil];exact fun h _=>h) H3.out))
       clear d3 d4
       go_upto_region 43 with fail
       clear t3 t4
       by_cases d5:mid < e
       · by_cases d6:e < b
         · have t5:decide (mid < e)=true:=decide_eq_true d5
           have t6:decide (e < b)=true:=decide_eq_true d6
           have HL1:=Lh (show (aA++p4).length=aA.length+p4.length by rw [H4.out.1.length_eq,List.length_append])
           have HC2:=Lh (HIH.out (x++(aA++p4)) kV mZ y mid e b w (by have:=H4.out.2.2.1;simpa using this) (by have:=HA.out;have:=HL1.out;simp only [List.length_append];omega) (KeysAt.chg HKY.out H4.out.2.2.2 HG.out.1 HG.out.2) (mem_perm HM.out (by have h1:=HP3.out;have h2:=perm_mid x (kV++mZ++y) H4.out.1;refine List.Perm.trans (List.Perm.of_eq ?_) (h2.trans ((List.Perm.of_eq ?_).trans h1)) <;> simp)) (by have:=HA.out;have:=HL1.out;rw [List.length_append];omega) (by have:=HA.out;omega) (by have:=HA.out;omega) (by have:=HA.out;omega) (by have:=HA.out;omega) (by have:=HA.out;have:=HN.out;omega))
           clear d5 d6
           go_wp2_with ((with_reducible refine (HC2.out).mono ?_);rintro e_ w5 ⟨rfl,s2,p2,c2,o2,h2⟩;have H5:=Lh (And.intro p2 (And.intro c2 (And.intro o2 h2)));clear p2 c2 o2 h2)
           exact HK.out _ _ _ _ _ _ _ _ _ _ _ _ _ _ _ _ _ _ _ _ _ _ _ _ _ _ _ _ _ _ _ _ _ _ _ _ _ _ _ _ _ _ _ ⟨(aA++p4),s2,H4.out.1,H5.out.1,H4.out.2.1,H5.out.2.1,by have:=H5.out.2.2.1;simpa using this,H4.out.2.2.2.trans H5.out.2.2.2⟩
         · have t5:decide (mid < e)=true:=decide_eq_true d5
           have t6:decide (e < b)=false:=decide_eq_false d6
           have HV2:=Lh (show mZ=[] from List.eq_nil_of_length_eq_zero (by have:=HA.out;omega))
           clear d5 d6
           go_wp2
           exact HK.out _ _ _ _ _ _ _ _ _ _ _ _ _ _ _ _ _ _ _ _ _ _ _ _ _ _ _ _ _ _ _ _ _ _ _ _ _ _ _ _ _ _ _ ⟨(aA++p4),kV++mZ,H4.out.1,List.Perm.refl _,H4.out.2.1,(by rw [HV2.out,List.append_nil];exact fun h _=>h),H4.out.2.2.1,H4.out.2.2.2⟩
       · have t5:decide (mid < e)=false:=decide_eq_false d5
         have HV2:=Lh (show kV=[] from List.eq_nil_of_length_eq_zero (by have:=HA.out;omega))
         clear d5
         go_wp2
         exact HK.out _ _ _ _ _ _ _ _ _ _ _ _ _ _ _ _ _ _ _ _ _ _ _ _ _ _ _ _ _ _ _ _ _ _ _ _ _ _ _ _ _ _ _ ⟨(aA++p4),kV++mZ,H4.out.1,List.Perm.refl _,H4.out.2.1,(by rw [HV2.out,List.nil_append];exact fun _ h=>h),H4.out.2.2.1,H4.out.2.2.2⟩
   · have t3:decide (a < q)=false:=decide_eq_false d3
     have HV1:=Lh (show aA=[] from List.eq_nil_of_length_eq_zero (by have:=HA.out;omega))
     have H4:=Lh (And.intro (List.Perm.refl (aA++p4)) (And.intro (show Srt (keyF sp) aA→Srt (keyF sp) p4→Srt (keyF sp) (aA++p4) by rw [HV1.out,List.nil_append];exact fun _ h=>h) H3.out))
     clear d3
     go_upto_region 43 with fail
     clear t3
     by_cases d5:mid < e
     · by_cases d6:e < b
       · have t5:decide (mid < e)=true:=decide_eq_true d5
         have t6:decide (e < b)=true:=decide_eq_true d6
         have HL1:=Lh (show (aA++p4).length=aA.length+p4.length by rw [H4.out.1.length_eq,List.length_append])
         have HC2:=Lh (HIH.out (x++(aA++p4)) kV mZ y mid e b w (by have:=H4.out.2.2.1;simpa using this) (by have:=HA.out;have:=HL1.out;simp only [List.length_append];omega) (KeysAt.chg HKY.out H4.out.2.2.2 HG.out.1 HG.out.2) (mem_perm HM.out (by have h1:=HP3.out;have h2:=perm_mid x (kV++mZ++y) H4.out.1;refine List.Perm.trans (List.Perm.of_eq ?_) (h2.trans ((List.Perm.of_eq ?_).trans h1)) <;> simp)) (by have:=HA.out;have:=HL1.out;rw [List.length_append];omega) (by have:=HA.out;omega) (by have:=HA.out;omega) (by have:=HA.out;omega) (by have:=HA.out;omega) (by have:=HA.out;have:=HN.out;omega))
         clear d5 d6
         go_wp2_with ((with_reducible refine (HC2.out).mono ?_);rintro e_ w5 ⟨rfl,s2,p2,c2,o2,h2⟩;have H5:=Lh (And.intro p2 (And.intro c2 (And.intro o2 h2)));clear p2 c2 o2 h2)
         exact HK.out _ _ _ _ _ _ _ _ _ _ _ _ _ _ _ _ _ _ _ _ _ _ _ _ _ _ _ _ _ _ _ _ _ _ _ _ _ _ _ _ _ _ _ ⟨(aA++p4),s2,H4.out.1,H5.out.1,H4.out.2.1,H5.out.2.1,by have:=H5.out.2.2.1;simpa using this,H4.out.2.2.2.trans H5.out.2.2.2⟩
       · have t5:decide (mid < e)=true:=decide_eq_true d5
         have t6:decide (e < b)=false:=decide_eq_false d6
         have HV2:=Lh (show mZ=[] from List.eq_nil_of_length_eq_zero (by have:=HA.out;omega))
         clear d5 d6
         go_wp2
         exact HK.out _ _ _ _ _ _ _ _ _ _ _ _ _ _ _ _ _ _ _ _ _ _ _ _ _ _ _ _ _ _ _ _ _ _ _ _ _ _ _ _ _ _ _ ⟨(aA++p4),kV++mZ,H4.out.1,List.Perm.refl _,H4.out.2.1,(by rw [HV2.out,List.append_nil];exact fun h _=>h),H4.out.2.2.1,H4.out.2.2.2⟩
     · have t5:decide (mid < e)=false:=decide_eq_false d5
       have HV2:=Lh (show kV=[] from List.eq_nil_of_length_eq_zero (by have:=HA.out;omega))
       clear d5
       go_wp2
       exact HK.out _ _ _ _ _ _ _ _ _ _ _ _ _ _ _ _ _ _ _ _ _ _ _ _ _ _ _ _ _ _ _ _ _ _ _ _ _ _ _ _ _ _ _ ⟨(aA++p4),kV++mZ,H4.out.1,List.Perm.refl _,H4.out.2.1,(by rw [HV2.out,List.nil_append];exact fun _ h=>h),H4.out.2.2.1,H4.out.2.2.2⟩
end Go.Proofs.YtppoiahhaclleaaDoor
namespace Go.Proofs.YtppoiahhaclleaaDoor
open Go.RowKit
set_option maxRecDepth 100000
set_option maxHeartbeats 8000000 in
theorem sym_one {g n c gb gs m0:Nat} {sp:List (Int×Int)} {rest:List Value} (hn:n≤1000) (hm0:m0≤1000) (x v y:List Int) (t:Int) (a m b:Nat) (w:World) (hr:OrdAt w g (x++[t]++v++y) rest) (hl:n=x.length+1+v.length+y.length) (hk:KeysAt w gb gs m0 sp) (hmem:∀ z∈x++[t]++v++y,0≤z∧z < (m0:Int)) (ha:x.length=a) (hm:a+1=m) (hb:m+v.length=b) :
   Calls Tryd.prog 73 #[.slice (some ⟨g,0,none⟩) n c,.int .i64 a,.int .i64 m,.int .i64 b,.func (.func 35) #[] #[.pointer (some ⟨gb,0,none⟩)]] w fun e w'=>e=.returned (.tuple #[])∧∃ s,s.Perm ([t]++v)∧(Srt (keyF sp) [t]→Srt (keyF sp) v→Srt (keyF sp) s)∧OrdAt w' g (x++s++y) rest∧Chg (fun k=>k=g) w w':=by
 have z1:(m:Int) - (a:Int)=1:=by omega
 have hm1:m≤1000:=by omega
 have ha1:a≤1000:=by omega
 have hb1:b≤1000:=by omega
 have HR:=Lh hr
 have HA:=Lh (And.intro hl (And.intro ha (And.intro hm hb)))
 have HK:=Lh hk
 have HM:=Lh hmem
 clear hr hl hk hmem ha hm hb
 go_enter Tryd.func73,Tryd.ntmps73
 go_wp2
 refine wp_code (c:=partL Tryd.f73 0) (by kernel_rfl) ?_
 refine sm_l0 (a:=a) (lo:=m) (hi:=b) (l:=x++[t]++v++y) (rest:=rest) (m0:=m0) (sp:=sp) (gs:=gs) _ _ HR.out (by have:=HA.out;rw [len4];simp only [List.length_singleton];omega) hn HK.out hm0 HM.out (by have:=HA.out;omega) (by have:=HA.out;omega) (by have:=HA.out;omega) ?_
 intro q hbs mO mP mS mT mU mV mW mX lD lE lF lG lH lI lJ lK lL lM lN lO lP lQ lR lS lT w2 h2
 have H2:=Lh h2
 have HBS:=Lh hbs
 have hq1:q≤1000:=by have:=hbs.hi_;omega
 have HO:=Lh (show OrdAt w2 g (x++t :: (v.take (q - m)++(v.drop (q - m)++y))) rest by have:=h2.1;rw [←List.append_assoc (v.take _),List.take_append_drop];simpa using this)
 have HL2:=Lh (show (x++t :: (v.take (q - m)++(v.drop (q - m)++y))).length=n∧n=x.length+(v.take (q - m)).length+(v.drop (q - m)++y).length+1 by
   have:=HA.out;have:=hbs.hi_;have:=hbs.lo_
   simp only [List.length_append,List.length_cons,List.length_take,List.length_drop];omega)
 have HQ:=Lh (show a+1+(v.take (q - m)).length=q by have:=HA.out;have:=hbs.hi_;have:=hbs.lo_;rw [List.length_take];omega)
 clear h2 hbs
 go_wp2
 refine wp_code (c:=partL Tryd.f73 2) (by kernel_rfl) ?_
 refine sm_l2 (a:=a) (q:=q) (rest:=rest) _ _ HO.out HL2.out hn HA.out.2.1 HQ.out ?_
 intro nA lV lW lX lY lZ l5 l6 l7 l8 l9 mA mB mC mD mE mF mG mH mI mJ mY iS w3 h3
 have H3:=Lh h3
 clear h3
 go_wp2
 refine bodyPost_ret (v:=.tuple #[]) (results_none rfl _ _ _) rfl ?_
 refine ⟨rfl,v.take (q - m)++t :: v.drop (q - m),?_,fun _ hv=>bs_one (y:=y) HA.out.2.1 HA.out.2.2.1 HA.out.2.2.2 HBS.out hv,by have:=H3.out.1;simpa using this,(Chg.of_below H2.out.2).trans H3.out.2⟩
 refine List.perm_middle.trans ?_
 rw [List.take_append_drop]
set_option maxHeartbeats 8000000 in
theorem sym_two {g n c gb gs m0:Nat} {sp:List (Int×Int)} {rest:List Value} (hn:n≤1000) (hm0:m0≤1000) (x u y:List Int) (t:Int) (a m b:Nat) (w:World) (hr:OrdAt w g (x++u++[t]++y) rest) (hl:n=x.length+u.length+1+y.length) (hk:KeysAt w gb gs m0 sp) (hmem:∀ z∈x++u++[t]++y,0≤z∧z < (m0:Int)) (ha:x.length=a) (hm:a+u.length=m) (hb:m+1=b) (hu:u.length≠1) :
   Calls Tryd.prog 73 #[.slice (some ⟨g,0,none⟩) n c,.int .i64 a,.int .i64 m,.int .i64 b,.func (.func 35) #[] #[.pointer (some ⟨gb,0,none⟩)]] w fun e w'=>e=.returned (.tuple #[])∧∃ s,s.Perm (u++[t])∧(Srt (keyF sp) u→Srt (keyF sp) [t]→Srt (keyF sp) s)∧OrdAt w' g (x++s++y) rest∧Chg (fun k=>k=g) w w':=by
 obtain ⟨lu,hlu⟩:∃ q,u.length=q:=⟨_,rfl⟩
 have z0:(m:Int) - (a:Int)=(lu:Int):=by omega
 have z1:(b:Int) - (m:Int)=1:=by omega
 have z2:((lu:Int) == 1)=false:=by rw [beq_eq_false_iff_ne];omega
 have hm1:m≤1000:=by omega
 have ha1:a≤1000:=by omega
 have hb1:b≤1000:=by omega
 have hlu1:lu≤1000:=by omega
 have HR:=Lh hr
 have HA:=Lh (And.intro hl (And.intro ha (And.intro hm hb)))
 have HK:=Lh hk
 have HM:=Lh hmem
 clear hr hl hk hmem ha hm hb hu hlu
 go_enter Tryd.func73,Tryd.ntmps73
 go_wp2
 refine wp_code (c:=partL Tryd.f73 4) (by kernel_rfl) ?_
 refine sm_l4 (a:=m) (lo:=a) (hi:=m) (l:=x++u++[t]++y) (rest:=rest) (m0:=m0) (sp:=sp) (gs:=gs) _ _ HR.out (by have:=HA.out;rw [len4];simp only [List.length_singleton];omega) hn HK.out hm0 HM.out (by have:=HA.out;omega) (by have:=HA.out;omega) (by have:=HA.out;omega) ?_
 intro q hbs pQ pZ iZ i7 i8 i9 jA jB jC jD jE jF jG jH jI jJ jK jL jM jO jP jQ jR jS jT jU w2 h2
 have H2:=Lh h2
 have HBS:=Lh hbs
 have hq1:q≤1000:=by have:=hbs.hi_;omega
 have HO:=Lh (show OrdAt w2 g ((x++u.take (q - a))++u.drop (q - a)++t :: y) rest by have:=h2.1;rw [List.append_assoc x,List.take_append_drop];simpa using this)
 have HL2:=Lh (show n=(x++u.take (q - a)).length+(u.drop (q - a)).length+y.length+1 by
   have:=HA.out;have:=hbs.hi_;have:=hbs.lo_
   simp only [List.length_append,List.length_take,List.length_drop];omega)
 have HQ:=Lh (show (x++u.take (q - a)).length=q by have:=HA.out;have:=hbs.hi_;have:=hbs.lo_;rw [List.length_append,List.length_take];omega)
 have HQ2:=Lh (show q+(u.drop (q - a)).length=m by have:=HA.out;have:=hbs.hi_;have:=hbs.lo_;rw [List.length_drop];omega)
 clear h2 hbs
 go_wp2
 refine wp_code (c:=partL Tryd.f73 6) (by kernel_rfl) ?_
 refine sm_l6 (a:=q) (q:=m) (rest:=rest) _ _ HO.out HL2.out hn HQ.out HQ2.out ?_
 intro p3 jW jX jY jZ j5 j6 j7 j8 j9 kF kG kH kI kJ kK kL kN kO kP kQ kR w3 h3
 have H3:=Lh h3
 clear h3
 go_wp2
 refine bodyPost_ret (v:=.tuple #[]) (results_none rfl _ _ _) rfl ?_
 refine ⟨rfl,u.take (q - a)++t :: u.drop (q - a),?_,fun hu _=>bs_two (y:=y) HA.out.2.1 HA.out.2.2.1 HBS.out hu,by have:=H3.out.1;simpa using this,(Chg.of_below H2.out.2).trans H3.out.2⟩
 refine List.perm_middle.trans ?_
 rw [List.take_append_drop]
 exact (List.perm_append_comm (l₁:=[t]) (l₂:=u))
set_option maxHeartbeats 32000000 in
theorem sym_gen {g n c gb gs m0:Nat} {sp:List (Int×Int)} {rest:List Value} {N:Nat} (IH:SymOk g n c gb gs m0 sp rest N) (hn:n≤1000) (hm0:m0≤1000) (hg:gb≠g∧gs≠g) (x u v y:List Int) (a m b:Nat) (w:World) (hr:OrdAt w g (x++u++v++y) rest) (hl:n=x.length+u.length+v.length+y.length) (hk:KeysAt w gb gs m0 sp) (hmem:∀ z∈x++u++v++y,0≤z∧z < (m0:Int)) (ha:x.length=a) (hm:a+u.length=m) (hb:m+v.length=b) (hu:1 < u.length) (hv:1 < v.length) (hN:u.length+v.length≤N+1) :
   Calls Tryd.prog 73 #[.slice (some ⟨g,0,none⟩) n c,.int .i64 a,.int .i64 m,.int .i64 b,.func (.func 35) #[] #[.pointer (some ⟨gb,0,none⟩)]] w fun e w'=>e=.returned (.tuple #[])∧∃ s,s.Perm (u++v)∧(Srt (keyF sp) u→Srt (keyF sp) v→Srt (keyF sp) s)∧OrdAt w' g (x++s++y) rest∧Chg (fun k=>k=g) w w':=by
 obtain ⟨lu,hlu⟩:∃ q,u.length=q:=⟨_,rfl⟩
 obtain ⟨lv,hlv⟩:∃ q,v.length=q:=⟨_,rfl⟩
 have z0:(m:Int) - (a:Int)=(lu:Int):=by omega
 have z1:(b:Int) - (m:Int)=(lv:Int):=by omega
 have z2:((lu:Int) == 1)=false:=by rw [beq_eq_false_iff_ne];omega
 have z3:((lv:Int) == 1)=false:=by rw [beq_eq_false_iff_ne];omega
 have hm1:m≤1000:=by omega
 have ha1:a≤1000:=by omega
 have hb1:b≤1000:=by omega
 have hlu1:lu≤1000:=by omega
 have hlv1:lv≤1000:=by omega
 have HR:=Lh hr
 have HA:=Lh (And.intro hl (And.intro ha (And.intro hm (And.intro hb (And.intro hu (And.intro hv hN))))))
 have HK:=Lh hk
 have HM:=Lh hmem
 have HLU:=Lh (And.intro hlu hlv)
 have HIH:=Lh IH
 clear hr hl hk hmem ha hm hb hu hv hlu hlv hN IH
 go_enter Tryd.func73,Tryd.ntmps73
 go_upto_region 24 with fail
 refine wp_code (c:=partR Tryd.f73 24) (by kernel_rfl) ?_
 refine sm_r24 (i:=a) (j:=b) _ _ ha1 hb1 ?_
 intro kS kT kU m5 m6 m7
 obtain ⟨mid,hmid⟩:∃ q,(a+b) / 2=q:=⟨_,rfl⟩
 rw [hmid]
 have HMID:=Lh hmid
 have hmid1:mid≤1000:=by omega
 clear hmid z0 z1 z2 z3
 obtain ⟨p,hp⟩:∃ q,mid+m - 1=q:=⟨_,rfl⟩
 have z4:(mid:Int)+(m:Int) - 1=(p:Int):=by have:=HMID.out;have:=HA.out;have:=HLU.out;omega
 have hp1:p≤2000:=by omega
 have HPP:=Lh hp
 clear hp
 by_cases hc:mid < m
 · obtain ⟨s0,hs0⟩:∃ q,mid+m - b=q:=⟨_,rfl⟩
   have z5:(mid:Int)+(m:Int) - (b:Int)=(s0:Int):=by have:=HMID.out;have:=HA.out;have:=HLU.out;omega
   have hs01:s0≤1000:=by have:=HA.out;have:=HLU.out;omega
   have HS:=Lh (And.intro hc hs0.symm)
   have hcd:decide (mid < m)=true:=decide_eq_true hc
   clear hs0 hc
   have HSR:=Lh (show s0≤mid∧mid≤n by
     have:=HA.out;have:=HLU.out;have:=HMID.out;have:=HPP.out
     have:=HS.out;omega)
   have HPC:Hid (∀ q,s0≤q→q < mid→q≤p∧p - q < n∧q < n):=Lh (by
     intro q h1 h2
     have:=HA.out;have:=HLU.out;have:=HMID.out;have:=HPP.out
     have:=HS.out;omega)
   go_wp2
   refine wp_code (c:=partL Tryd.f73 8) (by kernel_rfl) ?_
   refine sm_l8 (p:=p) (lo:=s0) (hi:=mid) (l:=x++u++v++y) (rest:=rest) (m0:=m0) (sp:=sp) (gs:=gs) _ _ HR.out (by have:=HA.out;rw [len4];omega) hn HK.out hm0 HM.out HPC.out HSR.out.1 HSR.out.2 ?_
   intro q hbs pH pJ oO oP oQ oS oT oU oV nB nC nD nE nF nG nH nI nJ nK nL nM nN nO nP nR nS nT nU w2 h2
   have H2:=Lh h2
   have HBS:=Lh hbs
   have h1:=hbs.lo_
   have h3:=hbs.hi_
   have HQ:=Lh (show a≤q∧q≤m∧q≤mid∧mid - q≤v.length∧q - a≤u.length∧(u.take (q - a)).length=q - a∧(u.drop (q - a)).length=m - q∧(v.take (mid - q)).length=mid - q∧(v.drop (mid - q)).length=b - m - (mid - q)∧m+(mid - q)≤b by
     have:=HA.out;have:=HLU.out;have:=HMID.out
     have e1:(u.take (q - a)).length=min (q - a) u.length:=List.length_take
     have e2:(v.take (mid - q)).length=min (mid - q) v.length:=List.length_take
     have e3:(u.drop (q - a)).length=u.length - (q - a):=List.length_drop
     have e4:(v.drop (mid - q)).length=v.length - (mid - q):=List.length_drop
     have:=HS.out;omega)
   have hq1:q≤1000:=by have:=HQ.out;omega
   obtain ⟨e,he⟩:∃ e,mid+m - q=e:=⟨_,rfl⟩
   have HE:=Lh he
   have HCR:=Lh (fun (hu:Srt (keyF sp) u) (hv:Srt (keyF sp) v)=>bs_gen (y:=y) HA.out.2.1 HA.out.2.2.1 HA.out.2.2.2.1 HMID.out.symm (by have:=HA.out;omega) (by have:=HA.out;omega) (.inl ⟨HS.out.1,HS.out.2,rfl⟩) (by rw [HPP.out];exact HBS.out) hu hv)
   clear h2 hbs h1 h3 he z4
   go_upto_region 38 with fail
   refine wp_code (c:=partR Tryd.f73 38) (by kernel_rfl) ?_
   refine sm_r38 (mid:=mid) (m:=m) (q:=q) (e:=e) _ _ (by have:=HE.out;have:=HQ.out;omega) hmid1 hm1 hq1 ?_
   intro nV nW nX
   rename_i K_ hK_
   refine hK_ _ _ ?_
   clear hK_
   refine wp_code (c:=partT Tryd.f73 38) (by kernel_rfl) ?_
   refine sm_tail (gb:=gb) (gs:=gs) (m0:=m0) (sp:=sp) (x:=x) (aA:=u.take (q - a)) (kV:=u.drop (q - a)) (p4:=v.take (mid - q)) (mZ:=v.drop (mid - q)) (y:=y) (rest:=rest) (N:=N) _ _ HIH.out (by rw [List.append_assoc x (u.take _),List.take_append_drop,List.append_assoc (x++u),List.take_append_drop];exact H2.out.1) (by have:=HA.out;have:=HLU.out;have:=HQ.out;have:=HE.out;have:=HMID.out;omega) (HK.out.next H2.out.2) (by rw [List.append_assoc x (u.take _),List.take_append_drop,List.append_assoc (x++u),List.take_append_drop];exact HM.out) hg hn (by have:=HA.out;have:=HLU.out;have:=HQ.out;have:=HMID.out;omega) ?_
   intro nY nZ n8 n9 oA oW oX oY oZ o8 o9 pA pB p5 p6 p7 p8 p9 qA qB qC qD qE qF qG qH qI qJ qK qL qM qN qO qP qQ qR qS qT qU qV qW qX w3 h3
   obtain ⟨s1,s2,p1,p2,c1,c2,o1,h3⟩:=h3
   refine bodyPost_end (v:=.tuple #[]) (results_none rfl _ _ _) rfl ?_
   refine ⟨rfl,s1++s2,?_,fun hu hv=>?_,by simpa using o1,(Chg.of_below H2.out.2).trans h3⟩
   · have:=merge_perm p1 p2
     rw [List.take_append_drop,List.take_append_drop] at this
     exact this
   · exact merge_sorted p1 p2 c1 c2 (by rw [List.take_append_drop];exact hu) (by rw [List.take_append_drop];exact hv) (HCR.out hu hv).1 (HCR.out hu hv).2
 · have HS:=Lh (show m≤mid by omega)
   have hcd:decide (mid < m)=false:=decide_eq_false hc
   clear hc
   have HSR:=Lh (show a≤m∧m≤n by
     have:=HA.out;have:=HLU.out;have:=HMID.out;have:=HPP.out
     have:=HS.out;omega)
   have HPC:Hid (∀ q,a≤q→q < m→q≤p∧p - q < n∧q < n):=Lh (by
     intro q h1 h2
     have:=HA.out;have:=HLU.out;have:=HMID.out;have:=HPP.out
     have:=HS.out;omega)
   go_wp2
   refine wp_code (c:=partL Tryd.f73 8) (by kernel_rfl) ?_
   refine sm_l8 (p:=p) (lo:=a) (hi:=m) (l:=x++u++v++y) (rest:=rest) (m0:=m0) (sp:=sp) (gs:=gs) _ _ HR.out (by have:=HA.out;rw [len4];omega) hn HK.out hm0 HM.out HPC.out HSR.out.1 HSR.out.2 ?_
   intro q hbs pH pJ oO oP oQ oS oT oU oV nB nC nD nE nF nG nH nI nJ nK nL nM nN nO nP nR nS nT nU w2 h2
   have H2:=Lh h2
   have HBS:=Lh hbs
   have h1:=hbs.lo_
   have h3:=hbs.hi_
   have HQ:=Lh (show a≤q∧q≤m∧q≤mid∧mid - q≤v.length∧q - a≤u.length∧(u.take (q - a)).length=q - a∧(u.drop (q - a)).length=m - q∧(v.take (mid - q)).length=mid - q∧(v.drop (mid - q)).length=b - m - (mid - q)∧m+(mid - q)≤b by
     have:=HA.out;have:=HLU.out;have:=HMID.out
     have e1:(u.take (q - a)).length=min (q - a) u.length:=List.length_take
     have e2:(v.take (mid - q)).length=min (mid - q) v.length:=List.length_take
     have e3:(u.drop (q - a)).length=u.length - (q - a):=List.length_drop
     have e4:(v.drop (mid - q)).length=v.length - (mid - q):=List.length_drop
     have:=HS.out;omega)
   have hq1:q≤1000:=by have:=HQ.out;omega
   obtain ⟨e,he⟩:∃ e,mid+m - q=e:=⟨_,rfl⟩
   have HE:=Lh he
   have HCR:=Lh (fun (hu:Srt (keyF sp) u) (hv:Srt (keyF sp) v)=>bs_gen (y:=y) HA.out.2.1 HA.out.2.2.1 HA.out.2.2.2.1 HMID.out.symm (by have:=HA.out;omega) (by have:=HA.out;omega) (.inr ⟨HS.out,rfl,rfl⟩) (by rw [HPP.out];exact HBS.out) hu hv)
   clear h2 hbs h1 h3 he z4
   go_upto_region 38 with fail
   refine wp_code (c:=partR Tryd.f73 38) (by kernel_rfl) ?_
   refine sm_r38 (mid:=mid) (m:=m) (q:=q) (e:=e) _ _ (by have:=HE.out;have:=HQ.out;omega) hmid1 hm1 hq1 ?_
   intro nV nW nX
   rename_i K_ hK_
   refine hK_ _ _ ?_
   clear hK_
   refine wp_code (c:=partT Tryd.f73 38) (by kernel_rfl) ?_
   refine sm_tail (gb:=gb) (gs:=gs) (m0:=m0) (sp:=sp) (x:=x) (aA:=u.take (q - a)) (kV:=u.drop (q - a)) (p4:=v.take (mid - q)) (mZ:=v.drop (mid - q)) (y:=y) (rest:=rest) (N:=N) _ _ HIH.out (by rw [List.append_assoc x (u.take _),List.take_append_drop,List.append_assoc (x++u),List.take_append_drop];exact H2.out.1) (by have:=HA.out;have:=HLU.out;have:=HQ.out;have:=HE.out;have:=HMID.out;omega) (HK.out.next H2.out.2) (by rw [List.append_assoc x (u.take _),List.take_append_drop,List.append_assoc (x++u),List.take_append_drop];exact HM.out) hg hn (by have:=HA.out;have:=HLU.out;have:=HQ.out;have:=HMID.out;omega) ?_
   intro nY nZ n8 n9 oA oW oX oY oZ o8 o9 pA pB p5 p6 p7 p8 p9 qA qB qC qD qE qF qG qH qI qJ qK qL qM qN qO qP qQ qR qS qT qU qV qW qX w3 h3
   obtain ⟨s1,s2,p1,p2,c1,c2,o1,h3⟩:=h3
   refine bodyPost_end (v:=.tuple #[]) (results_none rfl _ _ _) rfl ?_
   refine ⟨rfl,s1++s2,?_,fun hu hv=>?_,by simpa using o1,(Chg.of_below H2.out.2).trans h3⟩
   · have:=merge_perm p1 p2
     rw [List.take_append_drop,List.take_append_drop] at this
     exact this
   · exact merge_sorted p1 p2 c1 c2 (by rw [List.take_append_drop];exact hu) (by rw [List.take_append_drop];exact hv) (HCR.out hu hv).1 (HCR.out hu hv).2
theorem sym_all {g n c gb gs m0:Nat} {sp:List (Int×Int)} {rest:List Value} (hn:n≤1000) (hm0:m0≤1000) (hg:gb≠g∧gs≠g):∀ N,SymOk g n c gb gs m0 sp rest N:=by
 intro N
 induction N with
 | zero=>intro x u v y a m b w _ _ _ _ _ _ _ hu _ hN;omega
 | succ N ih =>
   intro x u v y a m b w hr hl hk hmem ha hm hb hu hv hN
   by_cases h1:u.length=1
   · obtain ⟨t,rfl⟩:=List.length_eq_one_iff.1 h1
     exact sym_one hn hm0 x v y t a m b w hr (by rw [hl];rfl) hk hmem ha hm hb
   · by_cases h2:v.length=1
     · obtain ⟨t,rfl⟩:=List.length_eq_one_iff.1 h2
       exact sym_two hn hm0 x u y t a m b w hr (by rw [hl];rfl) hk hmem ha hm hb h1
     · exact sym_gen ih hn hm0 hg x u v y a m b w hr hl hk hmem ha hm hb (by omega) (by omega) (by omega)
end Go.Proofs.YtppoiahhaclleaaDoor
