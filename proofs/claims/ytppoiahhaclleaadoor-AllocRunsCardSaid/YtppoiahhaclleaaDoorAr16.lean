/- Part 16 of a claim; what it proves stands in its last text. -/
import Derived.Test.YtppoiahhaclleaaDoorAr15
namespace Go.Proofs.YtppoiahhaclleaaDoor
open Go.RowKit
set_option maxRecDepth 100000
def swr (A U M V B:List Int) (k:Nat):List Int:=A++V.take k++U.drop k++M++U.take k++V.drop k++B
theorem swr_zero (A U M V B:List Int):swr A U M V B 0=A++U++M++V++B:=by simp [swr]
theorem swr_all {A U M V B:List Int} (h:U.length=V.length):swr A U M V B U.length=A++V++M++U++B:=by
 unfold swr
 rw [List.take_of_length_le (l:=V) (by omega),List.drop_of_length_le (l:=U) (Nat.le_refl _),List.take_of_length_le (l:=U) (Nat.le_refl _),List.drop_of_length_le (l:=V) (by omega)]
 simp
theorem swr_len (A U M V B:List Int) (k:Nat) (h:U.length=V.length):(swr A U M V B k).length=A.length+U.length+M.length+V.length+B.length:=by
 simp only [swr,List.length_append,List.length_take,List.length_drop];omega
theorem swr_step {A U M V B:List Int} {k:Nat} (h:U.length=V.length) (hk:k < U.length):swapL (swr A U M V B k) (A.length+k) (A.length+U.length+M.length+k)=swr A U M V B (k+1):=by
 obtain ⟨s,hs⟩:∃ s,U[k]? = some s:=⟨_,List.getElem?_eq_getElem hk⟩
 obtain ⟨t,ht⟩:∃ s,V[k]? = some s:=⟨_,List.getElem?_eq_getElem (by omega)⟩
 have e1:U.drop k=s :: U.drop (k+1):=by rw [List.drop_eq_getElem_cons hk,(List.getElem?_eq_some_iff.1 hs).2]
 have e2:V.drop k=t :: V.drop (k+1):=by rw [List.drop_eq_getElem_cons (by omega),(List.getElem?_eq_some_iff.1 ht).2]
 have e3:U.take (k+1)=U.take k++[s]:=by rw [List.take_add_one,hs];rfl
 have e4:V.take (k+1)=V.take k++[t]:=by rw [List.take_add_one,ht];rfl
 have h1:=swap_app (A++V.take k) (U.drop (k+1)++M++U.take k) (V.drop (k+1)++B) s t
 have l1:(A++V.take k).length=A.length+k:=by rw [List.length_append,List.length_take];omega
 have l2:(A++V.take k).length+1+(U.drop (k+1)++M++U.take k).length=A.length+U.length+M.length+k:=by
   simp only [List.length_append,List.length_take,List.length_drop];omega
 rw [l2,l1] at h1
 have a1:swr A U M V B k=(A++V.take k)++s :: ((U.drop (k+1)++M++U.take k)++t :: (V.drop (k+1)++B)):=by
   unfold swr;rw [e1,e2];simp
 have a2:swr A U M V B (k+1)=(A++V.take k)++t :: ((U.drop (k+1)++M++U.take k)++s :: (V.drop (k+1)++B)):=by
   unfold swr;rw [e3,e4];simp
 rw [a1,h1,a2]
set_option maxHeartbeats 4000000 in
theorem swapRange_any {g n c a b k0:Nat} {A U M V B:List Int} {rest:List Value} {fv:Value} (w:World) (hr:OrdAt w g (A++U++M++V++B) rest) (hl:(A++U++M++V++B).length=n) (hn:n≤1000) (hUV:U.length=V.length) (ha:A.length=a) (hb:A.length+U.length+M.length=b) (hk0:U.length=k0) :
   Calls Tryd.prog 98 #[.slice (some ⟨g,0,none⟩) n c,.int .i64 a,.int .i64 b,.int .i64 k0,fv] w fun e w'=>e=.returned (.tuple #[])∧OrdAt w' g (A++V++M++U++B) rest∧Chg (fun k=>k=g) w w':=by
 have hlen:A.length+U.length+M.length+V.length+B.length=n:=by simpa [Nat.add_assoc] using hl
 have HS:=Lh (fun k=>swr_len A U M V B k hUV)
 have HI:=Lh (show OrdAt w g (swr A U M V B 0) rest by rw [swr_zero];exact hr)
 have HF:=Lh (show swr A U M V B k0=A++V++M++U++B by rw [←hk0];exact swr_all hUV)
 have HT:=Lh (fun k (hk:k < U.length)=>swr_step (A:=A) (M:=M) (B:=B) hUV hk)
 have HA:=Lh (And.intro hlen (And.intro ha (And.intro hb (And.intro hk0 hUV))))
 have hk1:k0≤1000:=by omega
 clear hr hl hUV ha hb hk0 hlen
 go_enter Tryd.func98,Tryd.ntmps98
 go_wp2
 go_loopw [10] (fun vi wr=>∃ (k:Nat),vi=.int .i64 k∧k≤k0∧Hid (OrdAt wr g (swr A U M V B k) rest∧Chg (fun k=>k=g) w wr)) (fun vi _=>k0 - (intOf vi).toNat)
 case atStart=>exact ⟨0,rfl,Nat.zero_le _,Lh ⟨HI.out,Chg.refl _ _⟩⟩
 case round =>
   clear HI
   obtain ⟨k,rfl,hk,HJ⟩:=hrel
   by_cases hlt:k < k0
   · go_upto_region 3 with fail
     refine wp_code (c:=partR Tryd.f98 3) (by kernel_rfl) ?_
     refine sw_r3 (a:=a) (b:=b) (i:=k) (l:=swr A U M V B k) (rest:=rest) _ _ HJ.out.1 (by have:=HS.out k;have:=HA.out;omega) hn (by have:=HA.out;omega) (by have:=HA.out;omega) ?_
     intro pZ p3 pE pF pG pH pI pJ pK pL pM pN pO mQ mR mS mT mU mV mW mX lD w2 h2
     have H2:=Lh h2
     clear h2
     go_wp2
     go_roundw
     case rel=>exact ⟨k+1,by go_num,by omega,Lh ⟨by rw [←HT.out k (by have:=HA.out;omega),HA.out.2.1,←HA.out.2.1,HA.out.2.2.1,HA.out.2.1];exact H2.out.1,HJ.out.2.trans H2.out.2⟩⟩
     case measure=>simp [intOf];omega
   · have HK:=Lh (show k=k0 by omega)
     go_wp2
     refine bodyPost_end (v:=.tuple #[]) (results_none rfl _ _ _) rfl ?_
     exact ⟨rfl,by rw [←HF.out,←HK.out];exact HJ.out.1,HJ.out.2⟩
set_option maxHeartbeats 8000000 in
theorem rotate_any {g n c a m b:Nat} {x u v y:List Int} {rest:List Value} {fv:Value} (w:World) (hr:OrdAt w g (x++u++v++y) rest) (hl:(x++u++v++y).length=n) (hn:n≤1000) (ha:x.length=a) (hm:x.length+u.length=m) (hb:x.length+u.length+v.length=b) (hu:0 < u.length) (hv:0 < v.length) :
   Calls Tryd.prog 85 #[.slice (some ⟨g,0,none⟩) n c,.int .i64 a,.int .i64 m,.int .i64 b,fv] w fun e w'=>e=.returned (.tuple #[])∧OrdAt w' g (x++v++u++y) rest∧Chg (fun k=>k=g) w w':=by
 obtain ⟨lu,hlu⟩:∃ q,u.length=q:=⟨_,rfl⟩
 obtain ⟨lv,hlv⟩:∃ q,v.length=q:=⟨_,rfl⟩
 have hlen : a + lu + lv + y.length = n := by have : (x ++ u ++ v ++ y).length = x.length + u.length + v.length + y.length := by simp [Nat.add_assoc]
                                              omega
 have e1:(m:Int) - (a:Int)=(lu:Int):=by omega
 have e2:(b:Int) - (m:Int)=(lv:Int):=by omega
 have hm1:m≤1000:=by omega
 have hl1:lu≤1000:=by omega
 have hl2:lv≤1000:=by omega
 have HI:=Lh hr
 have HA:=Lh (And.intro hlen (And.intro ha (And.intro hm (And.intro hb (And.intro hlu hlv)))))
 have HP:=Lh (And.intro hu hv)
 clear hr hl hlu hlv ha hm hb hu hv hlen
 go_enter Tryd.func85,Tryd.ntmps85
 go_wp2
 clear e1 e2
 go_loopw [10,11] (fun vi vj wr=>∃ (i j:Nat) (X U V Y:List Int),vi=.int .i64 i∧vj=.int .i64 j∧Hid (U.length=i∧V.length=j∧X.length+i=m∧0 < i∧0 < j∧X.length+i+j+Y.length=n∧OrdAt wr g (X++U++V++Y) rest∧X++V++U++Y=x++v++u++y∧Chg (fun k=>k=g) w wr)) (fun vi vj _=>(intOf vi).toNat+(intOf vj).toNat)
 case atStart=>exact ⟨lu,lv,x,u,v,y,rfl,rfl,Lh ⟨HA.out.2.2.2.2.1,HA.out.2.2.2.2.2,by have:=HA.out;omega,by have:=HA.out;have:=HP.out;omega,by have:=HA.out;have:=HP.out;omega,by have:=HA.out;omega,HI.out,rfl,Chg.refl _ _⟩⟩
 case round =>
   clear HI HA HP
   obtain ⟨i,j,X,U,V,Y,rfl,rfl,HJ⟩:=hrel
   obtain ⟨lx,hlx⟩:∃ q,X.length=q:=⟨_,rfl⟩
   have z1:(m:Int) - (i:Int)=(lx:Int):=by have:=HJ.out;omega
   have hi1:i≤1000:=by have:=HJ.out;omega
   have hj1:j≤1000:=by have:=HJ.out;omega
   have hx1:lx≤1000:=by have:=HJ.out;omega
   have HLX:=Lh hlx
   clear hlx
   by_cases heq:i=j
   · have hq:((i:Int) !=(j:Int))=false:=by rw [bne_eq_false_iff_eq];omega
     have HC:=Lh (swapRange_any (g:=g) (n:=n) (c:=c) (a:=lx) (b:=m) (k0:=i) (A:=X) (U:=U) (M:=[]) (V:=V) (B:=Y) (rest:=rest) (fv:=fv) wr (by simpa using HJ.out.2.2.2.2.2.2.1) (by have:=HJ.out;have:=HLX.out;simp only [List.length_append,List.length_nil];omega) hn (by have:=HJ.out;omega) HLX.out (by have:=HJ.out;simp only [List.length_nil];omega) HJ.out.1)
     clear heq
     go_wp2_with ((with_reducible refine (HC.out).mono ?_);rintro e w2 ⟨rfl,h1,h2⟩;have H2:=Lh (And.intro h1 h2);clear h1 h2)
     refine bodyPost_end (v:=.tuple #[]) (results_none rfl _ _ _) rfl ?_
     exact ⟨rfl,by rw [←HJ.out.2.2.2.2.2.2.2.1];simpa using H2.out.1,HJ.out.2.2.2.2.2.2.2.2.trans H2.out.2⟩
   have hq:((i:Int) !=(j:Int))=true:=by simp;omega
   by_cases hgt:j < i
   · have hd:decide (j < i)=true:=decide_eq_true hgt
     have HC:=Lh (swapRange_any (g:=g) (n:=n) (c:=c) (a:=lx) (b:=m) (k0:=j) (A:=X) (U:=U.take j) (M:=U.drop j) (V:=V) (B:=Y) (rest:=rest) (fv:=fv) wr (by have:=HJ.out.2.2.2.2.2.2.1;rw [List.append_assoc X,List.take_append_drop];exact this) (by have:=HJ.out;have:=HLX.out;simp only [List.length_append,List.length_take,List.length_drop];omega) hn (by have:=HJ.out;rw [List.length_take];omega) HLX.out (by have:=HJ.out;rw [List.length_take,List.length_drop];omega) (by have:=HJ.out;rw [List.length_take];omega))
     have HG:=Lh hgt
     clear heq hgt
     go_wp2_with ((with_reducible refine (HC.out).mono ?_);rintro e w2 ⟨rfl,h1,h2⟩;have H2:=Lh (And.intro h1 h2);clear h1 h2)
     go_roundw
     case rel=>exact ⟨i - j,j,X++V,U.drop j,U.take j,Y,by have:=HG.out;first | go_num | (congr 1;omega),rfl,Lh ⟨by have:=HJ.out;rw [List.length_drop];omega,by have:=HJ.out;have:=HG.out;rw [List.length_take];omega,by have:=HJ.out;have:=HG.out;rw [List.length_append];omega,by have:=HG.out;omega,HJ.out.2.2.2.2.1,by have:=HJ.out;have:=HG.out;rw [List.length_append];omega,by have:=H2.out.1;simpa using this,by have h:=HJ.out.2.2.2.2.2.2.2.1;rw [←h,List.append_assoc (X++V),List.take_append_drop],HJ.out.2.2.2.2.2.2.2.2.trans H2.out.2⟩⟩
     case measure=>have:=HG.out;have:=HJ.out.2.2.2.2.1;simp [intOf];omega
   · have hd:decide (j < i)=false:=decide_eq_false hgt
     obtain ⟨lb,hlb⟩:∃ q,m+j - i=q:=⟨_,rfl⟩
     have z2:(m:Int)+(j:Int) - (i:Int)=(lb:Int):=by have:=HJ.out;omega
     have hb1:lb≤1000:=by have:=HJ.out;omega
     have HC:=Lh (swapRange_any (g:=g) (n:=n) (c:=c) (a:=lx) (b:=lb) (k0:=i) (A:=X) (U:=U) (M:=V.take (j - i)) (V:=V.drop (j - i)) (B:=Y) (rest:=rest) (fv:=fv) wr (by have:=HJ.out.2.2.2.2.2.2.1;rw [List.append_assoc (X++U),List.take_append_drop];exact this) (by have:=HJ.out;have:=HLX.out;simp only [List.length_append,List.length_take,List.length_drop];omega) hn (by have:=HJ.out;rw [List.length_drop];omega) HLX.out (by have:=HJ.out;rw [List.length_take];omega) HJ.out.1)
     have HG:=Lh (show i < j by omega)
     clear heq hgt hlb
     go_wp2_with ((with_reducible refine (HC.out).mono ?_);rintro e w2 ⟨rfl,h1,h2⟩;have H2:=Lh (And.intro h1 h2);clear h1 h2)
     go_roundw
     case rel=>exact ⟨i,j - i,X,V.drop (j - i),V.take (j - i),U++Y,rfl,by have:=HG.out;first | go_num | (congr 1;omega),Lh ⟨by have:=HJ.out;have:=HG.out;rw [List.length_drop];omega,by have:=HJ.out;have:=HG.out;rw [List.length_take];omega,HJ.out.2.2.1,HJ.out.2.2.2.1,by have:=HG.out;omega,by have:=HJ.out;have:=HG.out;rw [List.length_append];omega,by have:=H2.out.1;simpa using this,by have h:=HJ.out.2.2.2.2.2.2.2.1;rw [←h,←List.append_assoc,List.append_assoc X,List.take_append_drop],HJ.out.2.2.2.2.2.2.2.2.trans H2.out.2⟩⟩
     case measure=>have:=HG.out;have:=HJ.out.2.2.2.1;simp [intOf];omega
end Go.Proofs.YtppoiahhaclleaaDoor
namespace Go.Proofs.YtppoiahhaclleaaDoor
open Go.RowKit
set_option maxRecDepth 100000
variable {aA kV kW aD kX kY kZ lA lB lC aE aF aG aH aI aJ aK aL aM aN aO aP aQ aR aS aT aU aV aW aX aY aZ a8 bA bB bC bD bE bF bG bH bI bJ bK bL bM bN bO bP bQ bS bT bU bV bW bX bY bZ b4 b6 cA cC cD cE cF cG cH cI cJ cK cL cM cN cO cP cQ cR cT cU cV cW cX cY cZ c8 dA dB dC dD dE dF dG dH dI dJ dK dL dM dN dO dP dQ dR dS dT dU dV dW dX dY dZ d7 eA eB eC eD eE eF eG eH eI eJ eK eL eM eN eO eP eQ eR eS eT eU eV eW eX eY eZ fA fB fC fD fE fF fG fH fI fJ fK fL fM fN fO fP fQ fR fS fT fU fV fW fX fY fZ gA gC gD gE gF gG gH gI gJ gK gL gM gN gO gP gQ gR gS gT gU gV gW gX gY gZ g9 hJ hY hZ iA iB iC iD iE iF iG iH iI iJ iK iL iM iO iP iQ iR pR pS pT pU pV pW pX pY : Value}
structure BS (T:Nat→Bool) (lo hi i j:Nat):Prop where
 lo_:lo≤i
 le:i≤j
 hi_:j≤hi
 right_:i=lo∨T (i - 1)=true
 left_:j=hi∨T j=false
theorem BS.start (T:Nat→Bool) {lo hi:Nat} (h:lo≤hi):BS T lo hi lo hi:=⟨Nat.le_refl _,h,Nat.le_refl _,.inl rfl,.inl rfl⟩
theorem BS.right {T:Nat→Bool} {lo hi i j h:Nat} (b:BS T lo hi i j) (h1:i≤h) (h2:h < j) (ht:T h=true):BS T lo hi (h+1) j:=⟨by have:=b.lo_;omega,by omega,b.hi_,.inr (by rw [Nat.add_sub_cancel];exact ht),b.left_⟩
theorem BS.left {T:Nat→Bool} {lo hi i j h:Nat} (b:BS T lo hi i j) (h1:i≤h) (h2:h < j) (ht:T h=false):BS T lo hi i h:=⟨b.lo_,h1,by have:=b.hi_;omega,b.right_,.inr ht⟩
set_option maxHeartbeats 8000000 in
theorem sm_l0 {g n c gb gs m0 a lo hi:Nat} {sp:List (Int×Int)} {l:List Int} {rest:List Value} (w:World) (Q:Exit→Act→World→Prop) (hr:OrdAt w g l rest) (hl:l.length=n) (hn:n≤1000) (hk:KeysAt w gb gs m0 sp) (hm0:m0≤1000) (hmem:∀ x∈l,0≤x∧x < (m0:Int)) (ha:a < n) (hlo:lo≤hi) (hhi:hi≤n)
   (k1:∀ (q:Nat),BS (fun q=>decide (keyF sp (l.getD q 0) < keyF sp (l.getD a 0))) (lo) (hi) q q→∀ (mO mP mS mT mU mV mW mX lD lE lF lG lH lI lJ lK lL lM lN lO lP lQ lR lS lT:Value) (w':World),OrdAt w' g l rest∧Below w.heap.size w w'→Q (.exit 0) ⟨#[.slice (some ⟨g,0,none⟩) n c,.int .i64 (a:Nat),kV,kW,.func (.func 35) #[] #[.pointer (some ⟨gb,0,none⟩)],aD,kX,kY,kZ,lA,.int .i64 (q:Nat),mO,mP,aF,aG,aH,aI,aJ,aK,aL,aM,aN,aO,aP,aQ,aR,aS,aT,aU,aV,aW,mS,mT,mU,mV,mW,mX,lD,lE,lF,lG,lH,lI,lJ,lK,lL,lM,lN,lO,lP,lQ,lR,lS,lT,bU,bV,bW,bX,bY,bZ,b4,b6,cA,cC,cD,cE,cF,cG,cH,cI,cJ,cK,cL,cM,cN,cO,cP,cQ,cR,cT,cU,cV,cW,cX,cY,cZ,c8,dA,dB,dC,dD,dE,dF,dG,dH,dI,dJ,dK,dL,dM,dN,dO,dP,dQ,dR,dS,dT,dU,dV,dW,dX,dY,dZ,d7,eA,eB,eC,eD,eE,eF,eG,eH,eI,eJ,eK,eL,eM,eN,eO,eP,eQ,eR,eS,eT,eU,eV,eW,eX,eY,eZ,fA,fB,fC,fD,fE,fF,fG,fH,fI,fJ,fK,fL,fM,fN,fO,fP,fQ,fR,fS,fT,fU,fV,fW,fX,fY,fZ,gA,gC,gD,gE,gF,gG,gH,gI,gJ,gK,gL,gM,gN,gO,gP,gQ,gR,gS,gT,gU,gV,gW,gX,gY,gZ,g9,hJ,hY,hZ,iA,iB,iC,iD,iE,iF,iG,iH,iI,iJ,iK,iL,iM,iO,iP,iQ,iR,pR,pS,pT,pU,pV,pW,pX,pY],[]⟩ w'):(partL Tryd.f73 0).wp Tryd.prog Q ⟨#[.slice (some ⟨g,0,none⟩) n c,.int .i64 (a:Nat),kV,kW,.func (.func 35) #[] #[.pointer (some ⟨gb,0,none⟩)],aD,kX,kY,kZ,lA,.int .i64 (lo:Nat),.int .i64 (hi:Nat),aE,aF,aG,aH,aI,aJ,aK,aL,aM,aN,aO,aP,aQ,aR,aS,aT,aU,aV,aW,aX,aY,aZ,a8,bA,bB,bC,bD,bE,bF,bG,bH,bI,bJ,bK,bL,bM,bN,bO,bP,bQ,bS,bT,bU,bV,bW,bX,bY,bZ,b4,b6,cA,cC,cD,cE,cF,cG,cH,cI,cJ,cK,cL,cM,cN,cO,cP,cQ,cR,cT,cU,cV,cW,cX,cY,cZ,c8,dA,dB,dC,dD,dE,dF,dG,dH,dI,dJ,dK,dL,dM,dN,dO,dP,dQ,dR,dS,dT,dU,dV,dW,dX,dY,dZ,d7,eA,eB,eC,eD,eE,eF,eG,eH,eI,eJ,eK,eL,eM,eN,eO,eP,eQ,eR,eS,eT,eU,eV,eW,eX,eY,eZ,fA,fB,fC,fD,fE,fF,fG,fH,fI,fJ,fK,fL,fM,fN,fO,fP,fQ,fR,fS,fT,fU,fV,fW,fX,fY,fZ,gA,gC,gD,gE,gF,gG,gH,gI,gJ,gK,gL,gM,gN,gO,gP,gQ,gR,gS,gT,gU,gV,gW,gX,gY,gZ,g9,hJ,hY,hZ,iA,iB,iC,iD,iE,iF,iG,iH,iI,iJ,iK,iL,iM,iO,iP,iQ,iR,pR,pS,pT,pU,pV,pW,pX,pY],[]⟩ w:=by
 have HI:=Lh hr
 have HL:=Lh hl
 have HK:=Lh hk
 have HM:=Lh hmem
 have K1:=Lh k1
 have hlo0:lo≤1000:=by omega
 have hhi0:hi≤1000:=by omega
 obtain ⟨T,hT⟩:∃ T:Nat→Bool,T=fun q=>decide (keyF sp (l.getD q 0) < keyF sp (l.getD a 0)):=⟨_,rfl⟩
 rw [←hT] at K1
 have HLE:=Lh (show lo≤hi by omega)
 have HT:=Lh (fun q=>congrFun hT q)
 have HC:=Lh (fun q (h1:lo≤q) (h2:q < hi)=>(show q < n by omega))
 clear hr hl hk hmem k1 hT hlo hhi
 conv=>arg 2;whnf
 go_wp2
 go_loopw [10,11] (fun vi vj wr=>∃ (i j:Nat),vi=.int .i64 i∧vj=.int .i64 j∧i≤1000∧j≤1000∧Hid (BS T lo hi i j∧OrdAt wr g l rest∧Below w.heap.size w wr)) (fun vi vj _=>(intOf vj).toNat - (intOf vi).toNat)
 case atStart=>exact ⟨lo,hi,rfl,rfl,hlo0,hhi0,Lh ⟨BS.start T HLE.out,HI.out,Below.refl _ _⟩⟩
 case round =>
   clear HI
   obtain ⟨i,j,rfl,rfl,hi1,hj1,HJ⟩:=hrel
   by_cases hlt:i < j
   · have HH:=Lh (And.intro (show i≤(i+j) / 2 by omega) (show (i+j) / 2 < j by omega))
     have HLT:=Lh hlt
     go_upto_region 4 with fail
     refine wp_code (c:=partR Tryd.f73 4) (by kernel_rfl) ?_
     refine sm_r4 (i:=i) (j:=j) _ _ hi1 hj1 ?_
     intro mV mW mX lD lE lF
     have hh1:(i+j) / 2≤1000:=by have:=HH.out;omega
     obtain ⟨h,hh⟩:∃ q,(i+j) / 2=q:=⟨_,rfl⟩
     rw [hh] at HH hh1 ⊢
     clear hh hlt
     have HC1:=Lh (HC.out h (by have:=HJ.out.1.lo_;have:=HH.out;omega) (by have:=HJ.out.1.hi_;have:=HH.out;omega))
     go_upto_region 5 with fail
     refine wp_code (c:=partR Tryd.f73 5) (by kernel_rfl) ?_
     refine sm_r5 (l:=l) (rest:=rest) (m:=m0) (sp:=sp) (gs:=gs) (a:=a) (i:=h) _ _ (HJ.out.2.1) HL.out (HK.out.next HJ.out.2.2) hm0 hn HM.out ha HC1.out ?_
     intro lG lH lI lJ lK lL lM lN lO lP w2 h2
     have H2:=Lh h2
     have HTH:=Lh (HT.out h)
     clear h2
     have hts:T h=decide (keyF sp (l.getD h 0) < keyF sp (l.getD a 0)):=HTH.out
     rw [←hts]
     clear hts
     cases hd:T h
     · have HD:=Lh hd
       clear hd
       go_wp2
       go_roundw
       case rel=>exact ⟨i,h,rfl,rfl,hi1,hh1,Lh ⟨HJ.out.1.left HH.out.1 HH.out.2 HD.out,H2.out.1,HJ.out.2.2.trans (H2.out.2.mono HJ.out.2.2.size)⟩⟩
       case measure=>have:=HH.out;have:=HLT.out;simp [intOf];omega
     · have HD:=Lh hd
       clear hd
       go_wp2
       go_roundw
       case rel=>exact ⟨h+1,j,by go_num,rfl,by have:=HH.out;omega,hj1,Lh ⟨HJ.out.1.right HH.out.1 HH.out.2 HD.out,H2.out.1,HJ.out.2.2.trans (H2.out.2.mono HJ.out.2.2.size)⟩⟩
       case measure=>have:=HH.out;have:=HLT.out;simp [intOf];omega
   · have HQ:=Lh (show j=i by have:=HJ.out.1.le;omega)
     go_wp2
     exact K1.out i (by have:=HJ.out.1;rw [HQ.out] at this;exact this) _ _ _ _ _ _ _ _ _ _ _ _ _ _ _ _ _ _ _ _ _ _ _ _ _ _ ⟨HJ.out.2.1,HJ.out.2.2⟩
set_option maxHeartbeats 8000000 in
theorem sm_l4 {g n c gb gs m0 a lo hi:Nat} {sp:List (Int×Int)} {l:List Int} {rest:List Value} (w:World) (Q:Exit→Act→World→Prop) (hr:OrdAt w g l rest) (hl:l.length=n) (hn:n≤1000) (hk:KeysAt w gb gs m0 sp) (hm0:m0≤1000) (hmem:∀ x∈l,0≤x∧x < (m0:Int)) (ha:a < n) (hlo:lo≤hi) (hhi:hi≤n)
   (k1:∀ (q:Nat),BS (fun q=>!decide (keyF sp (l.getD a 0) < keyF sp (l.getD q 0))) (lo) (hi) q q→∀ (pQ pZ iZ i7 i8 i9 jA jB jC jD jE jF jG jH jI jJ jK jL jM jO jP jQ jR jS jT jU:Value) (w':World),OrdAt w' g l rest∧Below w.heap.size w w'→Q (.exit 4) ⟨#[.slice (some ⟨g,0,none⟩) n c,aA,.int .i64 (a:Nat),kW,.func (.func 35) #[] #[.pointer (some ⟨gb,0,none⟩)],aD,kX,kY,kZ,lA,lB,lC,aE,aF,.int .i64 (q:Nat),pQ,pZ,aJ,aK,aL,aM,aN,aO,aP,aQ,aR,aS,aT,aU,aV,aW,aX,aY,aZ,a8,bA,bB,bC,bD,bE,bF,bG,bH,bI,bJ,bK,bL,bM,bN,bO,bP,bQ,bS,bT,bU,bV,bW,bX,bY,bZ,b4,b6,cA,cC,cD,cE,cF,cG,cH,cI,cJ,cK,cL,cM,cN,cO,cP,cQ,cR,cT,cU,cV,cW,iZ,i7,i8,i9,jA,jB,jC,jD,jE,jF,jG,jH,jI,jJ,jK,jL,jM,jO,jP,jQ,jR,jS,jT,jU,dU,dV,dW,dX,dY,dZ,d7,eA,eB,eC,eD,eE,eF,eG,eH,eI,eJ,eK,eL,eM,eN,eO,eP,eQ,eR,eS,eT,eU,eV,eW,eX,eY,eZ,fA,fB,fC,fD,fE,fF,fG,fH,fI,fJ,fK,fL,fM,fN,fO,fP,fQ,fR,fS,fT,fU,fV,fW,fX,fY,fZ,gA,gC,gD,gE,gF,gG,gH,gI,gJ,gK,gL,gM,gN,gO,gP,gQ,gR,gS,gT,gU,gV,gW,gX,gY,gZ,g9,hJ,hY,hZ,iA,iB,iC,iD,iE,iF,iG,iH,iI,iJ,iK,iL,iM,iO,iP,iQ,iR,pR,pS,pT,pU,pV,pW,pX,pY],[]⟩ w'):(partL Tryd.f73 4).wp Tryd.prog Q ⟨#[.slice (some ⟨g,0,none⟩) n c,aA,.int .i64 (a:Nat),kW,.func (.func 35) #[] #[.pointer (some ⟨gb,0,none⟩)],aD,kX,kY,kZ,lA,lB,lC,aE,aF,.int .i64 (lo:Nat),.int .i64 (hi:Nat),aI,aJ,aK,aL,aM,aN,aO,aP,aQ,aR,aS,aT,aU,aV,aW,aX,aY,aZ,a8,bA,bB,bC,bD,bE,bF,bG,bH,bI,bJ,bK,bL,bM,bN,bO,bP,bQ,bS,bT,bU,bV,bW,bX,bY,bZ,b4,b6,cA,cC,cD,cE,cF,cG,cH,cI,cJ,cK,cL,cM,cN,cO,cP,cQ,cR,cT,cU,cV,cW,cX,cY,cZ,c8,dA,dB,dC,dD,dE,dF,dG,dH,dI,dJ,dK,dL,dM,dN,dO,dP,dQ,dR,dS,dT,dU,dV,dW,dX,dY,dZ,d7,eA,eB,eC,eD,eE,eF,eG,eH,eI,eJ,eK,eL,eM,eN,eO,eP,eQ,eR,eS,eT,eU,eV,eW,eX,eY,eZ,fA,fB,fC,fD,fE,fF,fG,fH,fI,fJ,fK,fL,fM,fN,fO,fP,fQ,fR,fS,fT,fU,fV,fW,fX,fY,fZ,gA,gC,gD,gE,gF,gG,gH,gI,gJ,gK,gL,gM,gN,gO,gP,gQ,gR,gS,gT,gU,gV,gW,gX,gY,gZ,g9,hJ,hY,hZ,iA,iB,iC,iD,iE,iF,iG,iH,iI,iJ,iK,iL,iM,iO,iP,iQ,iR,pR,pS,pT,pU,pV,pW,pX,pY],[]⟩ w:=by
 have HI:=Lh hr
 have HL:=Lh hl
 have HK:=Lh hk
 have HM:=Lh hmem
 have K1:=Lh k1
 have hlo0:lo≤1000:=by omega
 have hhi0:hi≤1000:=by omega
 obtain ⟨T,hT⟩:∃ T:Nat→Bool,T=fun q=>!decide (keyF sp (l.getD a 0) < keyF sp (l.getD q 0)):=⟨_,rfl⟩
 rw [←hT] at K1
 have HLE:=Lh (show lo≤hi by omega)
 have HT:=Lh (fun q=>congrFun hT q)
 have HC:=Lh (fun q (h1:lo≤q) (h2:q < hi)=>(show q < n by omega))
 clear hr hl hk hmem k1 hT hlo hhi
 conv=>arg 2;whnf
 go_wp2
 go_loopw [14,15] (fun vi vj wr=>∃ (i j:Nat),vi=.int .i64 i∧vj=.int .i64 j∧i≤1000∧j≤1000∧Hid (BS T lo hi i j∧OrdAt wr g l rest∧Below w.heap.size w wr)) (fun vi vj _=>(intOf vj).toNat - (intOf vi).toNat)
 case atStart=>exact ⟨lo,hi,rfl,rfl,hlo0,hhi0,Lh ⟨BS.start T HLE.out,HI.out,Below.refl _ _⟩⟩
 case round =>
   clear HI
   obtain ⟨i,j,rfl,rfl,hi1,hj1,HJ⟩:=hrel
   by_cases hlt:i < j
   · have HH:=Lh (And.intro (show i≤(i+j) / 2 by omega) (show (i+j) / 2 < j by omega))
     have HLT:=Lh hlt
     go_upto_region 16 with fail
     refine wp_code (c:=partR Tryd.f73 16) (by kernel_rfl) ?_
     refine sm_r16 (i:=i) (j:=j) _ _ hi1 hj1 ?_
     intro i9 jA jB jC jD jE
     have hh1:(i+j) / 2≤1000:=by have:=HH.out;omega
     obtain ⟨h,hh⟩:∃ q,(i+j) / 2=q:=⟨_,rfl⟩
     rw [hh] at HH hh1 ⊢
     clear hh hlt
     have HC1:=Lh (HC.out h (by have:=HJ.out.1.lo_;have:=HH.out;omega) (by have:=HJ.out.1.hi_;have:=HH.out;omega))
     go_upto_region 17 with fail
     refine wp_code (c:=partR Tryd.f73 17) (by kernel_rfl) ?_
     refine sm_r17 (l:=l) (rest:=rest) (m:=m0) (sp:=sp) (gs:=gs) (a:=a) (i:=h) _ _ (HJ.out.2.1) HL.out (HK.out.next HJ.out.2.2) hm0 hn HM.out ha HC1.out ?_
     intro jF jG jH jI jJ jK jL jM jO jP jQ w2 h2
     have H2:=Lh h2
     have HTH:=Lh (HT.out h)
     clear h2
     have hts:T h=!decide (keyF sp (l.getD a 0) < keyF sp (l.getD h 0)):=HTH.out
     rw [←hts]
     clear hts
     cases hd:T h
     · have HD:=Lh hd
       clear hd
       go_wp2
       go_roundw
       case rel=>exact ⟨i,h,rfl,rfl,hi1,hh1,Lh ⟨HJ.out.1.left HH.out.1 HH.out.2 HD.out,H2.out.1,HJ.out.2.2.trans (H2.out.2.mono HJ.out.2.2.size)⟩⟩
       case measure=>have:=HH.out;have:=HLT.out;simp [intOf];omega
     · have HD:=Lh hd
       clear hd
       go_wp2
       go_roundw
       case rel=>exact ⟨h+1,j,by go_num,rfl,by have:=HH.out;omega,hj1,Lh ⟨HJ.out.1.right HH.out.1 HH.out.2 HD.out,H2.out.1,HJ.out.2.2.trans (H2.out.2.mono HJ.out.2.2.size)⟩⟩
       case measure=>have:=HH.out;have:=HLT.out;simp [intOf];omega
   · have HQ:=Lh (show j=i by have:=HJ.out.1.le;omega)
     go_wp2
     exact K1.out i (by have:=HJ.out.1;rw [HQ.out] at this;exact this) _ _ _ _ _ _ _ _ _ _ _ _ _ _ _ _ _ _ _ _ _ _ _ _ _ _ _ ⟨HJ.out.2.1,HJ.out.2.2⟩
set_option maxHeartbeats 8000000 in
theorem sm_l8 {g n c gb gs m0 p lo hi:Nat} {sp:List (Int×Int)} {l:List Int} {rest:List Value} (w:World) (Q:Exit→Act→World→Prop) (hr:OrdAt w g l rest) (hl:l.length=n) (hn:n≤1000) (hk:KeysAt w gb gs m0 sp) (hm0:m0≤1000) (hmem:∀ x∈l,0≤x∧x < (m0:Int)) (hp:∀ q,lo≤q→q < hi→q≤p∧p - q < n∧q < n) (hlo:lo≤hi) (hhi:hi≤n)
   (k1:∀ (q:Nat),BS (fun q=>!decide (keyF sp (l.getD (p - q) 0) < keyF sp (l.getD q 0))) (lo) (hi) q q→∀ (pH pJ oO oP oQ oS oT oU oV nB nC nD nE nF nG nH nI nJ nK nL nM nN nO nP nR nS nT nU:Value) (w':World),OrdAt w' g l rest∧Below w.heap.size w w'→Q (.exit 8) ⟨#[.slice (some ⟨g,0,none⟩) n c,aA,kV,kW,.func (.func 35) #[] #[.pointer (some ⟨gb,0,none⟩)],aD,kX,kY,kZ,lA,lB,lC,aE,aF,aG,aH,aI,aJ,aK,aL,.int .i64 (q:Nat),pH,.int .i64 (p:Nat),pJ,aQ,aR,aS,aT,aU,aV,aW,aX,aY,aZ,a8,bA,bB,bC,bD,bE,bF,bG,bH,bI,bJ,bK,bL,bM,bN,bO,bP,bQ,bS,bT,bU,bV,bW,bX,bY,bZ,b4,b6,cA,cC,cD,cE,cF,cG,cH,cI,cJ,cK,cL,cM,cN,cO,cP,cQ,cR,cT,cU,cV,cW,cX,cY,cZ,c8,dA,dB,dC,dD,dE,dF,dG,dH,dI,dJ,dK,dL,dM,dN,dO,dP,dQ,dR,dS,dT,dU,dV,dW,dX,dY,dZ,d7,eA,eB,eC,eD,eE,eF,eG,eH,eI,eJ,eK,eL,eM,eN,eO,eP,eQ,eR,eS,eT,eU,eV,eW,eX,eY,eZ,fA,fB,fC,fD,fE,fF,fG,fH,fI,oO,oP,oQ,oS,oT,oU,oV,nB,nC,nD,nE,nF,nG,nH,nI,nJ,nK,nL,nM,nN,nO,nP,nR,nS,nT,nU,gK,gL,gM,gN,gO,gP,gQ,gR,gS,gT,gU,gV,gW,gX,gY,gZ,g9,hJ,hY,hZ,iA,iB,iC,iD,iE,iF,iG,iH,iI,iJ,iK,iL,iM,iO,iP,iQ,iR,pR,pS,pT,pU,pV,pW,pX,pY],[]⟩ w'):(partL Tryd.f73 8).wp Tryd.prog Q ⟨#[.slice (some ⟨g,0,none⟩) n c,aA,kV,kW,.func (.func 35) #[] #[.pointer (some ⟨gb,0,none⟩)],aD,kX,kY,kZ,lA,lB,lC,aE,aF,aG,aH,aI,aJ,aK,aL,.int .i64 (lo:Nat),.int .i64 (hi:Nat),.int .i64 (p:Nat),aP,aQ,aR,aS,aT,aU,aV,aW,aX,aY,aZ,a8,bA,bB,bC,bD,bE,bF,bG,bH,bI,bJ,bK,bL,bM,bN,bO,bP,bQ,bS,bT,bU,bV,bW,bX,bY,bZ,b4,b6,cA,cC,cD,cE,cF,cG,cH,cI,cJ,cK,cL,cM,cN,cO,cP,cQ,cR,cT,cU,cV,cW,cX,cY,cZ,c8,dA,dB,dC,dD,dE,dF,dG,dH,dI,dJ,dK,dL,dM,dN,dO,dP,dQ,dR,dS,dT,dU,dV,dW,dX,dY,dZ,d7,eA,eB,eC,eD,eE,eF,eG,eH,eI,eJ,eK,eL,eM,eN,eO,eP,eQ,eR,eS,eT,eU,eV,eW,eX,eY,eZ,fA,fB,fC,fD,fE,fF,fG,fH,fI,fJ,fK,fL,fM,fN,fO,fP,fQ,fR,fS,fT,fU,fV,fW,fX,fY,fZ,gA,gC,gD,gE,gF,gG,gH,gI,gJ,gK,gL,gM,gN,gO,gP,gQ,gR,gS,gT,gU,gV,gW,gX,gY,gZ,g9,hJ,hY,hZ,iA,iB,iC,iD,iE,iF,iG,iH,iI,iJ,iK,iL,iM,iO,iP,iQ,iR,pR,pS,pT,pU,pV,pW,pX,pY],[]⟩ w:=by
 have HI:=Lh hr
 have HL:=Lh hl
 have HK:=Lh hk
 have HM:=Lh hmem
 have K1:=Lh k1
 have hlo0:lo≤1000:=by omega
 have hhi0:hi≤1000:=by omega
 obtain ⟨T,hT⟩:∃ T:Nat→Bool,T=fun q=>!decide (keyF sp (l.getD (p - q) 0) < keyF sp (l.getD q 0)):=⟨_,rfl⟩
 rw [←hT] at K1
 have HLE:=Lh (show lo≤hi by omega)
 have HT:=Lh (fun q=>congrFun hT q)
 have HC:=Lh (fun q (h1:lo≤q) (h2:q < hi)=>(show q≤p∧p - q < n∧q < n by exact hp q h1 h2))
 clear hr hl hk hmem k1 hT hlo hhi hp
 conv=>arg 2;whnf
 go_wp2
 go_loopw [20,21] (fun vi vj wr=>∃ (i j:Nat),vi=.int .i64 i∧vj=.int .i64 j∧i≤1000∧j≤1000∧Hid (BS T lo hi i j∧OrdAt wr g l rest∧Below w.heap.size w wr)) (fun vi vj _=>(intOf vj).toNat - (intOf vi).toNat)
 case atStart=>exact ⟨lo,hi,rfl,rfl,hlo0,hhi0,Lh ⟨BS.start T HLE.out,HI.out,Below.refl _ _⟩⟩
 case round =>
   clear HI
   obtain ⟨i,j,rfl,rfl,hi1,hj1,HJ⟩:=hrel
   by_cases hlt:i < j
   · have HH:=Lh (And.intro (show i≤(i+j) / 2 by omega) (show (i+j) / 2 < j by omega))
     have HLT:=Lh hlt
     go_upto_region 34 with fail
     refine wp_code (c:=partR Tryd.f73 34) (by kernel_rfl) ?_
     refine sm_r34 (i:=i) (j:=j) _ _ hi1 hj1 ?_
     intro oS oT oU oV nB nC
     have hh1:(i+j) / 2≤1000:=by have:=HH.out;omega
     obtain ⟨h,hh⟩:∃ q,(i+j) / 2=q:=⟨_,rfl⟩
     rw [hh] at HH hh1 ⊢
     clear hh hlt
     have HC1:=Lh (HC.out h (by have:=HJ.out.1.lo_;have:=HH.out;omega) (by have:=HJ.out.1.hi_;have:=HH.out;omega))
     go_upto_region 35 with fail
     refine wp_code (c:=partR Tryd.f73 35) (by kernel_rfl) ?_
     refine sm_r35 (l:=l) (rest:=rest) (m:=m0) (sp:=sp) (gs:=gs) (p:=p) (i:=h) _ _ (HJ.out.2.1) HL.out (HK.out.next HJ.out.2.2) hm0 hn HM.out HC1.out.1 HC1.out.2.1 HC1.out.2.2 ?_
     intro nD nE nF nG nH nI nJ nK nL nM nN nO nP w2 h2
     have H2:=Lh h2
     have HTH:=Lh (HT.out h)
     clear h2
     have hts:T h=!decide (keyF sp (l.getD (p - h) 0) < keyF sp (l.getD h 0)):=HTH.out
     rw [←hts]
     clear hts
     cases hd:T h
     · have HD:=Lh hd
       clear hd
       go_wp2
       go_roundw
       case rel=>exact ⟨i,h,rfl,rfl,hi1,hh1,Lh ⟨HJ.out.1.left HH.out.1 HH.out.2 HD.out,H2.out.1,HJ.out.2.2.trans (H2.out.2.mono HJ.out.2.2.size)⟩⟩
       case measure=>have:=HH.out;have:=HLT.out;simp [intOf];omega
     · have HD:=Lh hd
       clear hd
       go_wp2
       go_roundw
       case rel=>exact ⟨h+1,j,by go_num,rfl,by have:=HH.out;omega,hj1,Lh ⟨HJ.out.1.right HH.out.1 HH.out.2 HD.out,H2.out.1,HJ.out.2.2.trans (H2.out.2.mono HJ.out.2.2.size)⟩⟩
       case measure=>have:=HH.out;have:=HLT.out;simp [intOf];omega
   · have HQ:=Lh (show j=i by have:=HJ.out.1.le;omega)
     go_wp2
     exact K1.out i (by have:=HJ.out.1;rw [HQ.out] at this;exact this) _ _ _ _ _ _ _ _ _ _ _ _ _ _ _ _ _ _ _ _ _ _ _ _ _ _ _ _ _ ⟨HJ.out.2.1,HJ.out.2.2⟩
end Go.Proofs.YtppoiahhaclleaaDoor
namespace Go.Proofs.YtppoiahhaclleaaDoor
open Go.RowKit
set_option maxRecDepth 100000
variable {aA kV kW aC aD kX kY kZ lA lB lC aE aF aG aH aI aJ aK aL aM aN aO aP aQ aR aS aT aU aV aW aX aY aZ a8 bA bB bC bD bE bF bG bH bI bJ bK bL bM bN bO bP bQ bS bT bU bV bW bX bY bZ b4 b6 cA cC cD cE cF cG cH cI cJ cK cL cM cN cO cP cQ cR cT cU cV cW cX cY cZ c8 dA dB dC dD dE dF dG dH dI dJ dK dL dM dN dO dP dQ dR dS dT dU dV dW dX dY dZ d7 eA eB eC eD eE eF eG eH eI eJ eK eL eM eN eO eP eQ eR eS eT eU eV eW eX eY eZ fA fB fC fD fE fF fG fH fI fJ fK fL fM fN fO fP fQ fR fS fT fU fV fW fX fY fZ gA gC gD gE gF gG gH gI gJ gK gL gM gN gO gP gQ gR gS gT gU gV gW gX gY gZ g9 hJ hY hZ iA iB iC iD iE iF iG iH iI iJ iK iL iM iO iP iQ iR pR pS pT pU pV pW pX pY : Value}
theorem gd_mid (x v y:List Int) (i:Nat) (h:i < v.length):(x++v++y).getD (x.length+i) 0=v.getD i 0:=by
 rw [List.getD_eq_getElem?_getD,List.getD_eq_getElem?_getD,List.append_assoc,List.getElem?_append_right (by omega),Nat.add_sub_cancel_left,List.getElem?_append_left h]
theorem srt_get {key:Int→Int} {v:List Int} (h:Srt key v) {i j:Nat} (hij:i≤j) (hj:j < v.length):key (v.getD i 0)≤key (v.getD j 0):=by
 rcases Nat.lt_or_eq_of_le hij with h1 | rfl
 · have h2:=(List.pairwise_iff_getElem.1 h) i j (by omega) hj h1
   rw [List.getD_eq_getElem?_getD,List.getD_eq_getElem?_getD,List.getElem?_eq_getElem (by omega),List.getElem?_eq_getElem hj]
   exact h2
 · exact Int.le_refl _
theorem mem_take_get {v:List Int} {k:Nat} {p:Int} (h:p∈v.take k):∃ i,i < k∧i < v.length∧v.getD i 0=p:=by
 obtain ⟨i,hi⟩:=List.getElem?_of_mem h
 have hk:i < k:=by have:=(List.getElem?_eq_some_iff.1 hi).1;rw [List.length_take] at this;omega
 rw [List.getElem?_take,if_pos hk] at hi
 exact ⟨i,hk,(List.getElem?_eq_some_iff.1 hi).1,by rw [List.getD_eq_getElem?_getD,hi];rfl⟩
theorem mem_drop_get {v:List Int} {k:Nat} {p:Int} (h:p∈v.drop k):∃ i,k≤i∧i < v.length∧v.getD i 0=p:=by
 obtain ⟨i,hi⟩:=List.getElem?_of_mem h
 rw [List.getElem?_drop] at hi
 exact ⟨k+i,by omega,(List.getElem?_eq_some_iff.1 hi).1,by rw [List.getD_eq_getElem?_getD,hi];rfl⟩
theorem srt_ins {key:Int→Int} {v:List Int} {t:Int} {k:Nat} (hv:Srt key v) (h1:∀ p∈v.take k,key p≤key t) (h2:∀ p∈v.drop k,key t≤key p):Srt key (v.take k++t :: v.drop k):=by
 have hs:Srt key (v.take k++v.drop k):=by rw [List.take_append_drop];exact hv
 have h:=srt_app.1 hs
 refine srt_app.2 ⟨h.1,List.pairwise_cons.2 ⟨h2,h.2.1⟩,fun p hp q hq=>?_⟩
 rcases List.mem_cons.1 hq with rfl | hq
 · exact h1 p hp
 · exact h.2.2 p hp q hq
theorem bs_one {key:Int→Int} {x v y:List Int} {t:Int} {a m b q:Nat} (ha:x.length=a) (hm:a+1=m) (hb:m+v.length=b)
   (h:BS (fun q=>decide (key ((x++[t]++v++y).getD q 0) < key ((x++[t]++v++y).getD a 0))) m b q q) (hv:Srt key v):Srt key (v.take (q - m)++t :: v.drop (q - m)):=by
 have e0:(x++[t]++v++y).getD a 0=t:=by
   have:=gd_mid x [t] (v++y) 0 (by simp)
   rw [ha,Nat.add_zero] at this
   rw [List.append_assoc (x++[t]),this];rfl
 have e1:∀ i,i < v.length→(x++[t]++v++y).getD (m+i) 0=v.getD i 0:=fun i hi=>by
   have:=gd_mid (x++[t]) v y i hi
   rw [List.length_append,ha,List.length_singleton,hm] at this
   exact this
 have hlo:=h.lo_
 have hhi:=h.hi_
 refine srt_ins hv (fun p hp=>?_) fun p hp=>?_
 · obtain ⟨i,h1,h2,rfl⟩:=mem_take_get hp
   rcases h.right_ with h3 | h3
   · omega
   · have h4:=of_decide_eq_true h3
     rw [e0,show q - 1=m+(q - m - 1) by omega,e1 _ (by omega)] at h4
     have:=srt_get hv (show i≤q - m - 1 by omega) (by omega)
     omega
 · obtain ⟨i,h1,h2,rfl⟩:=mem_drop_get hp
   rcases h.left_ with h3 | h3
   · omega
   · have h4:=of_decide_eq_false h3
     rw [e0,show q=m+(q - m) by omega,e1 _ (by omega)] at h4
     have:=srt_get hv (show q - m≤i by omega) h2
     omega
theorem bs_two {key:Int→Int} {x u y:List Int} {t:Int} {a m q:Nat} (ha:x.length=a) (hm:a+u.length=m)
   (h:BS (fun q=>!decide (key ((x++u++[t]++y).getD m 0) < key ((x++u++[t]++y).getD q 0))) a m q q) (hu:Srt key u):Srt key (u.take (q - a)++t :: u.drop (q - a)):=by
 have e0:(x++u++[t]++y).getD m 0=t:=by
   have:=gd_mid (x++u) [t] y 0 (by simp)
   rw [List.length_append,ha,hm,Nat.add_zero] at this
   rw [this];rfl
 have e1:∀ i,i < u.length→(x++u++[t]++y).getD (a+i) 0=u.getD i 0:=fun i hi=>by
   have:=gd_mid x u ([t]++y) i hi
   rw [ha] at this
   rw [List.append_assoc (x++u)]
   exact this
 have hlo:=h.lo_
 have hhi:=h.hi_
 refine srt_ins hu (fun p hp=>?_) fun p hp=>?_
 · obtain ⟨i,h1,h2,rfl⟩:=mem_take_get hp
   rcases h.right_ with h3 | h3
   · omega
   · have h4:¬ (key ((x++u++[t]++y).getD m 0) < key ((x++u++[t]++y).getD (q - 1) 0)):=by simpa using h3
     rw [e0,show q - 1=a+(q - a - 1) by omega,e1 _ (by omega)] at h4
     have:=srt_get hu (show i≤q - a - 1 by omega) (by omega)
     omega
 · obtain ⟨i,h1,h2,rfl⟩:=mem_drop_get hp
   rcases h.left_ with h3 | h3
   · omega
   · have h4:key ((x++u++[t]++y).getD m 0) < key ((x++u++[t]++y).getD q 0):=by simpa using h3
     rw [e0,show q=a+(q - a) by omega,e1 _ (by omega)] at h4
     have:=srt_get hu (show q - a≤i by omega) h2
     omega
theorem bs_gen {key:Int→Int} {x u v y:List Int} {a m b mid q s0 r0:Nat} (ha:x.length=a) (hm:a+u.length=m) (hb:m+v.length=b) (hmid:mid=(a+b) / 2) (hu0:0 < u.length) (hv0:0 < v.length)
   (hs:mid < m∧s0=mid+m - b∧r0=mid∨m≤mid∧s0=a∧r0=m)
   (h:BS (fun q=>!decide (key ((x++u++v++y).getD (mid+m - 1 - q) 0) < key ((x++u++v++y).getD q 0))) s0 r0 q q) (hu:Srt key u) (hv:Srt key v) :
   (∀ p∈u.take (q - a),∀ r∈v.drop (mid - q),key p≤key r)∧(∀ p∈v.take (mid - q),∀ r∈u.drop (q - a),key p≤key r):=by
 have e0:∀ i,i < u.length→(x++u++v++y).getD (a+i) 0=u.getD i 0:=fun i hi=>by
   have:=gd_mid x u (v++y) i hi
   rw [ha] at this
   rw [List.append_assoc (x++u)]
   exact this
 have e1:∀ i,i < v.length→(x++u++v++y).getD (m+i) 0=v.getD i 0:=fun i hi=>by
   have:=gd_mid (x++u) v y i hi
   rw [List.length_append,ha,hm] at this
   exact this
 have hlo:=h.lo_
 have hhi:=h.hi_
 refine ⟨fun p hp r hr=>?_,fun p hp r hr=>?_⟩
 · obtain ⟨i,h1,h2,rfl⟩:=mem_take_get hp
   obtain ⟨j,g1,g2,rfl⟩:=mem_drop_get hr
   rcases h.right_ with h3 | h3
   · rcases hs with hs | hs <;> omega
   · have h4:¬ (key ((x++u++v++y).getD (mid+m - 1 - (q - 1)) 0) < key ((x++u++v++y).getD (q - 1) 0)):=by simpa using h3
     have hq:mid+m - 1 - (q - 1)=m+(mid - q):=by rcases hs with hs | hs <;> omega
     rw [hq,e1 _ (by omega),show q - 1=a+(q - 1 - a) by omega,e0 _ (by rcases hs with hs | hs <;> omega)] at h4
     have:=srt_get hu (show i≤q - 1 - a by omega) (by rcases hs with hs | hs <;> omega)
     have:=srt_get hv (show mid - q≤j by omega) g2
     omega
 · obtain ⟨i,h1,h2,rfl⟩:=mem_take_get hp
   obtain ⟨j,g1,g2,rfl⟩:=mem_drop_get hr
   rcases h.left_ with h3 | h3
   · rcases hs with hs | hs <;> omega
   · have h4:key ((x++u++v++y).getD (mid+m - 1 - q) 0) < key ((x++u++v++y).getD q 0):=by simpa using h3
     have hq:mid+m - 1 - q=m+(mid - 1 - q):=by omega
     have hqa:a≤q:=by rcases hs with hs | hs <;> omega
     rw [hq,e1 _ (by rcases hs with hs | hs <;> omega),show q=a+(q - a) by omega,e0 _ (by omega)] at h4
     have:=srt_get hv (show i≤mid - 1 - q by omega) (by rcases hs with hs | hs <;> omega)
     have e5:mid - 1 - (a+(q - a))=mid - 1 - q:=by omega
     rw [e5] at h4
     have:=srt_get hu (show q - a≤j by omega) g2
     omega
set_option maxHeartbeats 8000000 in
theorem sm_l2 {g n c a q:Nat} {X V Y:List Int} {t:Int} {rest:List Value} (w:World) (Q:Exit→Act→World→Prop) (hr:OrdAt w g (X++t :: (V++Y)) rest) (hl:(X++t :: (V++Y)).length=n∧n=X.length+V.length+Y.length+1) (hn:n≤1000) (ha:X.length=a) (hb:a+1+V.length=q)
   (k1:∀ (nA lV lW lX lY lZ l5 l6 l7 l8 l9 mA mB mC mD mE mF mG mH mI mJ mY iS:Value) (w':World),OrdAt w' g (X++V++t :: Y) rest∧Chg (fun k=>k=g) w w'→Q (.exit 2) ⟨#[.slice (some ⟨g,0,none⟩) n c,aA,kV,kW,aC,aD,kX,kY,kZ,lA,.int .i64 (q:Nat),lC,aE,nA,aG,aH,aI,aJ,aK,aL,aM,aN,aO,aP,aQ,aR,aS,aT,aU,aV,aW,aX,aY,aZ,a8,bA,bB,bC,bD,bE,bF,bG,bH,bI,bJ,bK,bL,bM,bN,bO,bP,bQ,bS,bT,bU,lV,lW,lX,lY,lZ,l5,l6,l7,l8,l9,mA,mB,mC,mD,mE,mF,mG,mH,mI,mJ,mY,iS,cQ,cR,cT,cU,cV,cW,cX,cY,cZ,c8,dA,dB,dC,dD,dE,dF,dG,dH,dI,dJ,dK,dL,dM,dN,dO,dP,dQ,dR,dS,dT,dU,dV,dW,dX,dY,dZ,d7,eA,eB,eC,eD,eE,eF,eG,eH,eI,eJ,eK,eL,eM,eN,eO,eP,eQ,eR,eS,eT,eU,eV,eW,eX,eY,eZ,fA,fB,fC,fD,fE,fF,fG,fH,fI,fJ,fK,fL,fM,fN,fO,fP,fQ,fR,fS,fT,fU,fV,fW,fX,fY,fZ,gA,gC,gD,gE,gF,gG,gH,gI,gJ,gK,gL,gM,gN,gO,gP,gQ,gR,gS,gT,gU,gV,gW,gX,gY,gZ,g9,hJ,hY,hZ,iA,iB,iC,iD,iE,iF,iG,iH,iI,iJ,iK,iL,iM,iO,iP,iQ,iR,pR,pS,pT,pU,pV,pW,pX,pY],[]⟩ w'):(partL Tryd.f73 2).wp Tryd.prog Q ⟨#[.slice (some ⟨g,0,none⟩) n c,aA,kV,kW,aC,aD,kX,kY,kZ,lA,.int .i64 (q:Nat),lC,aE,.int .i64 (a:Nat),aG,aH,aI,aJ,aK,aL,aM,aN,aO,aP,aQ,aR,aS,aT,aU,aV,aW,aX,aY,aZ,a8,bA,bB,bC,bD,bE,bF,bG,bH,bI,bJ,bK,bL,bM,bN,bO,bP,bQ,bS,bT,bU,bV,bW,bX,bY,bZ,b4,b6,cA,cC,cD,cE,cF,cG,cH,cI,cJ,cK,cL,cM,cN,cO,cP,cQ,cR,cT,cU,cV,cW,cX,cY,cZ,c8,dA,dB,dC,dD,dE,dF,dG,dH,dI,dJ,dK,dL,dM,dN,dO,dP,dQ,dR,dS,dT,dU,dV,dW,dX,dY,dZ,d7,eA,eB,eC,eD,eE,eF,eG,eH,eI,eJ,eK,eL,eM,eN,eO,eP,eQ,eR,eS,eT,eU,eV,eW,eX,eY,eZ,fA,fB,fC,fD,fE,fF,fG,fH,fI,fJ,fK,fL,fM,fN,fO,fP,fQ,fR,fS,fT,fU,fV,fW,fX,fY,fZ,gA,gC,gD,gE,gF,gG,gH,gI,gJ,gK,gL,gM,gN,gO,gP,gQ,gR,gS,gT,gU,gV,gW,gX,gY,gZ,g9,hJ,hY,hZ,iA,iB,iC,iD,iE,iF,iG,iH,iI,iJ,iK,iL,iM,iO,iP,iQ,iR,pR,pS,pT,pU,pV,pW,pX,pY],[]⟩ w:=by
 have HI:=Lh hr
 have HA:=Lh (And.intro hl (And.intro ha hb))
 have K1:=Lh k1
 obtain ⟨qp,hqp⟩:∃ z,q=z+1:=⟨q - 1,by omega⟩
 have z1:(q:Int) - 1=(qp:Int):=by omega
 have ha1:a≤1000:=by omega
 have hqp1:qp≤1000:=by omega
 have HQ:=Lh (show qp=a+V.length by omega)
 clear hqp
 clear hr hl ha hb k1
 conv=>arg 2;whnf
 go_wp2
 go_loopw [13] (fun vi wr=>∃ (k:Nat),vi=.int .i64 k∧k≤1000∧Hid (a≤k∧k≤a+V.length∧OrdAt wr g (X++V.take (k - a)++t :: (V.drop (k - a)++Y)) rest∧Chg (fun k=>k=g) w wr)) (fun vi _=>qp - (intOf vi).toNat)
 case atStart=>exact ⟨a,rfl,ha1,Lh ⟨Nat.le_refl _,Nat.le_add_right _ _,by rw [Nat.sub_self];simpa using HI.out,Chg.refl _ _⟩⟩
 case round =>
   clear HI
   obtain ⟨k,rfl,hk1,HJ⟩:=hrel
   by_cases hlt:k < qp
   · obtain ⟨s,hs⟩:∃ s,V[k - a]? = some s:=⟨_,List.getElem?_eq_getElem (by have:=HQ.out;have:=HJ.out.1;omega)⟩
     have e1:V.drop (k - a)=s :: V.drop (k+1 - a):=by
       have:=HQ.out;have:=HJ.out.1
       rw [List.drop_eq_getElem_cons (by omega),(List.getElem?_eq_some_iff.1 hs).2,show k - a+1=k+1 - a by omega]
     have e2:V.take (k+1 - a)=V.take (k - a)++[s]:=by have:=HJ.out.1;rw [show k+1 - a=k - a+1 by omega,List.take_add_one,hs];rfl
     have HO:=Lh (show OrdAt wr g ((X++V.take (k - a))++t :: ([]++s :: (V.drop (k+1 - a)++Y))) rest by have:=HJ.out.2.2.1;rw [e1] at this;exact this)
     have HSW:=Lh (show swapL ((X++V.take (k - a))++t :: ([]++s :: (V.drop (k+1 - a)++Y))) k (k+1)=X++V.take (k+1 - a)++t :: (V.drop (k+1 - a)++Y) by
       have h:=swap_app (X++V.take (k - a)) [] (V.drop (k+1 - a)++Y) t s
       have hln:(X++V.take (k - a)).length=k:=by have:=HA.out;have:=HQ.out;have:=HJ.out.1;rw [List.length_append,List.length_take];omega
       rw [hln,List.length_nil,Nat.add_zero] at h
       rw [h,e2];simp)
     have HLN:=Lh (show ((X++V.take (k - a))++t :: ([]++s :: (V.drop (k+1 - a)++Y))).length=n by
       have h1:=HA.out;have:=HQ.out;have:=HJ.out.1
       have hX:(X++t :: (V++Y)).length=X.length+V.length+Y.length+1:=by simp;omega
       simp only [List.length_append,List.length_cons,List.length_take,List.length_drop,List.length_nil];omega)
     have HKN := Lib.hid (show k + 1 < n by have h1 := HA.out; have := HQ.out; have hX : (X ++ t :: (V ++ Y)).length = X.length + V.length + Y.length + 1 := by simp; omega
                                            omega)
     have HLT:=Lh hlt
     clear hs e1 e2
     go_upto_region 11 with fail
     refine wp_code (c:=partR Tryd.f73 11) (by kernel_rfl) ?_
     refine sm_r11 (i:=k) (l:=_) (rest:=rest) _ _ HO.out HLN.out hn HKN.out ?_
     intro l6 l7 l8 l9 mA mB mC mD mE mF mG mH mI mJ mY iS w2 h2
     have H2:=Lh h2
     clear h2
     go_wp2
     go_roundw
     case rel=>exact ⟨k+1,by go_num,by have:=HLT.out;omega,Lh ⟨by have:=HJ.out.1;omega,by have:=HLT.out;have:=HQ.out;omega,by rw [←HSW.out];exact H2.out.1,HJ.out.2.2.2.trans H2.out.2⟩⟩
     case measure=>have:=HLT.out;simp [intOf];omega
   · have HE:=Lh (show k - a=V.length by have:=HJ.out;have:=HQ.out;omega)
     go_wp2
     exact K1.out _ _ _ _ _ _ _ _ _ _ _ _ _ _ _ _ _ _ _ _ _ _ _ _ ⟨by have:=HJ.out.2.2.1;rw [HE.out,List.take_length,List.drop_length] at this;exact this,HJ.out.2.2.2⟩
set_option maxHeartbeats 8000000 in
theorem sm_l6 {g n c a q:Nat} {X V Y:List Int} {t:Int} {rest:List Value} (w:World) (Q:Exit→Act→World→Prop) (hr:OrdAt w g (X++V++t :: Y) rest) (hl:n=X.length+V.length+Y.length+1) (hn:n≤1000) (ha:X.length=a) (hb:a+V.length=q)
   (k1:∀ (p3 jW jX jY jZ j5 j6 j7 j8 j9 kF kG kH kI kJ kK kL kN kO kP kQ kR:Value) (w':World),OrdAt w' g (X++t :: (V++Y)) rest∧Chg (fun k=>k=g) w w'→Q (.exit 6) ⟨#[.slice (some ⟨g,0,none⟩) n c,aA,kV,kW,aC,aD,kX,kY,kZ,lA,lB,lC,aE,aF,.int .i64 (a:Nat),aH,aI,p3,aK,aL,aM,aN,aO,aP,aQ,aR,aS,aT,aU,aV,aW,aX,aY,aZ,a8,bA,bB,bC,bD,bE,bF,bG,bH,bI,bJ,bK,bL,bM,bN,bO,bP,bQ,bS,bT,bU,bV,bW,bX,bY,bZ,b4,b6,cA,cC,cD,cE,cF,cG,cH,cI,cJ,cK,cL,cM,cN,cO,cP,cQ,cR,cT,cU,cV,cW,cX,cY,cZ,c8,dA,dB,dC,dD,dE,dF,dG,dH,dI,dJ,dK,dL,dM,dN,dO,dP,dQ,dR,dS,dT,dU,jW,jX,jY,jZ,j5,j6,j7,j8,j9,kF,kG,kH,kI,kJ,kK,kL,kN,kO,kP,kQ,kR,eP,eQ,eR,eS,eT,eU,eV,eW,eX,eY,eZ,fA,fB,fC,fD,fE,fF,fG,fH,fI,fJ,fK,fL,fM,fN,fO,fP,fQ,fR,fS,fT,fU,fV,fW,fX,fY,fZ,gA,gC,gD,gE,gF,gG,gH,gI,gJ,gK,gL,gM,gN,gO,gP,gQ,gR,gS,gT,gU,gV,gW,gX,gY,gZ,g9,hJ,hY,hZ,iA,iB,iC,iD,iE,iF,iG,iH,iI,iJ,iK,iL,iM,iO,iP,iQ,iR,pR,pS,pT,pU,pV,pW,pX,pY],[]⟩ w'):(partL Tryd.f73 6).wp Tryd.prog Q ⟨#[.slice (some ⟨g,0,none⟩) n c,aA,kV,kW,aC,aD,kX,kY,kZ,lA,lB,lC,aE,aF,.int .i64 (a:Nat),aH,aI,.int .i64 (q:Nat),aK,aL,aM,aN,aO,aP,aQ,aR,aS,aT,aU,aV,aW,aX,aY,aZ,a8,bA,bB,bC,bD,bE,bF,bG,bH,bI,bJ,bK,bL,bM,bN,bO,bP,bQ,bS,bT,bU,bV,bW,bX,bY,bZ,b4,b6,cA,cC,cD,cE,cF,cG,cH,cI,cJ,cK,cL,cM,cN,cO,cP,cQ,cR,cT,cU,cV,cW,cX,cY,cZ,c8,dA,dB,dC,dD,dE,dF,dG,dH,dI,dJ,dK,dL,dM,dN,dO,dP,dQ,dR,dS,dT,dU,dV,dW,dX,dY,dZ,d7,eA,eB,eC,eD,eE,eF,eG,eH,eI,eJ,eK,eL,eM,eN,eO,eP,eQ,eR,eS,eT,eU,eV,eW,eX,eY,eZ,fA,fB,fC,fD,fE,fF,fG,fH,fI,fJ,fK,fL,fM,fN,fO,fP,fQ,fR,fS,fT,fU,fV,fW,fX,fY,fZ,gA,gC,gD,gE,gF,gG,gH,gI,gJ,gK,gL,gM,gN,gO,gP,gQ,gR,gS,gT,gU,gV,gW,gX,gY,gZ,g9,hJ,hY,hZ,iA,iB,iC,iD,iE,iF,iG,iH,iI,iJ,iK,iL,iM,iO,iP,iQ,iR,pR,pS,pT,pU,pV,pW,pX,pY],[]⟩ w:=by
 have HI:=Lh hr
 have HA:=Lh (And.intro hl (And.intro ha hb))
 have K1:=Lh k1
 have ha1:a≤1000:=by omega
 have hq1:q≤1000:=by omega
 clear hr hl ha hb k1
 conv=>arg 2;whnf
 go_wp2
 go_loopw [17] (fun vi wr=>∃ (k:Nat),vi=.int .i64 k∧k≤1000∧Hid (a≤k∧k≤a+V.length∧OrdAt wr g (X++V.take (k - a)++t :: (V.drop (k - a)++Y)) rest∧Chg (fun k=>k=g) w wr)) (fun vi _=>(intOf vi).toNat - a)
 case atStart=>exact ⟨q,rfl,hq1,Lh ⟨by have:=HA.out;omega,by have:=HA.out;omega,by rw [show q - a=V.length by have:=HA.out;omega,List.take_length,List.drop_length];exact HI.out,Chg.refl _ _⟩⟩
 case round =>
   clear HI
   obtain ⟨k,rfl,hk1,HJ⟩:=hrel
   by_cases hlt:a < k
   · obtain ⟨kp,rfl⟩:∃ z,k=z+1:=⟨k - 1,by omega⟩
     obtain ⟨s,hs⟩:∃ s,V[kp - a]? = some s:=⟨_,List.getElem?_eq_getElem (by have:=HJ.out.2.1;omega)⟩
     have e1:V.drop (kp - a)=s :: V.drop (kp+1 - a):=by
       have:=HJ.out.2.1
       rw [List.drop_eq_getElem_cons (by omega),(List.getElem?_eq_some_iff.1 hs).2,show kp - a+1=kp+1 - a by omega]
     have e2:V.take (kp+1 - a)=V.take (kp - a)++[s]:=by rw [show kp+1 - a=kp - a+1 by omega,List.take_add_one,hs];rfl
     have HO:=Lh (show OrdAt wr g ((X++V.take (kp - a))++s :: ([]++t :: (V.drop (kp+1 - a)++Y))) rest by have:=HJ.out.2.2.1;rw [e2] at this;simpa using this)
     have HSW:=Lh (show swapL ((X++V.take (kp - a))++s :: ([]++t :: (V.drop (kp+1 - a)++Y))) (kp+1) kp=X++V.take (kp - a)++t :: (V.drop (kp - a)++Y) by
       have h:=swap_app' (X++V.take (kp - a)) [] (V.drop (kp+1 - a)++Y) s t
       have hln:(X++V.take (kp - a)).length=kp:=by have:=HA.out;have:=HJ.out.2.1;rw [List.length_append,List.length_take];omega
       rw [hln,List.length_nil,Nat.add_zero] at h
       rw [h,e1];simp)
     have HLN:=Lh (show ((X++V.take (kp - a))++s :: ([]++t :: (V.drop (kp+1 - a)++Y))).length=n by
       have h1:=HA.out;have:=HJ.out.2.1
       simp only [List.length_append,List.length_cons,List.length_take,List.length_drop,List.length_nil];omega)
     have HKN:=Lh (show kp+1 < n by have h1:=HA.out;have:=HJ.out.2.1;omega)
     have HLT:=Lh hlt
     have hgt:decide (a < kp+1)=true:=decide_eq_true hlt
     have hgt2:decide ((a:Int) < (kp:Int)+1)=true:=decide_eq_true (by omega)
     clear hs e1 e2
     go_upto_region 23 with fail
     refine wp_code (c:=partR Tryd.f73 23) (by kernel_rfl) ?_
     refine sm_r23 (i:=kp) (l:=_) (rest:=rest) _ _ HO.out HLN.out hn HKN.out ?_
     intro j6 j7 j8 j9 kF kG kH kI kJ kK kL kN kO kP kQ kR w2 h2
     have H2:=Lh h2
     clear h2
     go_wp2
     go_roundw
     case rel=>exact ⟨kp,by first | rfl | go_num | (congr 1;omega),by omega,Lh ⟨by have:=HLT.out;omega,by have:=HJ.out.2.1;omega,by rw [←HSW.out];exact H2.out.1,HJ.out.2.2.2.trans H2.out.2⟩⟩
     case measure=>have:=HLT.out;simp [intOf];omega
   · have HE:=Lh (show k - a=0 by omega)
     have hge:decide (a < k)=false:=decide_eq_false hlt
     go_wp2
     exact K1.out _ _ _ _ _ _ _ _ _ _ _ _ _ _ _ _ _ _ _ _ _ _ _ ⟨by have:=HJ.out.2.2.1;rw [HE.out,List.take_zero,List.drop_zero,List.append_nil] at this;exact this,HJ.out.2.2.2⟩
end Go.Proofs.YtppoiahhaclleaaDoor
