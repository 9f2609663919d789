/- Part 18 of a claim; what it proves stands in its last text. -/
import Derived.Test.YtjbabpnepjhllaaGreatSx17
import Derived.Test.YtjbabpnepjhllaaGreatSx15
import Derived.Test.YtjbabpnepjhllaaGreatSx16
import Derived.Test.YtjbabpnepjhllaaGreatSx10
import Derived.Test.YtjbabpnepjhllaaGreatSx12
namespace Go.Proofs.YtjbabpnepjhllaaGreat
open Go.RowKit
set_option maxRecDepth 100000
variable {aD aA aE aF aG aH aI aJ u8 aK aL aM aN aO aP aQ aR aS aT aU aV aW aX aY aZ a7 a8 bA bB bC bD bE u32 bF bG bH bI bJ bK bL bM bN bO bP bQ bR bS bT bU bV bW bX bY bZ b9 cA cB cC cD cE cF cG cH cI u64 cJ cK cL cM cN cO cP cQ cR cS cT cU cV cW cX cY cZ dA dB dC dD dE dF dG dH dI dJ dK dL dM dN dO dP dQ dR dS dT dU dV dW dX dY dZ eA eB eC eD eE fV fW fX fY fZ f7 f8 f9 gA gB gC gD gE gF gG gH gI gJ gK gL gM gN gO gP gQ jU jV : Value}
set_option maxHeartbeats 4000000 in
theorem rone_r10 {s i:Int} (w:World) (Q:Exit→Act→World→Prop) (hs:s=0∨s=1∨s=5∨s=13∨s=19∨s=21∨s=29) (hi:i=0∨i=1∨i=2∨i=3∨i=4)
   (k:∀ (gR gS gT gU gV eF:Value),Q .normal ⟨#[aD,aA,aE,aF,aG,.int .i64 s,aI,aJ,.int .i64 i,.bool (bitK s i),aL,aM,aN,aO,aP,aQ,aR,aS,aT,aU,aV,aW,aX,aY,aZ,a7,a8,bA,bB,bC,bD,bE,u32,gR,gS,gT,gU,gV,eF,bL,bM,bN,bO,bP,bQ,bR,bS,bT,bU,bV,bW,bX,bY,bZ,b9,cA,cB,cC,cD,cE,cF,cG,cH,cI,u64,cJ,cK,cL,cM,cN,cO,cP,cQ,cR,cS,cT,cU,cV,cW,cX,cY,cZ,dA,dB,dC,dD,dE,dF,dG,dH,dI,dJ,dK,dL,dM,dN,dO,dP,dQ,dR,dS,dT,dU,dV,dW,dX,dY,dZ,eA,eB,eC,eD,eE,fV,fW,fX,fY,fZ,f7,f8,f9,gA,gB,gC,gD,gE,gF,gG,gH,gI,gJ,gK,gL,gM,gN,gO,gP,gQ,jU,jV],[]⟩ w):(partR Tryz.f34 10).wp Tryz.prog Q ⟨#[aD,aA,aE,aF,aG,.int .i64 s,aI,aJ,.int .i64 i,aK,aL,aM,aN,aO,aP,aQ,aR,aS,aT,aU,aV,aW,aX,aY,aZ,a7,a8,bA,bB,bC,bD,bE,u32,bF,bG,bH,bI,bJ,bK,bL,bM,bN,bO,bP,bQ,bR,bS,bT,bU,bV,bW,bX,bY,bZ,b9,cA,cB,cC,cD,cE,cF,cG,cH,cI,u64,cJ,cK,cL,cM,cN,cO,cP,cQ,cR,cS,cT,cU,cV,cW,cX,cY,cZ,dA,dB,dC,dD,dE,dF,dG,dH,dI,dJ,dK,dL,dM,dN,dO,dP,dQ,dR,dS,dT,dU,dV,dW,dX,dY,dZ,eA,eB,eC,eD,eE,fV,fW,fX,fY,fZ,f7,f8,f9,gA,gB,gC,gD,gE,gF,gG,gH,gI,gJ,gK,gL,gM,gN,gO,gP,gQ,jU,jV],[]⟩ w:=by
 have HK:=Lh k
 clear k
 conv=>arg 2;whnf
 rcases hs with rfl | rfl | rfl | rfl | rfl | rfl | rfl <;> rcases hi with rfl | rfl | rfl | rfl | rfl
 all_goals
   go_wp2_with fail
   exact HK.out _ _ _ _ _ _
set_option maxHeartbeats 4000000 in
theorem rone_r11 {g n c j:Nat} {A:Option Addr} {x:Int} {h:Bool} (w:World) (Q:Exit→Act→World→Prop) (hc:w.cell? ⟨g,j,none⟩=some (.int .i64 x)) (hj:j < 5)
   (k:∀ (eG eH eI eJ eK eL eM eN eO eP eQ eR eS eT eU eV eW eX eY eZ fA fB jW jX:Value),Q .normal ⟨#[.slice A n c,aA,aE,aF,aG,aH,.pointer (some ⟨g,0,none⟩),aJ,.int .i64 (j:Nat),.bool h,aL,aM,aN,aO,aP,aQ,aR,aS,aT,aU,aV,aW,aX,aY,aZ,a7,a8,bA,bB,bC,bD,bE,u32,bF,bG,bH,bI,bJ,bK,eG,eH,eI,eJ,eK,eL,eM,eN,eO,eP,eQ,eR,eS,eT,eU,eV,eW,eX,eY,eZ,fA,fB,jW,jX,.bool (!partK n h x),u64,cJ,cK,cL,cM,cN,cO,cP,cQ,cR,cS,cT,cU,cV,cW,cX,cY,cZ,dA,dB,dC,dD,dE,dF,dG,dH,dI,dJ,dK,dL,dM,dN,dO,dP,dQ,dR,dS,dT,dU,dV,dW,dX,dY,dZ,eA,eB,eC,eD,eE,fV,fW,fX,fY,fZ,f7,f8,f9,gA,gB,gC,gD,gE,gF,gG,gH,gI,gJ,gK,gL,gM,gN,gO,gP,gQ,jU,jV],[]⟩ w):(partR Tryz.f34 11).wp Tryz.prog Q ⟨#[.slice A n c,aA,aE,aF,aG,aH,.pointer (some ⟨g,0,none⟩),aJ,.int .i64 (j:Nat),.bool h,aL,aM,aN,aO,aP,aQ,aR,aS,aT,aU,aV,aW,aX,aY,aZ,a7,a8,bA,bB,bC,bD,bE,u32,bF,bG,bH,bI,bJ,bK,bL,bM,bN,bO,bP,bQ,bR,bS,bT,bU,bV,bW,bX,bY,bZ,b9,cA,cB,cC,cD,cE,cF,cG,cH,cI,u64,cJ,cK,cL,cM,cN,cO,cP,cQ,cR,cS,cT,cU,cV,cW,cX,cY,cZ,dA,dB,dC,dD,dE,dF,dG,dH,dI,dJ,dK,dL,dM,dN,dO,dP,dQ,dR,dS,dT,dU,dV,dW,dX,dY,dZ,eA,eB,eC,eD,eE,fV,fW,fX,fY,fZ,f7,f8,f9,gA,gB,gC,gD,gE,gF,gG,gH,gI,gJ,gK,gL,gM,gN,gO,gP,gQ,jU,jV],[]⟩ w:=by
 have HK:=Lh k
 clear k
 conv=>arg 2;whnf
 have i0:(0:Int)≤(j:Int):=by omega
 have i1:(j:Int) < 5:=by omega
 have i2:IntKind.i64.wrap (j:Int)=j:=by rw [IntKind.wrap_i64];omega
 have i3:j < 5:=hj
 cases h
 · cases d0:(x == -1)
   · have d1:(x != -1)=true:=by rw [bne,d0];rfl
     have HV:=Lh (show (!partK n false x)=true by unfold partK;simp only [d0];rfl)
     rw [HV.out] at HK
     go_wp2_with fail
     exact HK.out _ _ _ _ _ _ _ _ _ _ _ _ _ _ _ _ _ _ _ _ _ _ _ _
   · have d1:(x != -1)=false:=by rw [bne,d0];rfl
     have HV:=Lh (show (!partK n false x)=false by unfold partK;simp only [d0];rfl)
     rw [HV.out] at HK
     go_wp2_with fail
     exact HK.out _ _ _ _ _ _ _ _ _ _ _ _ _ _ _ _ _ _ _ _ _ _ _ _
 · cases d0:decide (x < 0)
   · cases d1:decide ((n:Int)≤x)
     · have HV:=Lh (show (!partK n true x)=false by
         unfold partK thereK
         rw [if_pos rfl,decide_eq_true (by simpa using d0),decide_eq_true (by simpa using d1)];rfl)
       rw [HV.out] at HK
       go_wp2_with fail
       exact HK.out _ _ _ _ _ _ _ _ _ _ _ _ _ _ _ _ _ _ _ _ _ _ _ _
     · have HV:=Lh (show (!partK n true x)=true by
         unfold partK thereK
         have h1:(n:Int)≤x:=by simpa using d1
         rw [if_pos rfl,decide_eq_false (p:=x < (n:Int)) (by omega),Bool.and_false];rfl)
       rw [HV.out] at HK
       go_wp2_with fail
       exact HK.out _ _ _ _ _ _ _ _ _ _ _ _ _ _ _ _ _ _ _ _ _ _ _ _
   · have HV:=Lh (show (!partK n true x)=true by
       unfold partK thereK
       have h1:x < 0:=by simpa using d0
       rw [if_pos rfl,decide_eq_false (p:=0≤x) (by omega),Bool.false_and];rfl)
     rw [HV.out] at HK
     go_wp2_with fail
     exact HK.out _ _ _ _ _ _ _ _ _ _ _ _ _ _ _ _ _ _ _ _ _ _ _ _
set_option maxHeartbeats 4000000 in
theorem rone_r13 {b j:Nat} {k0:Int} {h:Bool} (w:World) (Q:Exit→Act→World→Prop) (hc:w.cell? ⟨b,0,none⟩=some (.int .i64 k0))
   (k:∀ (jY jZ kA gY gZ g9 hI hO hZ:Value),Q .normal ⟨#[aD,aA,aE,.pointer (some ⟨b,0,none⟩),aG,aH,aI,aJ,.int .i64 (j:Nat),.bool h,aL,aM,aN,aO,aP,aQ,aR,aS,aT,aU,aV,aW,aX,aY,aZ,a7,a8,bA,bB,bC,bD,bE,u32,bF,bG,bH,bI,bJ,bK,bL,bM,bN,bO,bP,bQ,bR,bS,bT,bU,bV,bW,bX,bY,bZ,b9,cA,cB,cC,cD,cE,cF,cG,cH,cI,jY,jZ,kA,gY,gZ,g9,hI,hO,hZ,.bool (h && (decide (2≤j) || (k0 == 14))),cS,cT,cU,cV,cW,cX,cY,cZ,dA,dB,dC,dD,dE,dF,dG,dH,dI,dJ,dK,dL,dM,dN,dO,dP,dQ,dR,dS,dT,dU,dV,dW,dX,dY,dZ,eA,eB,eC,eD,eE,fV,fW,fX,fY,fZ,f7,f8,f9,gA,gB,gC,gD,gE,gF,gG,gH,gI,gJ,gK,gL,gM,gN,gO,gP,gQ,jU,jV],[]⟩ w):(partR Tryz.f34 13).wp Tryz.prog Q ⟨#[aD,aA,aE,.pointer (some ⟨b,0,none⟩),aG,aH,aI,aJ,.int .i64 (j:Nat),.bool h,aL,aM,aN,aO,aP,aQ,aR,aS,aT,aU,aV,aW,aX,aY,aZ,a7,a8,bA,bB,bC,bD,bE,u32,bF,bG,bH,bI,bJ,bK,bL,bM,bN,bO,bP,bQ,bR,bS,bT,bU,bV,bW,bX,bY,bZ,b9,cA,cB,cC,cD,cE,cF,cG,cH,cI,u64,cJ,cK,cL,cM,cN,cO,cP,cQ,cR,cS,cT,cU,cV,cW,cX,cY,cZ,dA,dB,dC,dD,dE,dF,dG,dH,dI,dJ,dK,dL,dM,dN,dO,dP,dQ,dR,dS,dT,dU,dV,dW,dX,dY,dZ,eA,eB,eC,eD,eE,fV,fW,fX,fY,fZ,f7,f8,f9,gA,gB,gC,gD,gE,gF,gG,gH,gI,gJ,gK,gL,gM,gN,gO,gP,gQ,jU,jV],[]⟩ w:=by
 have HK:=Lh k
 clear k
 conv=>arg 2;whnf
 cases h
 · rw [Bool.false_and] at HK
   go_wp2_with fail
   exact HK.out _ _ _ _ _ _ _ _ _
 · rw [Bool.true_and] at HK
   by_cases h2:2≤j
   · have d2:decide ((2:Int)≤(j:Int))=true:=decide_eq_true (by omega)
     rw [decide_eq_true h2,Bool.true_or] at HK
     clear h2
     go_wp2_with fail
     exact HK.out _ _ _ _ _ _ _ _ _
   · have d2:decide ((2:Int)≤(j:Int))=false:=decide_eq_false (by omega)
     rw [decide_eq_false h2,Bool.false_or] at HK
     clear h2
     cases d3:(k0 == 14)
     · rw [d3] at HK
       go_wp2_with fail
       exact HK.out _ _ _ _ _ _ _ _ _
     · rw [d3] at HK
       go_wp2_with fail
       exact HK.out _ _ _ _ _ _ _ _ _
set_option maxHeartbeats 4000000 in
theorem rone_r14 {g gv ov n c j v:Nat} {sec q:Bool} (w:World) (Q:Exit→Act→World→Prop) (hc:w.cell? ⟨g,j,none⟩=some (.int .i64 (v:Nat))) (hv:w.cell? ⟨gv,ov+v*3+1,none⟩=some (.bool q)) (hj:j < 5) (hvn:v < n) (hn:n≤100000)
   (k:∀ (iB iC iD fC fD fE fF fG fH fI:Value),Q .normal ⟨#[.slice (some ⟨gv,ov,none⟩) n c,aA,aE,aF,aG,aH,.pointer (some ⟨g,0,none⟩),.bool (sec || q),.int .i64 (j:Nat),aK,aL,aM,aN,aO,aP,aQ,aR,aS,aT,aU,aV,aW,aX,aY,aZ,a7,a8,bA,bB,bC,bD,bE,u32,bF,bG,bH,bI,bJ,bK,bL,bM,bN,bO,bP,bQ,bR,bS,bT,bU,bV,bW,bX,bY,bZ,b9,cA,cB,cC,cD,cE,cF,cG,cH,cI,u64,cJ,cK,cL,cM,cN,cO,cP,cQ,cR,iB,iC,iD,fC,fD,fE,fF,fG,fH,fI,dC,dD,dE,dF,dG,dH,dI,dJ,dK,dL,dM,dN,dO,dP,dQ,dR,dS,dT,dU,dV,dW,dX,dY,dZ,eA,eB,eC,eD,eE,fV,fW,fX,fY,fZ,f7,f8,f9,gA,gB,gC,gD,gE,gF,gG,gH,gI,gJ,gK,gL,gM,gN,gO,gP,gQ,jU,jV],[]⟩ w):(partR Tryz.f34 14).wp Tryz.prog Q ⟨#[.slice (some ⟨gv,ov,none⟩) n c,aA,aE,aF,aG,aH,.pointer (some ⟨g,0,none⟩),.bool sec,.int .i64 (j:Nat),aK,aL,aM,aN,aO,aP,aQ,aR,aS,aT,aU,aV,aW,aX,aY,aZ,a7,a8,bA,bB,bC,bD,bE,u32,bF,bG,bH,bI,bJ,bK,bL,bM,bN,bO,bP,bQ,bR,bS,bT,bU,bV,bW,bX,bY,bZ,b9,cA,cB,cC,cD,cE,cF,cG,cH,cI,u64,cJ,cK,cL,cM,cN,cO,cP,cQ,cR,cS,cT,cU,cV,cW,cX,cY,cZ,dA,dB,dC,dD,dE,dF,dG,dH,dI,dJ,dK,dL,dM,dN,dO,dP,dQ,dR,dS,dT,dU,dV,dW,dX,dY,dZ,eA,eB,eC,eD,eE,fV,fW,fX,fY,fZ,f7,f8,f9,gA,gB,gC,gD,gE,gF,gG,gH,gI,gJ,gK,gL,gM,gN,gO,gP,gQ,jU,jV],[]⟩ w:=by
 have HK:=Lh k
 clear k
 conv=>arg 2;whnf
 have i0:(0:Int)≤(j:Int):=by omega
 have i1:(j:Int) < 5:=by omega
 have i2:IntKind.i64.wrap (j:Int)=j:=by rw [IntKind.wrap_i64];omega
 have i3:j < 5:=hj
 have j0:(0:Int)≤(v:Int):=by omega
 have j1:(v:Int) < (n:Int):=by omega
 have j2:IntKind.i64.wrap (v:Int)=v:=by rw [IntKind.wrap_i64];omega
 cases sec
 · go_wp2_with fail
   exact HK.out _ _ _ _ _ _ _ _ _ _
 · go_wp2_with fail
   exact HK.out _ _ _ _ _ _ _ _ _ _
set_option maxHeartbeats 4000000 in
theorem rone_r18n {g j:Nat} {x:Int} (w:World) (Q:Exit→Act→World→Prop) (hc:w.cell? ⟨g,j,none⟩=some (.int .i64 x)) (hj:j < 5) (hx:decide (0≤x)=false)
   (k:∀ (fN fO fP fQ fR fS fT fU iF iG iH iI iJ iK iL iM iN iO iP iQ iR iS iT iU iV iW iX iY iZ jA jB jC kB kC jF jG:Value),Q .normal ⟨#[aD,aA,aE,aF,aG,aH,.pointer (some ⟨g,0,none⟩),aJ,u8,aK,.int .i64 (j:Nat),aM,aN,aO,aP,aQ,aR,aS,aT,aU,aV,aW,aX,aY,aZ,a7,a8,bA,bB,bC,bD,bE,u32,bF,bG,bH,bI,bJ,bK,bL,bM,bN,bO,bP,bQ,bR,bS,bT,bU,bV,bW,bX,bY,bZ,b9,cA,cB,cC,cD,cE,cF,cG,cH,cI,u64,cJ,cK,cL,cM,cN,cO,cP,cQ,cR,cS,cT,cU,cV,cW,cX,cY,cZ,dA,dB,dC,dD,dE,dF,fN,fO,fP,fQ,fR,fS,fT,fU,iF,iG,iH,iI,iJ,iK,iL,iM,iN,iO,iP,iQ,iR,iS,iT,iU,iV,iW,iX,iY,iZ,jA,jB,jC,kB,kC,jF,jG,.bool false,gE,gF,gG,gH,gI,gJ,gK,gL,gM,gN,gO,gP,gQ,jU,jV],[]⟩ w):(partR Tryz.f34 18).wp Tryz.prog Q ⟨#[aD,aA,aE,aF,aG,aH,.pointer (some ⟨g,0,none⟩),aJ,u8,aK,.int .i64 (j:Nat),aM,aN,aO,aP,aQ,aR,aS,aT,aU,aV,aW,aX,aY,aZ,a7,a8,bA,bB,bC,bD,bE,u32,bF,bG,bH,bI,bJ,bK,bL,bM,bN,bO,bP,bQ,bR,bS,bT,bU,bV,bW,bX,bY,bZ,b9,cA,cB,cC,cD,cE,cF,cG,cH,cI,u64,cJ,cK,cL,cM,cN,cO,cP,cQ,cR,cS,cT,cU,cV,cW,cX,cY,cZ,dA,dB,dC,dD,dE,dF,dG,dH,dI,dJ,dK,dL,dM,dN,dO,dP,dQ,dR,dS,dT,dU,dV,dW,dX,dY,dZ,eA,eB,eC,eD,eE,fV,fW,fX,fY,fZ,f7,f8,f9,gA,gB,gC,gD,gE,gF,gG,gH,gI,gJ,gK,gL,gM,gN,gO,gP,gQ,jU,jV],[]⟩ w:=by
 have HK:=Lh k
 clear k
 conv=>arg 2;whnf
 have i0:(0:Int)≤(j:Int):=by omega
 have i1:(j:Int) < 5:=by omega
 have i2:IntKind.i64.wrap (j:Int)=j:=by rw [IntKind.wrap_i64];omega
 have i3:j < 5:=hj
 go_wp2_with fail
 exact HK.out _ _ _ _ _ _ _ _ _ _ _ _ _ _ _ _ _ _ _ _ _ _ _ _ _ _ _ _ _ _ _ _ _ _ _ _
set_option maxHeartbeats 4000000 in
theorem rone_r18 {g gv ov n c j v:Nat} {sec:Bool} {x:KVar} (w:World) (Q:Exit→Act→World→Prop) (hc:w.cell? ⟨g,j,none⟩=some (.int .i64 (v:Nat))) (hm:w.cell? ⟨gv,ov+v*3+2,none⟩=some (.int .i64 x.mode)) (hs:w.cell? ⟨gv,ov+v*3+1,none⟩=some (.bool x.secret)) (hj:j < 5) (hvn:v < n) (hn:n≤100000)
   (k:∀ (fN fO fP fQ fR fS fT fU iF iG iH iI iJ iK iL iM iN iO iP iQ iR iS iT iU iV iW iX iY iZ jA jB jC kB kC jF jG:Value),Q .normal ⟨#[.slice (some ⟨gv,ov,none⟩) n c,aA,aE,aF,aG,aH,.pointer (some ⟨g,0,none⟩),.bool sec,u8,aK,.int .i64 (j:Nat),aM,aN,aO,aP,aQ,aR,aS,aT,aU,aV,aW,aX,aY,aZ,a7,a8,bA,bB,bC,bD,bE,u32,bF,bG,bH,bI,bJ,bK,bL,bM,bN,bO,bP,bQ,bR,bS,bT,bU,bV,bW,bX,bY,bZ,b9,cA,cB,cC,cD,cE,cF,cG,cH,cI,u64,cJ,cK,cL,cM,cN,cO,cP,cQ,cR,cS,cT,cU,cV,cW,cX,cY,cZ,dA,dB,dC,dD,dE,dF,fN,fO,fP,fQ,fR,fS,fT,fU,iF,iG,iH,iI,iJ,iK,iL,iM,iN,iO,iP,iQ,iR,iS,iT,iU,iV,iW,iX,iY,iZ,jA,jB,jC,kB,kC,jF,jG,.bool (givenK x || (sec && !x.secret)),gE,gF,gG,gH,gI,gJ,gK,gL,gM,gN,gO,gP,gQ,jU,jV],[]⟩ w):(partR Tryz.f34 18).wp Tryz.prog Q ⟨#[.slice (some ⟨gv,ov,none⟩) n c,aA,aE,aF,aG,aH,.pointer (some ⟨g,0,none⟩),.bool sec,u8,aK,.int .i64 (j:Nat),aM,aN,aO,aP,aQ,aR,aS,aT,aU,aV,aW,aX,aY,aZ,a7,a8,bA,bB,bC,bD,bE,u32,bF,bG,bH,bI,bJ,bK,bL,bM,bN,bO,bP,bQ,bR,bS,bT,bU,bV,bW,bX,bY,bZ,b9,cA,cB,cC,cD,cE,cF,cG,cH,cI,u64,cJ,cK,cL,cM,cN,cO,cP,cQ,cR,cS,cT,cU,cV,cW,cX,cY,cZ,dA,dB,dC,dD,dE,dF,dG,dH,dI,dJ,dK,dL,dM,dN,dO,dP,dQ,dR,dS,dT,dU,dV,dW,dX,dY,dZ,eA,eB,eC,eD,eE,fV,fW,fX,fY,fZ,f7,f8,f9,gA,gB,gC,gD,gE,gF,gG,gH,gI,gJ,gK,gL,gM,gN,gO,gP,gQ,jU,jV],[]⟩ w:=by
 have HK:=Lh k
 clear k
 conv=>arg 2;whnf
 have i0:(0:Int)≤(j:Int):=by omega
 have i1:(j:Int) < 5:=by omega
 have i2:IntKind.i64.wrap (j:Int)=j:=by rw [IntKind.wrap_i64];omega
 have i3:j < 5:=hj
 have j0:(0:Int)≤(v:Int):=by omega
 have j1:(v:Int) < (n:Int):=by omega
 have j2:IntKind.i64.wrap (v:Int)=v:=by rw [IntKind.wrap_i64];omega
 have hg:givenK x=(x.mode == 1 || x.mode == 2):=rfl
 rw [hg] at HK
 clear hg
 cases d1:(x.mode == 1)
 · cases d2:(x.mode == 2)
   · rw [d1,d2] at HK
     cases sec
     · go_wp2_with fail
       exact HK.out _ _ _ _ _ _ _ _ _ _ _ _ _ _ _ _ _ _ _ _ _ _ _ _ _ _ _ _ _ _ _ _ _ _ _ _
     · go_wp2_with fail
       exact HK.out _ _ _ _ _ _ _ _ _ _ _ _ _ _ _ _ _ _ _ _ _ _ _ _ _ _ _ _ _ _ _ _ _ _ _ _
   · rw [d1,d2] at HK
     go_wp2_with fail
     exact HK.out _ _ _ _ _ _ _ _ _ _ _ _ _ _ _ _ _ _ _ _ _ _ _ _ _ _ _ _ _ _ _ _ _ _ _ _
 · rw [d1] at HK
   go_wp2_with fail
   exact HK.out _ _ _ _ _ _ _ _ _ _ _ _ _ _ _ _ _ _ _ _ _ _ _ _ _ _ _ _ _ _ _ _ _ _ _ _
end Go.Proofs.YtjbabpnepjhllaaGreat
namespace Go.Proofs.YtjbabpnepjhllaaGreat
open Go.RowKit
theorem puts_app (l a b:List Fct):putsF l (a++b)=putsF (putsF l a) b:=by unfold putsF;rw [List.foldl_append]
end Go.Proofs.YtjbabpnepjhllaaGreat
namespace Go.Proofs.YtjbabpnepjhllaaGreat
open Go.RowKit
def startF (k:Krn):List Fct:=if checkK k then sortF (k.reqs.map needsF).flatten else []
theorem facts_nil (w:World) (F:Nat→Prop):FactsAt w F (.slice none 0 0) []:=⟨none,0,rfl,by simp,by simp,fun h=>absurd rfl h⟩
end Go.Proofs.YtjbabpnepjhllaaGreat
namespace Go.Proofs.YtjbabpnepjhllaaGreat
open Go.RowKit
set_option maxRecDepth 100000
def NG (w:World) (ga:Nat):Nat→Prop:=fun q=>q < w.heap.size∧q≠ga
theorem ng_chg {w w':World} {ga sz:Nat} {v:Value} {rows:List (List Value)} (h:Rows w (NG w ga) sz v rows) (hc:Chg (fun q=>q=ga) w w'):Rows w' (NG w' ga) sz v rows :=
 (Rows.keep h (hc.same fun _ hk=>⟨hk.1,hk.2⟩)).mono fun _ hk=>⟨Nat.lt_of_lt_of_le hk.1 hc.size,hk.2⟩
theorem ng_next {w w':World} {ga sz:Nat} {v:Value} {rows:List (List Value)} (h:Rows w (NG w ga) sz v rows) (hb:Below w.heap.size w w'):Rows w' (NG w' ga) sz v rows:=ng_chg h (Chg.of_below hb)
structure LookAt (w:World) (bx ga:Nat) (Av:Option Addr) (nv cv:Nat) (Ao:Option Addr) (no co:Nat) (vr:Value) (Ae:Option Addr) (ne ce:Nat) (k:Krn) (A:List (List Fct)):Prop where
 box:w.heap[bx]? = some (.cells #[.slice Av nv cv,.slice Ao no co,vr,.slice Ae ne ce,.slice (some ⟨ga,0,none⟩) no no] 81 (0,0))
 blk:∃ vals:List Value,vals.length=no∧w.heap[ga]? = some (.cells vals.toArray 39 (0,0))∧∀ (i:Nat) (v:Value) (l:List Fct),vals[i]? = some v→A[i]? = some l→(∃ A n c,v=.slice A n c)∧FactsAt w (NG w ga) v l
 len:A.length=no
 hne:bx≠ga
 vars:KVarsAt w (NG w ga) (.slice Av nv cv) k.vars
 ops:KOpsAt w (NG w ga) (.slice Ao no co) k.ops
 ends:NumsAt w (NG w ga) (.slice Ae ne ce) (kEnds k.ops)
section
variable {w w':World} {bx ga:Nat} {Av:Option Addr} {nv cv:Nat} {Ao:Option Addr} {no co:Nat} {vr:Value} {Ae:Option Addr} {ne ce:Nat} {k:Krn} {A:List (List Fct)}
theorem LookAt.lt (h:LookAt w bx ga Av nv cv Ao no co vr Ae ne ce k A):bx < w.heap.size∧ga < w.heap.size:=by
 obtain ⟨vals,_,h1,_⟩:=h.blk
 exact ⟨lt_of_block h.box,lt_of_block h1⟩
theorem LookAt.next (h:LookAt w bx ga Av nv cv Ao no co vr Ae ne ce k A) (hb:Below w.heap.size w w'):LookAt w' bx ga Av nv cv Ao no co vr Ae ne ce k A:=by
 obtain ⟨vals,h1,h2,h3⟩:=h.blk
 exact ⟨(hb.block bx h.lt.1).trans h.box,⟨vals,h1,(hb.block ga h.lt.2).trans h2,fun i v l hv hl=>⟨(h3 i v l hv hl).1,ng_next (h3 i v l hv hl).2 hb⟩⟩,h.len,h.hne,ng_next h.vars hb,ng_next h.ops hb,ng_next h.ends hb⟩
theorem LookAt.nk (h:LookAt w bx ga Av nv cv Ao no co vr Ae ne ce k A):nv=k.vars.length∧no=k.ops.length∧ne=(kEnds k.ops).length:=⟨(rows_len h.vars).1,(rows_len h.ops).1,(rows_len h.ends).1⟩
theorem LookAt.cell (h:LookAt w bx ga Av nv cv Ao no co vr Ae ne ce k A):w.cell? ⟨bx,0,none⟩=some (.slice Av nv cv)∧w.cell? ⟨bx,1,none⟩=some (.slice Ao no co)∧w.cell? ⟨bx,2,none⟩=some vr∧w.cell? ⟨bx,3,none⟩=some (.slice Ae ne ce)∧w.cell? ⟨bx,4,none⟩=some (.slice (some ⟨ga,0,none⟩) no no):=by
 have:=h.box
 refine ⟨?_,?_,?_,?_,?_⟩ <;> simp [World.cell?,this]
theorem LookAt.at_ (h:LookAt w bx ga Av nv cv Ao no co vr Ae ne ce k A) {i:Nat} (hi:i < no):∃ u,w.cell? ⟨ga,i,none⟩=some u∧w.frozen? ⟨ga,i,none⟩=false:=by
 obtain ⟨vals,h1,h2,_⟩:=h.blk
 obtain ⟨u,hu⟩:∃ u,vals[i]? = some u:=⟨_,List.getElem?_eq_getElem (by omega)⟩
 exact ⟨u,by simp only [World.cell?,h2];simpa using hu,by simp [World.frozen?,h2]⟩
theorem LookAt.set (h:LookAt w bx ga Av nv cv Ao no co vr Ae ne ce k A) {i:Nat} {Al:Option Addr} {nl cl:Nat} {l:List Fct} (hl:FactsAt w (NG w ga) (.slice Al nl cl) l) :
   LookAt (w.setCell ⟨ga,i,none⟩ (.slice Al nl cl)) bx ga Av nv cv Ao no co vr Ae ne ce k (A.set i l)∧Chg (fun q=>q=ga) w (w.setCell ⟨ga,i,none⟩ (.slice Al nl cl)):=by
 have hc:Chg (fun q=>q=ga) w (w.setCell ⟨ga,i,none⟩ (.slice Al nl cl)):=(Chg.refl (fun q=>q=ga) w).setCell (p:=⟨ga,i,none⟩) (.inl rfl) _
 obtain ⟨vals,h1,h2,h3⟩:=h.blk
 refine ⟨⟨(Below.heap_setCell _ _ _ bx (fun e=>h.hne e)).trans h.box,⟨vals.set i (.slice Al nl cl),by rw [List.length_set];exact h1,by simp [World.setCell,Array.getElem?_modify,h2],fun j v q hv hq=>?_⟩,by rw [List.length_set];exact h.len,h.hne,ng_chg h.vars hc,ng_chg h.ops hc,ng_chg h.ends hc⟩,hc⟩
 by_cases e:i=j
 · subst e
   have hil:i < A.length:=by
     have:=(List.getElem?_eq_some_iff.1 hq).1
     simpa using this
   rw [List.getElem?_set_self (by rw [h1,←h.len];exact hil)] at hv
   rw [List.getElem?_set_self hil] at hq
   cases hv;cases hq
   exact ⟨⟨_,_,_,rfl⟩,ng_chg hl hc⟩
 · rw [List.getElem?_set_ne e] at hv hq
   exact ⟨(h3 j v q hv hq).1,ng_chg (h3 j v q hv hq).2 hc⟩
end
def LookSays (bx ga:Nat) (Av:Option Addr) (nv cv:Nat) (Ao:Option Addr) (no co:Nat) (vr:Value) (Ae:Option Addr) (ne ce:Nat) (k:Krn) (l:List Fct) (A:List (List Fct)) (w:World) (e:Ending) (w':World):Prop :=
 ∃ A2 n c,e=.returned (.slice A2 n c)∧FactsAt w' (NG w' ga) (.slice A2 n c) l∧LookAt w' bx ga Av nv cv Ao no co vr Ae ne ce k A∧Chg (fun q=>q=ga) w w'
theorem LookSays.to {bx ga:Nat} {Av:Option Addr} {nv cv:Nat} {Ao:Option Addr} {no co:Nat} {vr:Value} {Ae:Option Addr} {ne ce:Nat} {k:Krn} {l:List Fct} {A:List (List Fct)} {w w1:World} {e:Ending} {w':World}
   (h:LookSays bx ga Av nv cv Ao no co vr Ae ne ce k l A w1 e w') (hc:Chg (fun q=>q=ga) w w1):LookSays bx ga Av nv cv Ao no co vr Ae ne ce k l A w e w':=by
 obtain ⟨A2,n,c,he,h1,h2,h3⟩:=h
 exact ⟨A2,n,c,he,h1,h2,hc.trans h3⟩
theorem runD_well {vs:List KVar} {ops:List KOp} (hone:∀ (i:Nat) (o:KOp),ops[i]? = some o→o.kind≠15→oneK vs o=true) {m:Bool} {i t:Nat} {l l':List Fct} {A A':List (List Fct)} (h:RunD vs ops m i t l A l' A'):WellL vs.length l→WellL vs.length l':=by
 induction h with
 | done _=>exact id
 | op hi ho hk hr ih=>exact fun h=>ih (well_after (hone _ _ ho hk) h)
 | loop hi ho hk he hl hr ihl ihr=>exact fun h=>ihr (ihl h)
 | still hr hs ih=>exact ih
 | more hr hs hm ih1 ih2=>exact fun h=>ih2 (well_filter h _)
theorem runD_len {vs:List KVar} {ops:List KOp} {m:Bool} {i t:Nat} {l l':List Fct} {A A':List (List Fct)} (h:RunD vs ops m i t l A l' A'):A'.length=A.length:=by
 induction h with
 | done _=>rfl
 | op hi ho hk hr ih=>rw [ih,List.length_set]
 | loop hi ho hk he hl hr ihl ihr=>rw [ihr,List.length_set,ihl,List.length_set]
 | still hr hs ih=>exact ih
 | more hr hs hm ih1 ih2=>rw [ih2,ih1]
set_option maxHeartbeats 4000000 in
theorem loop1_any (A:Option Addr) (n c B:Nat) (f:Fct) (l:List Fct) (w:World) (F:Nat→Prop) (hc:w.cell? ⟨B,0,none⟩=some (.slice A n c)) (hB:B < w.heap.size) (hl:FactsAt w F (.slice A n c) l) (hF:∀ k,F k→k < w.heap.size) (hn:l.length≤100000) :
   Calls Tryz.prog 109 #[.agg #[.int .i64 f.kind,.int .i64 f.a,.int .i64 f.b],.pointer (some ⟨B,0,none⟩)] w fun e w'=>e=.returned (.bool (!knowsF l f))∧Below w.heap.size w w':=by
 go_enter Tryz.func109,Tryz.ntmps109
 go_upto_region 1 with (first | go_in)
 obtain ⟨W,hW⟩:∃ W,W=w.alloc (.cells #[.int .i64 f.kind,.int .i64 f.a,.int .i64 f.b] 45):=⟨_,rfl⟩
 rw [←hW]
 have hb:Below w.heap.size w W:=by rw [hW];exact (Below.refl _ _).alloc (Nat.le_refl _) _
 have hcn:∀ (j:Nat) (v:Value),#[Value.int .i64 f.kind,.int .i64 f.a,.int .i64 f.b][j]? = some v→W.cell? ⟨w.heap.size,j,none⟩=some v:=fun j v h=>by rw [hW];exact cell_new w _ _ h
 have c0:=hcn 0 _ rfl
 have c1:=hcn 1 _ rfl
 have c2:=hcn 2 _ rfl
 have c3:=(hb.cell (p:=⟨B,0,none⟩) hB).trans hc
 have HK:=Lh (Knows_any (.slice A n c) f l W F (Rows.keep hl (SameOn.of_below hb hF)) (fun k hk=>Nat.lt_of_lt_of_le (hF k hk) hb.size) hn)
 have HB:=Lh hb
 clear hW hb hcn hc hl hF hB
 go_wp2_with (first | ((with_reducible refine HK.out.mono ?_);rintro e w1 ⟨rfl,hb1⟩;have HB1:=Lh hb1;clear hb1) | go_in)
 go_ret
 exact ⟨rfl,HB.out.trans (HB1.out.mono HB.out.size)⟩
set_option maxHeartbeats 4000000 in
theorem dchk1_any (A:Option Addr) (n c B:Nat) (f:Fct) (l:List Fct) (w:World) (F:Nat→Prop) (hc:w.cell? ⟨B,0,none⟩=some (.slice A n c)) (hB:B < w.heap.size) (hl:FactsAt w F (.slice A n c) l) (hF:∀ k,F k→k < w.heap.size) (hn:l.length≤100000) :
   Calls Tryz.prog 40 #[.agg #[.int .i64 f.kind,.int .i64 f.a,.int .i64 f.b],.pointer (some ⟨B,0,none⟩)] w fun e w'=>e=.returned (.bool (!knowsF l f))∧Below w.heap.size w w':=by
 go_enter Tryz.func40,Tryz.ntmps40
 go_upto_region 1 with (first | go_in)
 obtain ⟨W,hW⟩:∃ W,W=w.alloc (.cells #[.int .i64 f.kind,.int .i64 f.a,.int .i64 f.b] 45):=⟨_,rfl⟩
 rw [←hW]
 have hb:Below w.heap.size w W:=by rw [hW];exact (Below.refl _ _).alloc (Nat.le_refl _) _
 have hcn:∀ (j:Nat) (v:Value),#[Value.int .i64 f.kind,.int .i64 f.a,.int .i64 f.b][j]? = some v→W.cell? ⟨w.heap.size,j,none⟩=some v:=fun j v h=>by rw [hW];exact cell_new w _ _ h
 have c0:=hcn 0 _ rfl
 have c1:=hcn 1 _ rfl
 have c2:=hcn 2 _ rfl
 have c3:=(hb.cell (p:=⟨B,0,none⟩) hB).trans hc
 have HK:=Lh (Knows_any (.slice A n c) f l W F (Rows.keep hl (SameOn.of_below hb hF)) (fun k hk=>Nat.lt_of_lt_of_le (hF k hk) hb.size) hn)
 have HB:=Lh hb
 clear hW hb hcn hc hl hF hB
 go_wp2_with (first | ((with_reducible refine HK.out.mono ?_);rintro e w1 ⟨rfl,hb1⟩;have HB1:=Lh hb1;clear hb1) | go_in)
 go_ret
 exact ⟨rfl,HB.out.trans (HB1.out.mono HB.out.size)⟩
set_option maxHeartbeats 4000000 in
theorem DelS_nil (g:Nat) (cb:Array Value) (w:World) (eg:∀ args w,(callFunc g args).run Tryz.prog w=.ok (.enter g args) w) :
   Calls Tryz.prog 107 #[.slice none 0 0,.func (.func g) #[] cb] w fun e w'=>e=.returned (.slice none 0 0)∧Below w.heap.size w w':=by
 have HIF:=Lh (IndexFunc_Fct (.slice none 0 0) g cb w (fun _=>False) [] (fun _=>true) (by simp) eg (facts_nil _ _) (fun k hk=>hk.elim) (fun x hx=>by simp at hx))
 rw [show firstIn (fun k=>(fun _:Fct=>true) (([]:List Fct).getD k ⟨0,0,0⟩)) ([]:List Fct).length 0 = -1 from firstIn_end] at HIF
 go_enter Tryz.func107,Tryz.ntmps107
 go_wp2_with (first | ((with_reducible refine HIF.out.mono ?_);rintro e w1 ⟨rfl,hb1⟩) | go_in)
 go_ret
 exact ⟨rfl,hb1⟩
end Go.Proofs.YtjbabpnepjhllaaGreat
namespace Go.Proofs.YtjbabpnepjhllaaGreat
open Go.RowKit
set_option maxRecDepth 100000
structure KFine (k:Krn):Prop where
 bal:KBal k.ops
 one:∀ (i:Nat) (o:KOp),k.ops[i]? = some o→oneK k.vars o=true
 ok:∀ o∈k.ops,KOpOk o
 nv:k.vars.length≤190
 no:k.ops.length≤4096
theorem KFine.small {k:Krn} (h:KFine k) {l:List Fct} (hw:WellL k.vars.length l):l.length≤40000∧∀ f∈l,FctOk f:=by
 have h1:=well_len hw
 have h2:=h.nv
 have h3:k.vars.length*k.vars.length≤190*190:=Nat.mul_le_mul h2 h2
 exact ⟨by omega,fun f hf=>well_ok (by omega) (hw.well f hf)⟩
theorem KFine.live {k:Krn} (h:KFine k) {m:Bool} {i t:Nat} {l l':List Fct} {A A':List (List Fct)} (hr:RunD k.vars k.ops m i t l A l' A') (hw:WellL k.vars.length l):WellL k.vars.length l':=runD_well (fun i o ho _=>h.one i o ho) hr hw
section
variable (bx ga:Nat) (Av:Option Addr) (nv cv:Nat) (Ao:Option Addr) (no co:Nat) (vr:Value) (Ae:Option Addr) (ne ce:Nat) (k:Krn)
def ThrC (N:Nat):Prop:=∀ (w:World) (A A':List (List Fct)) (l l':List Fct) (Al:Option Addr) (nl cl i t:Nat),t - i≤N→LookAt w bx ga Av nv cv Ao no co vr Ae ne ce k A→FactsAt w (NG w ga) (.slice Al nl cl) l→WellL k.vars.length l→LiveK k.ops i t→RunD k.vars k.ops false i t l A l' A' →
 Calls Tryz.prog 48 #[.pointer (some ⟨bx,0,none⟩),.int .i64 (i:Nat),.int .i64 (t:Nat),.slice Al nl cl] w (LookSays bx ga Av nv cv Ao no co vr Ae ne ce k l' A' w)
def LoopC (N:Nat):Prop:=∀ (w:World) (A A':List (List Fct)) (l l':List Fct) (Al:Option Addr) (nl cl i t:Nat),t - i≤N→i < t→(kEnds k.ops).getD i 0=(t:Int)→LookAt w bx ga Av nv cv Ao no co vr Ae ne ce k A→FactsAt w (NG w ga) (.slice Al nl cl) l→WellL k.vars.length l→LiveK k.ops (i+1) t→RunD k.vars k.ops true i t l A l' A' →
 Calls Tryz.prog 75 #[.pointer (some ⟨bx,0,none⟩),.int .i64 (i:Nat),.slice Al nl cl] w (LookSays bx ga Av nv cv Ao no co vr Ae ne ce k l' A' w)
set_option maxHeartbeats 8000000 in
theorem thr_step (hk:KFine k) (N:Nat) (hL:∀ M,M < N→LoopC bx ga Av nv cv Ao no co vr Ae ne ce k M):ThrC bx ga Av nv cv Ao no co vr Ae ne ce k N:=by
 intro w A A' l l' Al nl cl i t hN h hf hw hlv hr
 have HL:=Lh hL
 have HK:=Lh hk
 have HST:=Lh (And.intro h (And.intro hf (And.intro hw (And.intro hlv hr))))
 have HNK:=Lh h.nk
 have HTO:=Lh (And.intro hlv.len (And.intro hlv.le hN))
 have hit:=hlv.le
 have htn:t≤4096:=by have:=hlv.len;have:=hk.no;omega
 clear hL hk hN h hf hw hlv hr
 go_enter Tryz.func48,Tryz.ntmps48
 go_wp2
 go_loopw [3,9] (fun s3 s9 wr=>∃ (j:Nat) (Aj:List (List Fct)) (lj:List Fct) (A3:Option Addr) (n3 c3:Nat),i≤j∧j≤t∧s9=.int .i64 (j:Nat)∧s3=.slice A3 n3 c3∧LookAt wr bx ga Av nv cv Ao no co vr Ae ne ce k Aj∧FactsAt wr (NG wr ga) (.slice A3 n3 c3) lj∧WellL k.vars.length lj∧LiveK k.ops j t∧Hid (RunD k.vars k.ops false j t lj Aj l' A')∧Chg (fun q=>q=ga) w wr) (fun _ s9 _=>t - (intOf s9).toNat)
 case atStart=>exact ⟨i,A,l,Al,nl,cl,Nat.le_refl _,hit,rfl,rfl,HST.out.1,HST.out.2.1,HST.out.2.2.1,HST.out.2.2.2.1,Lh HST.out.2.2.2.2,Chg.refl _ _⟩
 case round =>
   obtain ⟨j,Aj,lj,A3,n3,c3,hij,hjt,rfl,rfl,hla,hfl,hwl,hlv,HR,hch⟩:=hrel
   have HLA:=Lh hla
   have HFL:=Lh hfl
   have HWL:=Lh hwl
   have HLV:=Lh hlv
   have HCH:=Lh hch
   clear hfl hwl hlv hch HST
   by_cases hlt:j < t
   · have d1:decide (j < t)=true:=decide_eq_true hlt
     have hjn:j < no:=by have:=HTO.out.1;have:=HNK.out.2.1;omega
     obtain ⟨o,hx⟩:∃ v,k.ops[j]? = some v:=⟨_,List.getElem?_eq_getElem (by have:=HTO.out.1;omega)⟩
     have HX:=Lh hx
     obtain ⟨c0,c1,c2,c3',c4⟩:=hla.cell
     obtain ⟨u,hu,hz⟩:=hla.at_ hjn
     obtain ⟨hset,hcs⟩:=hla.set (i:=j) HFL.out
     have HLS:=Lh hset
     have HCS:=Lh hcs
     have HFS:=Lh (show FactsAt (wr.setCell ⟨ga,j,none⟩ (.slice A3 n3 c3)) (NG (wr.setCell ⟨ga,j,none⟩ (.slice A3 n3 c3)) ga) (.slice A3 n3 c3) lj from ng_chg HFL.out hcs)
     have hno:no≤4096:=by have:=HK.out.no;have:=HNK.out.2.1;omega
     have i0:(0:Int)≤(j:Int):=by omega
     have i1:(j:Int) < (no:Int):=by omega
     have i2:IntKind.i64.wrap (j:Int)=j:=by rw [IntKind.wrap_i64];omega
     clear hset hcs hx hla
     go_upto_region 5 with (first | go_in)
     obtain ⟨W,hW⟩:∃ W,W=wr.setCell ⟨ga,j,none⟩ (.slice A3 n3 c3):=⟨_,rfl⟩
     rw [←hW] at HLS HCS HFS ⊢
     clear hW hu hz c0 c1 c2 c3' c4
     obtain ⟨c0,c1,c2,c3',c4⟩:=HLS.out.cell
     obtain ⟨g,off,hA,hg,x0,x1,x2,x3,x4,x5,x6⟩:=HLS.out.ops.at_ HX.out
     by_cases h15:o.kind=15
     rotate_left
     · have e15:(o.kind != 15)=true:=by rw [bne_iff_ne];exact h15
       obtain ⟨h16,hlv1⟩:=HLV.out.op HK.out.bal hlt HX.out h15
       have HLV1:=Lh hlv1
       have HR1:=Lh (show RunD k.vars k.ops false (j+1) t (afterF k.vars o lj) (Aj.set j lj) l' A' from by
         cases HR.out with
         | done h=>omega
         | op h ho hk hr=>rw [HX.out] at ho;cases ho;exact hr
         | loop h ho hk he hl hr=>rw [HX.out] at ho;cases ho;exact absurd hk h15)
       have hsm:=HK.out.small HWL.out
       have HAF:=Lh (fun (w1:World) (h1:Below W.heap.size W w1)=>after_in w1 (NG w1 ga) Av A3 nv cv n3 c3 (.slice Ao no co) vr k.vars o lj (HLS.out.next h1).vars (ng_next HFS.out h1) (fun q hq=>hq.1) (oneK_parts (HK.out.one j o HX.out)) (HK.out.ok o (List.mem_of_getElem? HX.out)) hsm.2 hsm.1 (by have:=HK.out.nv;omega))
       have HFA:=Lh (show ∀ w_,Below W.heap.size W w_→(w_.cell? ⟨bx,0,none⟩=some (.slice Av nv cv)∧w_.cell? ⟨bx,1,none⟩=some (.slice Ao no co)∧w_.cell? ⟨bx,2,none⟩=some vr)∧(w_.cell? ⟨g,off+j*7,none⟩=some (.int .i64 o.kind)∧w_.cell? ⟨g,off+j*7+1,none⟩=some (.int .i64 o.d)∧w_.cell? ⟨g,off+j*7+2,none⟩=some (.int .i64 o.e)∧w_.cell? ⟨g,off+j*7+3,none⟩=some (.int .i64 o.a)∧w_.cell? ⟨g,off+j*7+4,none⟩=some (.int .i64 o.b)∧w_.cell? ⟨g,off+j*7+5,none⟩=some (.int .i64 o.c)∧w_.cell? ⟨g,off+j*7+6,none⟩=some (.int .u64 o.imm)) from fun w_ h =>
         ⟨⟨(HLS.out.next h).cell.1,(HLS.out.next h).cell.2.1,(HLS.out.next h).cell.2.2.1⟩,(h.cell (p:=⟨g,off+j*7,none⟩) hg.1).trans x0,(h.cell (p:=⟨g,off+j*7+1,none⟩) hg.1).trans x1,(h.cell (p:=⟨g,off+j*7+2,none⟩) hg.1).trans x2,(h.cell (p:=⟨g,off+j*7+3,none⟩) hg.1).trans x3,(h.cell (p:=⟨g,off+j*7+4,none⟩) hg.1).trans x4,(h.cell (p:=⟨g,off+j*7+5,none⟩) hg.1).trans x5,(h.cell (p:=⟨g,off+j*7+6,none⟩) hg.1).trans x6⟩)
       subst hA
       clear h15 h16 hlv1 hsm hg
       go_upto_region 6 with (first | go_in)
       have hS:=(Below.refl W.heap.size W).drew
       (refine wp_region_lines (Below W.heap.size W) (by kernel_rfl) (by kernel_rfl) (Below.refl W.heap.size W).drew ?_)
       (try simp only [])
       repeat (first | (refine runL_no (by rfl) ?_;(try simp only [Act.put,List.setIfInBounds_toArray,List.set_cons_zero,List.set_cons_succ])) | (refine runL_val (v:=?_) (by rfl) ?_ ?_;rotate_left;(focus (intro w_ hw_;obtain ⟨⟨f0_,f1_,f2_⟩,f3_,f4_,f5_,f6_,f7_,f8_,f9_⟩:=HFA.out w_ hw_;go_simp;(try with_reducible rfl);done));(try simp only [Act.put,List.setIfInBounds_toArray,List.set_cons_zero,List.set_cons_succ])) | (refine runL_call (f:=?_) (args:=?_) (w1:=?_) (by rfl) (by rfl) ?_ ?_;rotate_left 3;(focus (go_simp;refine ⟨⟨?_,?_⟩,?_⟩ <;> with_reducible rfl));(with_reducible refine (HAF.out _ hS).mono ?_);rintro e w4 ⟨A4,n4,c4',rfl,hf4,hb4⟩;have HF4:=Lh hf4;have HS0:=Lh hS;replace hS:=hS.trans (hb4.mono hS.size);clear hf4 hb4;refine ⟨_,rfl,.inr hS,?_⟩;(try simp only [Act.put,List.setIfInBounds_toArray,List.set_cons_zero,List.set_cons_succ])))
       (refine runL_nil ?_)
       have HS:=Lh hS
       clear hS
       go_wp2
       go_roundw
       case rel =>
         have hga:=HLS.out.lt.2
         refine ⟨j+1,Aj.set j lj,afterF k.vars o lj,A4,n4,c4',by omega,hlt,by go_num,rfl,HLS.out.next HS.out,Rows.mono HF4.out (fun q hq=>?_),well_after (HK.out.one j o HX.out) HWL.out,HLV1.out,HR1,(HCH.out.trans HCS.out).trans (Chg.of_below HS.out)⟩
         have h1:=HS0.out.size
         have h2:=HS.out.size
         rcases hq with hq | hq
         · exact ⟨by have:=hq.1;have e:W.drew.heap.size=W.heap.size:=rfl;omega,hq.2⟩
         · have e:W.drew.heap.size=W.heap.size:=rfl
           exact ⟨hq.2,by omega⟩
       case measure=>simp [intOf];omega
     · have e15:(o.kind != 15)=false:=by rw [bne,beq_iff_eq.2 h15];rfl
       obtain ⟨e,he,hie,het,hl1,hl2,_⟩:=HLV.out.loop HK.out.bal hlt HX.out h15
       obtain ⟨l1,A1,hr1,hr2⟩:∃ l1 A1,RunD k.vars k.ops true j e lj (Aj.set j lj) l1 A1∧RunD k.vars k.ops false (e+1) t l1 (A1.set e l1) l' A':=by
         cases HR.out with
         | done h=>omega
         | op h ho hk hr=>rw [HX.out] at ho;cases ho;exact absurd h15 hk
         | loop h ho hk he2 hl hr =>
           rw [he] at he2
           have:=Int.ofNat.inj he2
           subst this
           exact ⟨_,_,hl,hr⟩
       have HLC:=Lh (HL.out (e - j) (by have:=HTO.out;omega) W (Aj.set j lj) A1 lj l1 A3 n3 c3 j e (Nat.le_refl _) hie he HLS.out HFS.out HWL.out hl1 hr1)
       have HE:=Lh he
       have HR2:=Lh hr2
       have HW1:=Lh (HK.out.live hr1 HWL.out)
       have HL2:=Lh hl2
       subst hA
       clear h15 he hl1 hl2 hr1 hr2 hg x1 x2 x3 x4 x5 x6
       go_upto_region 8 with (first | ((with_reducible refine HLC.out.mono ?_);rintro e_ w1 ⟨A4,n4,c4',rfl,hf4,hla4,hch4⟩;have HF4:=Lh hf4;have HLA4:=Lh hla4;have HCH4:=Lh hch4;clear hf4 hla4 hch4) | go_in)
       have hen:e < no:=by have:=HTO.out.1;have:=HNK.out.2.1;omega
       clear c0 c1 c2 c3' c4 x0
       obtain ⟨c0,c1,c2,c3',c4⟩:=HLA4.out.cell
       have hel:j < (kEnds k.ops).length:=by have:=kTo_len k.ops k.ops.length;unfold kEnds;have:=HTO.out.1;omega
       obtain ⟨ge,oe,hAe,hge,y0⟩:=HLA4.out.ends.at_ (k:=j) (x:=(e:Int)) (by
         have h1:=HE.out
         rw [List.getD_eq_getElem?_getD] at h1
         rw [List.getElem?_eq_getElem hel] at h1 ⊢
         simpa using h1)
       have hne':(j:Int) < (ne:Int):=by have:=HNK.out.2.2;omega
       obtain ⟨aE,hu2,hz2⟩:=HLA4.out.at_ hen
       obtain ⟨hset2,hcs2⟩:=HLA4.out.set (i:=e) HF4.out
       have HLS2:=Lh hset2
       have HCS2:=Lh hcs2
       have HFS2:=Lh (show FactsAt (w1.setCell ⟨ga,e,none⟩ (.slice A4 n4 c4')) (NG (w1.setCell ⟨ga,e,none⟩ (.slice A4 n4 c4')) ga) (.slice A4 n4 c4') l1 from ng_chg HF4.out hcs2)
       have i3:(0:Int)≤(e:Int):=by omega
       have i4:(e:Int) < (no:Int):=by omega
       have i5:IntKind.i64.wrap (e:Int)=e:=by rw [IntKind.wrap_i64];omega
       subst hAe
       clear hset2 hcs2 hge hel
       go_wp2
       go_roundw
       case rel=>exact ⟨e+1,A1.set e l1,l1,A4,n4,c4',by omega,by omega,by go_num,rfl,HLS2.out,HFS2.out,HW1.out,HL2.out,HR2,((HCH.out.trans HCS.out).trans HCH4.out).trans HCS2.out⟩
       case measure=>simp [intOf];omega
   · have d1:decide (j < t)=false:=decide_eq_false hlt
     have HE:=Lh (show l'=lj∧A'=Aj by
       cases HR.out with
       | done h=>exact ⟨rfl,rfl⟩
       | op h=>omega
       | loop h=>omega)
     clear hla
     go_wp2
     go_ret
     rw [HE.out.1,HE.out.2]
     exact ⟨A3,n3,c3,rfl,HFL.out,HLA.out,HCH.out⟩
end
end Go.Proofs.YtjbabpnepjhllaaGreat
namespace Go.Proofs.YtjbabpnepjhllaaGreat
open Go.RowKit
set_option maxRecDepth 100000
theorem runD_det {vs:List KVar} {ops:List KOp} {m:Bool} {i t:Nat} {l l1:List Fct} {A A1:List (List Fct)} (h:RunD vs ops m i t l A l1 A1):∀ l2 A2,RunD vs ops m i t l A l2 A2→l2=l1∧A2=A1:=by
 induction h with
 | done h =>
   intro l2 A2 h2
   cases h2 with
   | done _=>exact ⟨rfl,rfl⟩
   | op h'=>omega
   | loop h'=>omega
 | op h ho hk hr ih =>
   intro l2 A2 h2
   cases h2 with
   | done _=>omega
   | op h' ho' hk' hr'=>rw [ho] at ho';cases ho';exact ih _ _ hr'
   | loop h' ho' hk'=>rw [ho] at ho';cases ho';exact absurd hk' hk
 | loop h ho hk he hl hr ihl ihr =>
   intro l2 A2 h2
   cases h2 with
   | done _=>omega
   | op h' ho' hk'=>rw [ho] at ho';cases ho';exact absurd hk hk'
   | loop h' ho' hk' he' hl' hr' =>
     rw [he] at he'
     have e:=Int.ofNat.inj he'
     subst e
     obtain ⟨e1,e2⟩:=ihl _ _ hl'
     subst e1;subst e2
     exact ihr _ _ hr'
 | still hr hs ih =>
   intro l2 A2 h2
   cases h2 with
   | still hr' hs'=>exact ih _ _ hr'
   | more hr' hs' hm' =>
     obtain ⟨e1,e2⟩:=ih _ _ hr'
     subst e1
     exact absurd hs hs'
 | more hr hs hm ih1 ih2 =>
   intro l2 A2 h2
   cases h2 with
   | still hr' hs' =>
     obtain ⟨e1,e2⟩:=ih1 _ _ hr'
     subst e1
     exact absurd hs' hs
   | more hr' hs' hm' =>
     obtain ⟨e1,e2⟩:=ih1 _ _ hr'
     subst e1;subst e2
     exact ih2 _ _ hm'
theorem DelAny (g:Nat) (cb:Array Value) (v:Value) (base:Nat) (l:List Fct) (p:Fct→Bool) (w:World) (eg:∀ args w,(callFunc g args).run Tryz.prog w=.ok (.enter g args) w) (hn2:l.length≤100000) (hbase:base≤w.heap.size)
   (hown:w.ownsRow base 45 3 v l.length (cellsOfF l))
   (hp:∀ x∈l,∀ wr,Below base w wr→Calls Tryz.prog g (#[.agg #[.int .i64 x.kind,.int .i64 x.a,.int .i64 x.b]]++cb) wr fun e w'=>e=.returned (.bool (p x))∧Below wr.heap.size wr w') :
   Calls Tryz.prog 107 #[v,.func (.func g) #[] cb] w fun e w'=>∃ A c,e=.returned (.slice A (l.filter fun x=>!p x).length c)∧w'.ownsRow base 45 3 (.slice A (l.filter fun x=>!p x).length c) (l.filter fun x=>!p x).length (cellsOfF (l.filter fun x=>!p x))∧Below base w w':=by
 rcases hown.2 with ⟨rfl,h0⟩ | ⟨gb,c,cur,rfl,hg,_⟩
 · have hnil:=List.eq_nil_of_length_eq_zero h0
   subst hnil
   refine (DelS_nil g cb w eg).mono ?_
   rintro e w' ⟨rfl,hb⟩
   exact ⟨none,0,rfl,World.ownsRow_nil _ _ _ _,hb.mono hbase⟩
 · refine (DelS_Fct g cb gb c l.length base l p w eg rfl hn2 hown (fun x hx wr hch=>hp x hx wr (hch.below (fun k hk e=>by omega) hbase))).mono ?_
   rintro e w' ⟨rfl,ho,hc⟩
   exact ⟨some ⟨gb,0,none⟩,c,rfl,ho,hc.below (fun k hk e=>by omega) hbase⟩
section
variable (bx ga:Nat) (Av:Option Addr) (nv cv:Nat) (Ao:Option Addr) (no co:Nat) (vr:Value) (Ae:Option Addr) (ne ce:Nat) (k:Krn)
theorem filter_know (l l1:List Fct):(l.filter fun x=>!(fun f=>!knowsF l1 f) x)=l.filter (knowsF l1):=by
 refine List.filter_congr fun x _=>?_
 simp
set_option maxHeartbeats 8000000 in
theorem loop_step (hk:KFine k) (N:Nat) (hT:∀ M,M < N→ThrC bx ga Av nv cv Ao no co vr Ae ne ce k M):LoopC bx ga Av nv cv Ao no co vr Ae ne ce k N:=by
 intro w A A' l l' Al nl cl i t hN hit hends h hf hw hlv hr
 have key:∀ (q:Nat) (w:World) (A:List (List Fct)) (l:List Fct) (Al:Option Addr) (nl cl:Nat),l.length=q→LookAt w bx ga Av nv cv Ao no co vr Ae ne ce k A→FactsAt w (NG w ga) (.slice Al nl cl) l→WellL k.vars.length l→RunD k.vars k.ops true i t l A l' A' →
     Calls Tryz.prog 75 #[.pointer (some ⟨bx,0,none⟩),.int .i64 (i:Nat),.slice Al nl cl] w (LookSays bx ga Av nv cv Ao no co vr Ae ne ce k l' A' w):=by
   intro q
   induction q using Nat.strongRecOn with
   | _ q ih =>
     intro w A l Al nl cl hq h hf hw hr
     obtain ⟨l1,A1,hr1⟩:∃ l1 A1,RunD k.vars k.ops false (i+1) t l A l1 A1:=by
       cases hr with
       | still hr hs=>exact ⟨_,_,hr⟩
       | more hr hs hm=>exact ⟨_,_,hr⟩
     have htc:=hT (t - (i+1)) (by omega) w A A1 l l1 Al nl cl (i+1) t (Nat.le_refl _) h hf hw hlv hr1
     rw [Int.natCast_succ] at htc
     have HTC:=Lh htc
     have HDET:=Lh (show (∀ l2 A2,RunD k.vars k.ops false (i+1) t l A l2 A2→l2=l1∧A2=A1)∧True from ⟨fun l2 A2 h2=>runD_det hr1 l2 A2 h2,trivial⟩)
     have HR:=Lh hr
     have HIH:=Lh (fun (q':Nat) (hq':q' < l.length)=>ih q' (by omega))
     have HK:=Lh hk
     have HW1:=Lh (hk.live hr1 hw)
     have HWL:=Lh hw
     have HF:=Lh hf
     have HNL:=Lh (rows_len hf).1
     have hsm:=hk.small hw
     have n5:nl≤40000:=by have:=(rows_len hf).1;omega
     have hik:i < k.ops.length:=by have:=hlv.len;have:=hlv.le;omega
     have hin:(i:Int) < (ne:Int):=by have:=h.nk.2.2;have:=kTo_len k.ops k.ops.length;unfold kEnds at *;omega
     obtain ⟨c0,c1,c2,c3,c4⟩:=h.cell
     obtain ⟨ge,oe,hAe,hge,y0⟩:=h.ends.at_ (k:=i) (x:=(t:Int)) (by
       have h1:=hends
       have hel:i < (kEnds k.ops).length:=by have:=kTo_len k.ops k.ops.length;unfold kEnds;omega
       rw [List.getD_eq_getElem?_getD] at h1
       rw [List.getElem?_eq_getElem hel] at h1 ⊢
       simpa using h1)
     subst hAe
     have hi63:i≤4096:=by have:=hk.no;omega
     have i0:(0:Int)≤(i:Int):=by omega
     have i2:IntKind.i64.wrap (i:Int)=i:=by rw [IntKind.wrap_i64];omega
     have i3:IntKind.i64.wrap ((i:Int)+1)=(i:Int)+1:=by rw [IntKind.wrap_i64];omega
     clear ih hr hr1 hf hw h hge hik hq c0 c1 c2 c4 hsm htc
     go_enter Tryz.func75,Tryz.ntmps75
     go_upto_region 2 with (first | ((with_reducible refine HTC.out.mono ?_);rintro e_ w1 ⟨Ae1,ne1,ce1,rfl,hf1,hla1,hch1⟩;have HF1:=Lh hf1;have HLA1:=Lh hla1;have HCH1:=Lh hch1;clear hf1 hla1 hch1) | go_in)
     obtain ⟨W2,hW2⟩:∃ W,W=w1.alloc (.cells #[.slice Ae1 ne1 ce1] 39):=⟨_,rfl⟩
     rw [←hW2]
     have hb2:Below w1.heap.size w1 W2:=by rw [hW2];exact (Below.refl _ _).alloc (Nat.le_refl _) _
     have hc2:W2.cell? ⟨w1.heap.size,0,none⟩=some (.slice Ae1 ne1 ce1):=by rw [hW2];exact cell_new w1 _ _ rfl
     have hz2:W2.heap.size=w1.heap.size+1:=by rw [hW2];simp
     have HB2:=Lh hb2
     have HC2:=Lh hc2
     have HZ2:=Lh hz2
     have HF12:=Lh (show FactsAt W2 (NG W2 ga) (.slice Ae1 ne1 ce1) l1 from ng_next HF1.out hb2)
     have HF2:=Lh (show FactsAt W2 (NG W2 ga) (.slice Al nl cl) l from ng_next (ng_chg HF.out HCH1.out) hb2)
     have HSM1:=Lh (HK.out.small HW1.out)
     have HCL:=Lh (CloneF_rows (.slice Al nl cl) W2 (NG W2 ga) (l.map factRow) HF2.out (fun u hu=>by
       obtain ⟨r,hr,hu2⟩:=List.mem_flatten.1 hu
       obtain ⟨x,_,rfl⟩:=List.mem_map.1 hr
       simp only [factRow,List.mem_cons,List.not_mem_nil,or_false] at hu2
       rcases hu2 with rfl | rfl | rfl <;> rfl) (by rw [List.length_map];have:=HNL.out;omega))
     obtain ⟨B,hB⟩:∃ b,b=w1.heap.size:=⟨_,rfl⟩
     rw [←hB] at HC2 HZ2 ⊢
     clear hW2 hb2 hc2 hz2 hB y0 c3
     have HDL:=Lh (fun (w3:World) (aC:Value) (h3:Below W2.heap.size W2 w3) (ho:w3.ownsRow W2.heap.size 45 3 aC l.length (cellsOfF l))=>DelAny 109 #[.pointer (some ⟨B,0,none⟩)] aC W2.heap.size l (fun f=>!knowsF l1 f) w3 (enters_of Tryz.func109 (by kernel_rfl) rfl) (by have:=HNL.out;omega) h3.size ho
       (fun x hx wr hch=>loop1_any Ae1 ne1 ce1 B x l1 wr (NG W2 ga) ((World.cell?_of_block (w:=w3) (a:=⟨B,0,none⟩) (hch.block B (by have:=HZ2.out;omega))).trans ((h3.cell (p:=⟨B,0,none⟩) (show B < W2.heap.size by have:=HZ2.out;omega)).trans HC2.out))
         (by have:=h3.size;have:=hch.size;have:=HZ2.out;omega)
         (Rows.keep HF12.out (SameOn.of_below (h3.trans hch) (fun q hq=>hq.1)))
         (fun q hq=>by have:=hq.1;have:=h3.size;have:=hch.size;omega) (by have:=HSM1.out.1;omega)))
     rw [filter_know] at HDL
     obtain ⟨n4,hn4⟩:∃ n,(l.filter (knowsF l1)).length=n:=⟨_,rfl⟩
     rw [hn4] at HDL
     have HN4:=Lh hn4
     clear hn4
     go_upto_region 3 with (first
       | ((with_reducible refine HCL.out.mono ?_);rintro e_ w3 ⟨aC,rfl,ho3,hb3⟩;have HO3:=Lh (show w3.ownsRow W2.heap.size 45 3 aC l.length (cellsOfF l) from by rw [List.length_map] at ho3;exact ho3);have HB3:=Lh hb3;clear ho3 hb3)
       | ((with_reducible refine (HDL.out w3 aC HB3.out HO3.out).mono ?_);rintro e_ w4 ⟨A4,c4,rfl,ho4,hb4⟩;have HO4:=Lh ho4;have HB4:=Lh (HB3.out.trans hb4);clear ho4 hb4)
       | go_in)
     have HC4:=Lh ((HB4.out.cell (p:=⟨B,0,none⟩) (show B < W2.heap.size by have:=HZ2.out;omega)).trans HC2.out)
     have HF14:=Lh (show FactsAt w4 (NG w4 ga) (.slice Ae1 ne1 ce1) l1 from ng_next HF12.out HB4.out)
     have HLA4:=Lh ((HLA1.out.next HB2.out).next HB4.out)
     have HCH4:=Lh ((HCH1.out.trans (Chg.of_below HB2.out)).trans (Chg.of_below HB4.out))
     have HFS4:=Lh (show FactsAt w4 (NG w4 ga) (.slice A4 n4 c4) (l.filter (knowsF l1)) from by
       have ho:=HO4.out
       rw [←HN4.out] at ho ⊢
       refine Rows.mono (facts_own ho) (fun q hq=>⟨(own_lt ho q hq).1,?_⟩)
       have h1:=(own_lt ho q hq).2
       have h2:=(HLA1.out.next HB2.out).lt.2
       omega)
     by_cases hs:(l.filter (knowsF l1)).length=l.length
     · have e1:(n4 == nl)=true:=by rw [beq_iff_eq];have:=HN4.out;have:=HNL.out;omega
       have HRR:=Lh (show l'=l1∧A'=A1 by
         cases HR.out with
         | still hr hs2=>exact HDET.out.1 _ _ hr
         | more hr hs2 hm =>
           obtain ⟨e1,e2⟩:=HDET.out.1 _ _ hr
           subst e1
           exact absurd hs hs2)
       have c0:=HC4.out
       clear hs
       go_wp2
       go_ret
       rw [HRR.out.1,HRR.out.2]
       exact ⟨Ae1,ne1,ce1,rfl,HF14.out,HLA4.out,HCH4.out⟩
     · have e1:(n4 == nl)=false:=beq_eq_false_iff_ne.2 (by have:=HN4.out;have:=HNL.out;omega)
       have HRM:=Lh (show RunD k.vars k.ops true i t (l.filter (knowsF l1)) A1 l' A' by
         cases HR.out with
         | still hr hs2 =>
           obtain ⟨e1,e2⟩:=HDET.out.1 _ _ hr
           subst e1
           exact absurd hs2 hs
         | more hr hs2 hm =>
           obtain ⟨e1,e2⟩:=HDET.out.1 _ _ hr
           subst e1;subst e2
           exact hm)
       have HREC:=Lh (HIH.out (l.filter (knowsF l1)).length (by have:=filter_lt (p:=knowsF l1) hs;omega) w4 A1 (l.filter (knowsF l1)) A4 n4 c4 rfl HLA4.out HFS4.out (well_filter HWL.out _) HRM.out)
       clear hs
       go_wp2_with (first | ((with_reducible refine HREC.out.mono ?_);rintro e_ w5 h5;have H5:=Lh (h5.to HCH4.out);obtain ⟨A5,n5,c5,rfl,_,_,_⟩:=h5) | go_in)
       go_ret
       exact H5.out
 exact key l.length w A l Al nl cl rfl h hf hw hr
theorem look_all (hk:KFine k):∀ N,ThrC bx ga Av nv cv Ao no co vr Ae ne ce k N∧LoopC bx ga Av nv cv Ao no co vr Ae ne ce k N:=by
 intro N
 induction N using Nat.strongRecOn with
 | _ N ih=>exact ⟨thr_step bx ga Av nv cv Ao no co vr Ae ne ce k hk N fun M hM=>(ih M hM).2,loop_step bx ga Av nv cv Ao no co vr Ae ne ce k hk N fun M hM=>(ih M hM).1⟩
end
end Go.Proofs.YtjbabpnepjhllaaGreat
namespace Go.Proofs.YtjbabpnepjhllaaGreat
open Go.RowKit
theorem start_well {k:Krn} (hc:checkK k=true):WellL k.vars.length (startF k):=by
 unfold startF
 rw [if_pos hc]
 refine ⟨fine_sort _,fun f hf=>?_⟩
 obtain ⟨l,hl,hfl⟩:=List.mem_flatten.1 (mem_sortF.1 hf).1
 obtain ⟨o,ho,rfl⟩:=List.mem_map.1 hl
 have h:=(checkK_parts hc).2.2.2.1 o ho
 unfold reqK at h
 simp only [Bool.and_eq_true,beq_iff_eq] at h
 exact well_needs (o:=o) (by unfold oneK;rw [if_pos h.1];exact h.2.1) f hfl
theorem kfine_of {k:Krn} (hc:checkK k=true) (hok:∀ o∈k.ops,KOpOk o) (hv:k.vars.length≤190):KFine k:=⟨check_bal hc,fun _ _ ho=>opsK_one (checkK_parts hc).2.2.2.2 ho,hok,hv,(checkK_parts hc).2.1⟩
theorem live_all (k:Krn):LiveK k.ops 0 k.ops.length:=⟨Nat.zero_le _,Nat.le_refl _,.inl ⟨rfl,by simp [kS,kTo]⟩⟩
def AheadIs (k:Krn) (A:List (List Fct)):Prop:=if checkK k=true then ∃ l',RunD k.vars k.ops false 0 k.ops.length (startF k) (List.replicate k.ops.length []) l' A else A=[]
theorem ahead_ex (k:Krn):∃ A,AheadIs k A:=by
 unfold AheadIs
 by_cases hc:checkK k=true
 · obtain ⟨l',A',h⟩:=runD_ends (vs:=k.vars) (check_bal hc) k.ops.length 0 k.ops.length (live_all k) (by omega) (startF k) (List.replicate k.ops.length [])
   exact ⟨A',by rw [if_pos hc];exact ⟨l',h⟩⟩
 · exact ⟨[],by rw [if_neg hc]⟩
structure RowsF (w:World) (A:List (List Fct)) (Ag:Option Addr) (n c:Nat):Prop where
 len:A.length=n
 row:∀ (i:Nat) (l:List Fct),A[i]? = some l→∃ ga,Ag=some ⟨ga,0,none⟩∧ga < w.heap.size∧∃ Al nl cl,w.cell? ⟨ga,i,none⟩=some (.slice Al nl cl)∧FactsAt w (fun k=>k < w.heap.size) (.slice Al nl cl) l
theorem RowsF.next {w w':World} {A:List (List Fct)} {Ag:Option Addr} {n c:Nat} (h:RowsF w A Ag n c) (hb:Below w.heap.size w w'):RowsF w' A Ag n c:=⟨h.len,fun i l hl=>by
 obtain ⟨ga,h1,h2,Al,nl,cl,h3,h4⟩:=h.row i l hl
 exact ⟨ga,h1,Nat.lt_of_lt_of_le h2 hb.size,Al,nl,cl,(hb.cell (p:=⟨ga,i,none⟩) h2).trans h3,rows_next h4 hb⟩⟩
theorem LookAt.rows {w:World} {bx ga:Nat} {Av:Option Addr} {nv cv:Nat} {Ao:Option Addr} {no co:Nat} {vr:Value} {Ae:Option Addr} {ne ce:Nat} {k:Krn} {A:List (List Fct)} (h:LookAt w bx ga Av nv cv Ao no co vr Ae ne ce k A):RowsF w A (some ⟨ga,0,none⟩) no no:=⟨h.len,fun i l hl=>by
 obtain ⟨vals,h1,h2,h3⟩:=h.blk
 have hi:=(List.getElem?_eq_some_iff.1 hl).1
 have hlen:=h.len
 obtain ⟨v,hv⟩:∃ v,vals[i]? = some v:=⟨_,List.getElem?_eq_getElem (by omega)⟩
 obtain ⟨⟨A1,n1,c1,rfl⟩,h4⟩:=h3 i v l hv hl
 exact ⟨ga,rfl,h.lt.2,A1,n1,c1,by simp only [World.cell?,h2];simpa using hv,Rows.mono h4 fun _ hq=>hq.1⟩⟩
def AheadSay (A:List (List Fct)) (w:World) (e:Ending) (w':World):Prop:=∃ Ag n c,e=.returned (.slice Ag n c)∧RowsF w' A Ag n c∧Below w.heap.size w w'
theorem infoR:(Tryz.prog.info? 39).map (fun i=>(i.zero,i.size,i.bytes))=some (some (.slice none 0 0),1,24):=by kernel_rfl
theorem make_rows (n:Nat) (hn:n≤100000) (w:World):(Instr.makeSlice 47 (.int .i64 n) (.int .i64 n)).run Tryz.prog w=.ok (.slice (some ⟨w.heap.size,0,none⟩) n n) (w.alloc (.cells (List.replicate n (Value.slice none 0 0)).toArray 39)):=by
 obtain ⟨i0,hi,hz0,hz1,hz2⟩:=info_parts infoR
 have h:=run_make (P:=Tryz.prog) w 47 39 i0 (.slice none 0 0) Tryz.underlying47 hi hz0 .i64 .i64 n n (by omega) (by omega) (by rw [hz2];omega) (by omega)
 rw [hz1] at h
 have e:(Value.slice none 0 0).cells=#[.slice none 0 0]:=rfl
 have e2:madeCells #[.slice none 0 0] n=(List.replicate n (Value.slice none 0 0)).toArray:=by
   refine Array.ext (by simp [size_madeCells]) fun i h1 h2=>?_
   simp [madeCells,Nat.mod_one]
 rw [e] at h
 simp only [Int.toNat_natCast,Nat.mul_one,e2] at h
 exact h
section
variable {P:Program} {ops:Array Oper} {S:World→Prop} {Q:Act→World→Prop}
theorem runB_at {n:Nat} (i:Nat) {l:List Nat} {o:Oper} {a:Act} {w:World} {v:Value} (hi:(l.contains i)=true) (ho:oAt ops.toList i=some o) (hT:tIn ops i=false) (hd:(l.all fun k=>!direct ops i k)=true) (hw:Region.wanted o (yielded ops a.tmps)=true)
   (hv:∀ w,S w→(execOp a.eval o).run P w=.ok (.value v) w) (h:runB P ops S Q n (l.erase i) (a.put o.dst v) w):runB P ops S Q (n+1) l a w :=
 .inl ⟨i,by simpa using hi,hT,fun k hk=>by have:=List.all_eq_true.1 hd k hk;simpa using this,o,oAt_get ho,v,.inl ⟨hw,hv⟩,h⟩
end
theorem look_new {w:World} {bx ga:Nat} {Av:Option Addr} {nv cv:Nat} {Ao:Option Addr} {no co:Nat} {vr:Value} {Ae:Option Addr} {ne ce:Nat} {k:Krn}
   (hx:w.heap[bx]? = some (.cells #[.slice Av nv cv,.slice Ao no co,vr,.slice Ae ne ce,.slice (some ⟨ga,0,none⟩) no no] 81 (0,0)))
   (hg:w.heap[ga]? = some (.cells (List.replicate no (Value.slice none 0 0)).toArray 39 (0,0))) (hne:bx≠ga) (hno:no=k.ops.length)
   (hv:KVarsAt w (NG w ga) (.slice Av nv cv) k.vars) (ho:KOpsAt w (NG w ga) (.slice Ao no co) k.ops) (he:NumsAt w (NG w ga) (.slice Ae ne ce) (kEnds k.ops)) :
   LookAt w bx ga Av nv cv Ao no co vr Ae ne ce k (List.replicate k.ops.length []):=by
 refine ⟨hx,⟨List.replicate no (Value.slice none 0 0),by simp,hg,fun i v l hv hl=>?_⟩,by simp [hno],hne,hv,ho,he⟩
 have h1:=List.eq_of_mem_replicate (List.mem_of_getElem? hv)
 have h2:=List.eq_of_mem_replicate (List.mem_of_getElem? hl)
 subst h1;subst h2
 exact ⟨⟨_,_,_,rfl⟩,facts_nil _ _⟩
end Go.Proofs.YtjbabpnepjhllaaGreat
