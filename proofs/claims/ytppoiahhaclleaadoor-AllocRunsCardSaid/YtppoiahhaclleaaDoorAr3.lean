/- Part 3 of a claim; what it proves stands in its last text. -/
import Derived.Test.YtppoiahhaclleaaDoorAr2
import Derived.LoopTactic
namespace Go.Proofs.YtppoiahhaclleaaDoor
open Go.RowKit
set_option maxRecDepth 100000
variable {aB aA kV kW aC aD kX kY kZ lA lB lC aE aF aG aH aI aJ aK aL aM aN aO aP aQ aR aS aT aU aV aW aX aY aZ a8 bA bB bC bD bE bF bG bH bI bJ bK bL bM bN bO bP bQ bS bT bU bV bW bX bY bZ b4 b6 cA cC cD cE cF cG cH cI cJ cK cL cM cN cO cP cQ cR cT cU cV cW cX cY cZ c8 dA dB dC dD dE dF dG dH dI dJ dK dL dM dN dO dP dQ dR dS dT dU dV dW dX dY dZ d7 eA eB eC eD eE eF eG eH eI eJ eK eL eM eN eO eP eQ : Value}
def noneB (z r:Int):Bool:=z == 0 || (z == 64 && r == -1)
def failB (b:Bool) (r n:Int):Bool:=(b && r != -1) || (!b && (decide (r < 0) || decide (n≤r)))
set_option maxHeartbeats 4000000 in
theorem fields_r7 {h what z r:Int} {g:Nat} (w:World) (Q:Exit→Act→World→Prop) (c0:w.cell? ⟨g,0,none⟩=some (.int .i64 what)) (c1:w.cell? ⟨g,1,none⟩=some (.int .i64 r)) (hz:bits .and .i64 h what=z)
   (k:∀ (lD lE lF lG lH lI lJ lK lL lM lN lO lP lQ lR lS lT:Value),Q .normal ⟨#[aB,aA,kV,kW,aC,.int .i64 h,kX,kY,.pointer (some ⟨g,0,none⟩),.bool (noneB z r),lB,lC,aE,aF,aG,aH,aI,aJ,aK,aL,aM,aN,aO,aP,aQ,aR,aS,aT,aU,aV,aW,aX,aY,aZ,a8,bA,bB,lD,lE,lF,lG,lH,lI,lJ,lK,lL,lM,lN,lO,lP,lQ,lR,lS,lT,bU,bV,bW,bX,bY,bZ,b4,b6,cA,cC,cD,cE,cF,cG,cH,cI,cJ,cK,cL,cM,cN,cO,cP,cQ,cR,cT,cU,cV,cW,cX,cY,cZ,c8,dA,dB,dC,dD,dE,dF,dG,dH,dI,dJ,dK,dL,dM,dN,dO,dP,dQ,dR,dS,dT,dU,dV,dW,dX,dY,dZ,d7,eA,eB,eC,eD,eE,eF,eG,eH,eI,eJ,eK,eL,eM,eN,eO,eP,eQ],[]⟩ w):(partR Tryd.f66 7).wp Tryd.prog Q ⟨#[aB,aA,kV,kW,aC,.int .i64 h,kX,kY,.pointer (some ⟨g,0,none⟩),lA,lB,lC,aE,aF,aG,aH,aI,aJ,aK,aL,aM,aN,aO,aP,aQ,aR,aS,aT,aU,aV,aW,aX,aY,aZ,a8,bA,bB,bC,bD,bE,bF,bG,bH,bI,bJ,bK,bL,bM,bN,bO,bP,bQ,bS,bT,bU,bV,bW,bX,bY,bZ,b4,b6,cA,cC,cD,cE,cF,cG,cH,cI,cJ,cK,cL,cM,cN,cO,cP,cQ,cR,cT,cU,cV,cW,cX,cY,cZ,c8,dA,dB,dC,dD,dE,dF,dG,dH,dI,dJ,dK,dL,dM,dN,dO,dP,dQ,dR,dS,dT,dU,dV,dW,dX,dY,dZ,d7,eA,eB,eC,eD,eE,eF,eG,eH,eI,eJ,eK,eL,eM,eN,eO,eP,eQ],[]⟩ w:=by
 have HK:=Lh k
 clear k
 conv=>arg 2;whnf
 cases d0:(z == 0)
 · cases d1:(z == 64)
   · have hv:noneB z r=false:=by unfold noneB;rw [d0,d1];rfl
     have HQ:=HK.out
     rw [hv] at HQ
     have HQ:=Lh HQ
     clear hv
     go_wp2
     exact HQ.out _ _ _ _ _ _ _ _ _ _ _ _ _ _ _ _ _
   · cases d2:(r == -1)
     · have hv:noneB z r=false:=by unfold noneB;rw [d0,d1,d2];rfl
       have HQ:=HK.out
       rw [hv] at HQ
       have HQ:=Lh HQ
       clear hv
       go_wp2
       exact HQ.out _ _ _ _ _ _ _ _ _ _ _ _ _ _ _ _ _
     · have hv:noneB z r=true:=by unfold noneB;rw [d0,d1,d2];rfl
       have HQ:=HK.out
       rw [hv] at HQ
       have HQ:=Lh HQ
       clear hv
       go_wp2
       exact HQ.out _ _ _ _ _ _ _ _ _ _ _ _ _ _ _ _ _
 · have hv:noneB z r=true:=by unfold noneB;rw [d0];rfl
   have HQ:=HK.out
   rw [hv] at HQ
   have HQ:=Lh HQ
   clear hv
   go_wp2
   exact HQ.out _ _ _ _ _ _ _ _ _ _ _ _ _ _ _ _ _
set_option maxHeartbeats 4000000 in
theorem fields_r8 {b:Bool} {r n:Int} {bp g:Nat} (w:World) (Q:Exit→Act→World→Prop) (c0:w.cell? ⟨bp,0,none⟩=some (.int .i64 n)) (c1:w.cell? ⟨g,1,none⟩=some (.int .i64 r))
   (k:∀ (lU lV lW lX lY lZ l5 l6 l7 l8 l9 mA mB mC mD mE mF mG mH mI mJ:Value),Q .normal ⟨#[aB,aA,.pointer (some ⟨bp,0,none⟩),kW,aC,aD,kX,kY,.pointer (some ⟨g,0,none⟩),.bool b,lB,lC,aE,aF,aG,aH,aI,aJ,aK,aL,aM,aN,aO,aP,aQ,aR,aS,aT,aU,aV,aW,aX,aY,aZ,a8,bA,bB,bC,bD,bE,bF,bG,bH,bI,bJ,bK,bL,bM,bN,bO,bP,bQ,bS,bT,lU,lV,lW,lX,lY,lZ,l5,l6,l7,l8,l9,mA,mB,mC,mD,mE,mF,mG,mH,mI,mJ,.bool (failB b r n),cP,cQ,cR,cT,cU,cV,cW,cX,cY,cZ,c8,dA,dB,dC,dD,dE,dF,dG,dH,dI,dJ,dK,dL,dM,dN,dO,dP,dQ,dR,dS,dT,dU,dV,dW,dX,dY,dZ,d7,eA,eB,eC,eD,eE,eF,eG,eH,eI,eJ,eK,eL,eM,eN,eO,eP,eQ],[]⟩ w):(partR Tryd.f66 8).wp Tryd.prog Q ⟨#[aB,aA,.pointer (some ⟨bp,0,none⟩),kW,aC,aD,kX,kY,.pointer (some ⟨g,0,none⟩),.bool b,lB,lC,aE,aF,aG,aH,aI,aJ,aK,aL,aM,aN,aO,aP,aQ,aR,aS,aT,aU,aV,aW,aX,aY,aZ,a8,bA,bB,bC,bD,bE,bF,bG,bH,bI,bJ,bK,bL,bM,bN,bO,bP,bQ,bS,bT,bU,bV,bW,bX,bY,bZ,b4,b6,cA,cC,cD,cE,cF,cG,cH,cI,cJ,cK,cL,cM,cN,cO,cP,cQ,cR,cT,cU,cV,cW,cX,cY,cZ,c8,dA,dB,dC,dD,dE,dF,dG,dH,dI,dJ,dK,dL,dM,dN,dO,dP,dQ,dR,dS,dT,dU,dV,dW,dX,dY,dZ,d7,eA,eB,eC,eD,eE,eF,eG,eH,eI,eJ,eK,eL,eM,eN,eO,eP,eQ],[]⟩ w:=by
 cases b
 · have HK:=Lh k
   clear k
   conv=>arg 2;whnf
   cases d1:decide (r < 0)
   · cases d2:decide (n≤r)
     · have hv:failB false r n=false:=by unfold failB;rw [d1,d2];rfl
       have HQ:=HK.out
       rw [hv] at HQ
       have HQ:=Lh HQ
       clear hv
       go_wp2
       exact HQ.out _ _ _ _ _ _ _ _ _ _ _ _ _ _ _ _ _ _ _ _ _
     · have hv:failB false r n=true:=by unfold failB;rw [d1,d2];rfl
       have HQ:=HK.out
       rw [hv] at HQ
       have HQ:=Lh HQ
       clear hv
       go_wp2
       exact HQ.out _ _ _ _ _ _ _ _ _ _ _ _ _ _ _ _ _ _ _ _ _
   · have hv:failB false r n=true:=by unfold failB;rw [d1];rfl
     have HQ:=HK.out
     rw [hv] at HQ
     have HQ:=Lh HQ
     clear hv
     go_wp2
     exact HQ.out _ _ _ _ _ _ _ _ _ _ _ _ _ _ _ _ _ _ _ _ _
 · have HK:=Lh k
   clear k
   conv=>arg 2;whnf
   cases d1:(r != -1)
   · have hv:failB true r n=false:=by unfold failB;rw [d1];rfl
     have HQ:=HK.out
     rw [hv] at HQ
     have HQ:=Lh HQ
     clear hv
     go_wp2
     exact HQ.out _ _ _ _ _ _ _ _ _ _ _ _ _ _ _ _ _ _ _ _ _
   · have hv:failB true r n=true:=by unfold failB;rw [d1];rfl
     have HQ:=HK.out
     rw [hv] at HQ
     have HQ:=Lh HQ
     clear hv
     go_wp2
     exact HQ.out _ _ _ _ _ _ _ _ _ _ _ _ _ _ _ _ _ _ _ _ _
def fail11 (z2 z32 d e bu:Int):Bool:=(z2 != 0 && d == e) || (z32 == 0 && bu != 0)
set_option maxHeartbeats 4000000 in
theorem fields_r11 {h z2 z32 d e bu:Int} {bo:Nat} (w:World) (Q:Exit→Act→World→Prop) (c1:w.cell? ⟨bo,1,none⟩=some (.int .i64 d)) (c2:w.cell? ⟨bo,2,none⟩=some (.int .i64 e)) (c6:w.cell? ⟨bo,6,none⟩=some (.int .i64 bu)) (hz2:bits .and .i64 h 2=z2) (hz32:bits .and .i64 h 32=z32)
   (k:∀ (iT iU iV iW iX iY iZ i7 i8 i9 jA jB jC jD jE jF jG jH jI:Value),Q .normal ⟨#[aB,aA,kV,.pointer (some ⟨bo,0,none⟩),aC,.int .i64 h,kX,kY,kZ,lA,lB,lC,aE,aF,aG,aH,aI,aJ,aK,aL,aM,aN,aO,aP,aQ,aR,aS,aT,aU,aV,aW,aX,aY,aZ,a8,bA,bB,bC,bD,bE,bF,bG,bH,bI,bJ,bK,bL,bM,bN,bO,bP,bQ,bS,bT,bU,bV,bW,bX,bY,bZ,b4,b6,cA,cC,cD,cE,cF,cG,cH,cI,cJ,cK,cL,cM,cN,cO,cP,iT,iU,iV,iW,iX,iY,iZ,i7,i8,i9,jA,jB,jC,jD,jE,jF,jG,jH,jI,.bool (fail11 z2 z32 d e bu),dK,dL,dM,dN,dO,dP,dQ,dR,dS,dT,dU,dV,dW,dX,dY,dZ,d7,eA,eB,eC,eD,eE,eF,eG,eH,eI,eJ,eK,eL,eM,eN,eO,eP,eQ],[]⟩ w):(partR Tryd.f66 11).wp Tryd.prog Q ⟨#[aB,aA,kV,.pointer (some ⟨bo,0,none⟩),aC,.int .i64 h,kX,kY,kZ,lA,lB,lC,aE,aF,aG,aH,aI,aJ,aK,aL,aM,aN,aO,aP,aQ,aR,aS,aT,aU,aV,aW,aX,aY,aZ,a8,bA,bB,bC,bD,bE,bF,bG,bH,bI,bJ,bK,bL,bM,bN,bO,bP,bQ,bS,bT,bU,bV,bW,bX,bY,bZ,b4,b6,cA,cC,cD,cE,cF,cG,cH,cI,cJ,cK,cL,cM,cN,cO,cP,cQ,cR,cT,cU,cV,cW,cX,cY,cZ,c8,dA,dB,dC,dD,dE,dF,dG,dH,dI,dJ,dK,dL,dM,dN,dO,dP,dQ,dR,dS,dT,dU,dV,dW,dX,dY,dZ,d7,eA,eB,eC,eD,eE,eF,eG,eH,eI,eJ,eK,eL,eM,eN,eO,eP,eQ],[]⟩ w:=by
 have HK:=Lh k
 clear k
 conv=>arg 2;whnf
 cases d0:(z2 != 0)
 · cases d2:(z32 == 0)
   · have hv:fail11 z2 z32 d e bu=false:=by unfold fail11;rw [d0,d2];rfl
     have HQ:=HK.out
     rw [hv] at HQ
     have HQ:=Lh HQ
     clear hv
     go_wp2
     exact HQ.out _ _ _ _ _ _ _ _ _ _ _ _ _ _ _ _ _ _ _
   · cases d3:(bu != 0)
     · have hv:fail11 z2 z32 d e bu=false:=by unfold fail11;rw [d0,d2,d3];rfl
       have HQ:=HK.out
       rw [hv] at HQ
       have HQ:=Lh HQ
       clear hv
       go_wp2
       exact HQ.out _ _ _ _ _ _ _ _ _ _ _ _ _ _ _ _ _ _ _
     · have hv:fail11 z2 z32 d e bu=true:=by unfold fail11;rw [d0,d2,d3];rfl
       have HQ:=HK.out
       rw [hv] at HQ
       have HQ:=Lh HQ
       clear hv
       go_wp2
       exact HQ.out _ _ _ _ _ _ _ _ _ _ _ _ _ _ _ _ _ _ _
 · cases d1:(d == e)
   · cases d2:(z32 == 0)
     · have hv:fail11 z2 z32 d e bu=false:=by unfold fail11;rw [d0,d1,d2];rfl
       have HQ:=HK.out
       rw [hv] at HQ
       have HQ:=Lh HQ
       clear hv
       go_wp2
       exact HQ.out _ _ _ _ _ _ _ _ _ _ _ _ _ _ _ _ _ _ _
     · cases d3:(bu != 0)
       · have hv:fail11 z2 z32 d e bu=false:=by unfold fail11;rw [d0,d1,d2,d3];rfl
         have HQ:=HK.out
         rw [hv] at HQ
         have HQ:=Lh HQ
         clear hv
         go_wp2
         exact HQ.out _ _ _ _ _ _ _ _ _ _ _ _ _ _ _ _ _ _ _
       · have hv:fail11 z2 z32 d e bu=true:=by unfold fail11;rw [d0,d1,d2,d3];rfl
         have HQ:=HK.out
         rw [hv] at HQ
         have HQ:=Lh HQ
         clear hv
         go_wp2
         exact HQ.out _ _ _ _ _ _ _ _ _ _ _ _ _ _ _ _ _ _ _
   · have hv:fail11 z2 z32 d e bu=true:=by unfold fail11;rw [d0,d1];rfl
     have HQ:=HK.out
     rw [hv] at HQ
     have HQ:=Lh HQ
     clear hv
     go_wp2
     exact HQ.out _ _ _ _ _ _ _ _ _ _ _ _ _ _ _ _ _ _ _
def fail13 (z32 bu k:Int) (n:Nat) (x:Bool):Bool:=z32 != 0 && ((decide (bu < 0) || decide ((n:Int)≤bu)) || (k == 15 && x))
set_option maxHeartbeats 4000000 in
theorem fields_r13 {h z32 bu kk:Int} {bo bp nb cb:Nat} {x:Bool} {Ab:Option Addr} (w:World) (Q:Exit→Act→World→Prop) (c0:w.cell? ⟨bo,0,none⟩=some (.int .i64 kk)) (c6:w.cell? ⟨bo,6,none⟩=some (.int .i64 bu)) (p1:w.cell? ⟨bp,1,none⟩=some (.slice Ab nb cb)) (hz32:bits .and .i64 h 32=z32) (hx:0≤bu→bu < (nb:Int)→∃ (b off q:Nat) (kb:Int),Ab=some ⟨b,off,none⟩∧bu=(q:Int)∧w.cell? ⟨b,off+q*3+1,none⟩=some (.int .i64 kb)∧(kb == 1)=x)
   (k:∀ (jK jL jM jO jP jQ jR jS jT jU jV jW jX jY jZ j5 j6 j7 j8 j9 kF kG kH kI kJ kK kL kN kO kP:Value),Q .normal ⟨#[aB,aA,.pointer (some ⟨bp,0,none⟩),.pointer (some ⟨bo,0,none⟩),aC,.int .i64 h,kX,kY,kZ,lA,lB,lC,aE,aF,aG,aH,aI,aJ,aK,aL,aM,aN,aO,aP,aQ,aR,aS,aT,aU,aV,aW,aX,aY,aZ,a8,bA,bB,bC,bD,bE,bF,bG,bH,bI,bJ,bK,bL,bM,bN,bO,bP,bQ,bS,bT,bU,bV,bW,bX,bY,bZ,b4,b6,cA,cC,cD,cE,cF,cG,cH,cI,cJ,cK,cL,cM,cN,cO,cP,cQ,cR,cT,cU,cV,cW,cX,cY,cZ,c8,dA,dB,dC,dD,dE,dF,dG,dH,dI,dJ,jK,jL,jM,jO,jP,jQ,jR,jS,jT,jU,jV,jW,jX,jY,jZ,j5,j6,j7,j8,j9,kF,kG,kH,kI,kJ,kK,kL,kN,kO,kP,.bool (fail13 z32 bu kk nb x),eO,eP,eQ],[]⟩ w):(partR Tryd.f66 13).wp Tryd.prog Q ⟨#[aB,aA,.pointer (some ⟨bp,0,none⟩),.pointer (some ⟨bo,0,none⟩),aC,.int .i64 h,kX,kY,kZ,lA,lB,lC,aE,aF,aG,aH,aI,aJ,aK,aL,aM,aN,aO,aP,aQ,aR,aS,aT,aU,aV,aW,aX,aY,aZ,a8,bA,bB,bC,bD,bE,bF,bG,bH,bI,bJ,bK,bL,bM,bN,bO,bP,bQ,bS,bT,bU,bV,bW,bX,bY,bZ,b4,b6,cA,cC,cD,cE,cF,cG,cH,cI,cJ,cK,cL,cM,cN,cO,cP,cQ,cR,cT,cU,cV,cW,cX,cY,cZ,c8,dA,dB,dC,dD,dE,dF,dG,dH,dI,dJ,dK,dL,dM,dN,dO,dP,dQ,dR,dS,dT,dU,dV,dW,dX,dY,dZ,d7,eA,eB,eC,eD,eE,eF,eG,eH,eI,eJ,eK,eL,eM,eN,eO,eP,eQ],[]⟩ w:=by
 have HK:=Lh k
 clear k
 have HX:=Lh hx
 clear hx
 conv=>arg 2;whnf
 cases d0:(z32 != 0)
 · have hv:fail13 z32 bu kk nb x=false:=by unfold fail13;rw [d0];rfl
   have HQ:=HK.out
   rw [hv] at HQ
   have HQ:=Lh HQ
   clear hv HX
   go_wp2
   exact HQ.out _ _ _ _ _ _ _ _ _ _ _ _ _ _ _ _ _ _ _ _ _ _ _ _ _ _ _ _ _ _
 cases d1:decide (bu < 0)
 · cases d2:decide ((nb:Int)≤bu)
   · obtain ⟨b,off,q,kb,rfl,rfl,y1,y2⟩:=HX.out (by simpa using d1) (by simpa using d2)
     have q0:(0:Int)≤(q:Int):=by omega
     have q1:(q:Int) < (nb:Int):=by simpa using d2
     have dn:decide (nb≤q)=false:=by simpa using d2
     have HX2:=Lh y2
     clear y2
     cases d3:(kk == 15)
     · have hv:fail13 z32 (q:Int) kk nb x=false:=by unfold fail13;rw [d0,d1,d2,d3];rfl
       have HQ:=HK.out
       rw [hv] at HQ
       have HQ:=Lh HQ
       clear hv HX
       go_wp2
       exact HQ.out _ _ _ _ _ _ _ _ _ _ _ _ _ _ _ _ _ _ _ _ _ _ _ _ _ _ _ _ _ _
     · cases d4:(kb == 1)
       · have d5:x=false:=HX2.out.symm.trans d4
         subst d5
         have hv:fail13 z32 (q:Int) kk nb false=false:=by unfold fail13;rw [d0,d1,d2,d3];rfl
         have HQ:=HK.out
         rw [hv] at HQ
         have HQ:=Lh HQ
         clear hv HX
         go_wp2
         exact HQ.out _ _ _ _ _ _ _ _ _ _ _ _ _ _ _ _ _ _ _ _ _ _ _ _ _ _ _ _ _ _
       · have d5:x=true:=HX2.out.symm.trans d4
         subst d5
         have hv:fail13 z32 (q:Int) kk nb true=true:=by unfold fail13;rw [d0,d1,d2,d3];rfl
         have HQ:=HK.out
         rw [hv] at HQ
         have HQ:=Lh HQ
         clear hv HX
         go_wp2
         exact HQ.out _ _ _ _ _ _ _ _ _ _ _ _ _ _ _ _ _ _ _ _ _ _ _ _ _ _ _ _ _ _
   · have hv:fail13 z32 bu kk nb x=true:=by unfold fail13;rw [d0,d1,d2];rfl
     have HQ:=HK.out
     rw [hv] at HQ
     have HQ:=Lh HQ
     clear hv HX
     go_wp2
     exact HQ.out _ _ _ _ _ _ _ _ _ _ _ _ _ _ _ _ _ _ _ _ _ _ _ _ _ _ _ _ _ _
 · have hv:fail13 z32 bu kk nb x=true:=by unfold fail13;rw [d0,d1];rfl
   have HQ:=HK.out
   rw [hv] at HQ
   have HQ:=Lh HQ
   clear hv HX
   go_wp2
   exact HQ.out _ _ _ _ _ _ _ _ _ _ _ _ _ _ _ _ _ _ _ _ _ _ _ _ _ _ _ _ _ _
end Go.Proofs.YtppoiahhaclleaaDoor
namespace Go.Proofs.YtppoiahhaclleaaDoor
open Go.RowKit
def zV (k what:Int):Int:=bits .and .i64 (hasV k).1 what
def okP (z r n:Int):Bool:=!failB (noneB z r) r n
theorem okP_none (r n:Int):okP 0 r n=(r == -1):=by
 unfold okP failB noneB
 cases h:(r == -1) <;> simp [bne,h]
theorem okP_has {z:Int} (r n:Int) (h0:z≠0) (h1:z≠64):okP z r n=(decide (0≤r) && decide (r < n)):=by
 unfold okP failB noneB
 rw [show (z == 0)=false by simpa using h0,show (z == 64)=false by simpa using h1]
 simp [←Int.not_le]
theorem okP_may (r n:Int):okP 64 r n=((decide (0≤r) && decide (r < n)) || r == -1):=by
 unfold okP failB noneB
 by_cases h:r = -1
 · subst h;simp
 · have:(r == -1)=false:=by simpa using h
   rw [this]
   simp [bne,this,←Int.not_le]
def xB (p:LP) (o:LOp):Bool:=match p.bufs[o.buf.toNat]? with
 | some b=>b.kind == 1
 | none=>false
theorem fields_law (p:LP) (o:LOp) (hs:∀ b∈p.bufs,0≤b.size∧b.size≤9223372036854775807) :
   fieldsF p o=((hasV o.kind).2 && ((okP (zV o.kind 1) o.d p.regs && (okP (zV o.kind 2) o.e p.regs && (okP (zV o.kind 68) o.a p.regs && (okP (zV o.kind 8) o.b p.regs && okP (zV o.kind 16) o.c p.regs)))) &&
     (!fail11 (zV o.kind 2) (zV o.kind 32) o.d o.e o.buf && (!fail13 (zV o.kind 32) o.buf o.kind p.bufs.length (xB p o) && numP p o)))):=by
 rcases kind_cases o.kind with hk | hk | hk | hk | hk | hk | hk | hk | hk | hk | hk | hk | hk | hk | hk | hk | hk | hk
 · have e1:hasV o.kind=(1,true):=by rw [hk];rfl
   have e0:fieldsF p o=(regsB p o && bufOk p o):=fields_split (by omega) (by omega)
   rw [e0,e1]
   rw [show zV o.kind 1=1 by unfold zV;rw [e1];rfl]
   rw [show zV o.kind 2=0 by unfold zV;rw [e1];rfl]
   rw [show zV o.kind 68=0 by unfold zV;rw [e1];rfl]
   rw [show zV o.kind 8=0 by unfold zV;rw [e1];rfl]
   rw [show zV o.kind 16=0 by unfold zV;rw [e1];rfl]
   rw [show zV o.kind 32=0 by unfold zV;rw [e1];rfl]
   rw [show okP 1 o.d p.regs=_ from okP_has _ _ (by decide) (by decide)]
   rw [show okP 0 o.e p.regs=_ from okP_none _ _]
   rw [show okP 0 o.a p.regs=_ from okP_none _ _]
   rw [show okP 0 o.b p.regs=_ from okP_none _ _]
   rw [show okP 0 o.c p.regs=_ from okP_none _ _]
   unfold regsB
   rw [hk]
   rw [numP_plain (by unfold kM;rw [hk];rfl)]
   unfold bufOk fail11 fail13
   rw [show kM o.kind=false by unfold kM;rw [hk];rfl]
   simp only [regIs,kD,kE,kA,kB,kC,kM]
   simp [bne,Bool.and_assoc]
 · have e1:hasV o.kind=(5,true):=by rw [hk];rfl
   have e0:fieldsF p o=(regsB p o && bufOk p o):=fields_split (by omega) (by omega)
   rw [e0,e1]
   rw [show zV o.kind 1=1 by unfold zV;rw [e1];rfl]
   rw [show zV o.kind 2=0 by unfold zV;rw [e1];rfl]
   rw [show zV o.kind 68=4 by unfold zV;rw [e1];rfl]
   rw [show zV o.kind 8=0 by unfold zV;rw [e1];rfl]
   rw [show zV o.kind 16=0 by unfold zV;rw [e1];rfl]
   rw [show zV o.kind 32=0 by unfold zV;rw [e1];rfl]
   rw [show okP 1 o.d p.regs=_ from okP_has _ _ (by decide) (by decide)]
   rw [show okP 0 o.e p.regs=_ from okP_none _ _]
   rw [show okP 4 o.a p.regs=_ from okP_has _ _ (by decide) (by decide)]
   rw [show okP 0 o.b p.regs=_ from okP_none _ _]
   rw [show okP 0 o.c p.regs=_ from okP_none _ _]
   unfold regsB
   rw [hk]
   rw [numP_plain (by unfold kM;rw [hk];rfl)]
   unfold bufOk fail11 fail13
   rw [show kM o.kind=false by unfold kM;rw [hk];rfl]
   simp only [regIs,kD,kE,kA,kB,kC,kM]
   simp [bne,Bool.and_assoc]
 · have e1:hasV o.kind=(13,true):=by rw [hk];rfl
   have e0:fieldsF p o=(regsB p o && bufOk p o):=fields_split (by omega) (by omega)
   rw [e0,e1]
   rw [show zV o.kind 1=1 by unfold zV;rw [e1];rfl]
   rw [show zV o.kind 2=0 by unfold zV;rw [e1];rfl]
   rw [show zV o.kind 68=4 by unfold zV;rw [e1];rfl]
   rw [show zV o.kind 8=8 by unfold zV;rw [e1];rfl]
   rw [show zV o.kind 16=0 by unfold zV;rw [e1];rfl]
   rw [show zV o.kind 32=0 by unfold zV;rw [e1];rfl]
   rw [show okP 1 o.d p.regs=_ from okP_has _ _ (by decide) (by decide)]
   rw [show okP 0 o.e p.regs=_ from okP_none _ _]
   rw [show okP 4 o.a p.regs=_ from okP_has _ _ (by decide) (by decide)]
   rw [show okP 8 o.b p.regs=_ from okP_has _ _ (by decide) (by decide)]
   rw [show okP 0 o.c p.regs=_ from okP_none _ _]
   unfold regsB
   rw [hk]
   rw [numP_plain (by unfold kM;rw [hk];rfl)]
   unfold bufOk fail11 fail13
   rw [show kM o.kind=false by unfold kM;rw [hk];rfl]
   simp only [regIs,kD,kE,kA,kB,kC,kM]
   simp [bne,Bool.and_assoc]
 · have e1:hasV o.kind=(13,true):=by rw [hk];rfl
   have e0:fieldsF p o=(regsB p o && bufOk p o):=fields_split (by omega) (by omega)
   rw [e0,e1]
   rw [show zV o.kind 1=1 by unfold zV;rw [e1];rfl]
   rw [show zV o.kind 2=0 by unfold zV;rw [e1];rfl]
   rw [show zV o.kind 68=4 by unfold zV;rw [e1];rfl]
   rw [show zV o.kind 8=8 by unfold zV;rw [e1];rfl]
   rw [show zV o.kind 16=0 by unfold zV;rw [e1];rfl]
   rw [show zV o.kind 32=0 by unfold zV;rw [e1];rfl]
   rw [show okP 1 o.d p.regs=_ from okP_has _ _ (by decide) (by decide)]
   rw [show okP 0 o.e p.regs=_ from okP_none _ _]
   rw [show okP 4 o.a p.regs=_ from okP_has _ _ (by decide) (by decide)]
   rw [show okP 8 o.b p.regs=_ from okP_has _ _ (by decide) (by decide)]
   rw [show okP 0 o.c p.regs=_ from okP_none _ _]
   unfold regsB
   rw [hk]
   rw [numP_plain (by unfold kM;rw [hk];rfl)]
   unfold bufOk fail11 fail13
   rw [show kM o.kind=false by unfold kM;rw [hk];rfl]
   simp only [regIs,kD,kE,kA,kB,kC,kM]
   simp [bne,Bool.and_assoc]
 · have e1:hasV o.kind=(13,true):=by rw [hk];rfl
   have e0:fieldsF p o=(regsB p o && bufOk p o):=fields_split (by omega) (by omega)
   rw [e0,e1]
   rw [show zV o.kind 1=1 by unfold zV;rw [e1];rfl]
   rw [show zV o.kind 2=0 by unfold zV;rw [e1];rfl]
   rw [show zV o.kind 68=4 by unfold zV;rw [e1];rfl]
   rw [show zV o.kind 8=8 by unfold zV;rw [e1];rfl]
   rw [show zV o.kind 16=0 by unfold zV;rw [e1];rfl]
   rw [show zV o.kind 32=0 by unfold zV;rw [e1];rfl]
   rw [show okP 1 o.d p.regs=_ from okP_has _ _ (by decide) (by decide)]
   rw [show okP 0 o.e p.regs=_ from okP_none _ _]
   rw [show okP 4 o.a p.regs=_ from okP_has _ _ (by decide) (by decide)]
   rw [show okP 8 o.b p.regs=_ from okP_has _ _ (by decide) (by decide)]
   rw [show okP 0 o.c p.regs=_ from okP_none _ _]
   unfold regsB
   rw [hk]
   rw [numP_plain (by unfold kM;rw [hk];rfl)]
   unfold bufOk fail11 fail13
   rw [show kM o.kind=false by unfold kM;rw [hk];rfl]
   simp only [regIs,kD,kE,kA,kB,kC,kM]
   simp [bne,Bool.and_assoc]
 · have e1:hasV o.kind=(13,true):=by rw [hk];rfl
   have e0:fieldsF p o=(regsB p o && bufOk p o):=fields_split (by omega) (by omega)
   rw [e0,e1]
   rw [show zV o.kind 1=1 by unfold zV;rw [e1];rfl]
   rw [show zV o.kind 2=0 by unfold zV;rw [e1];rfl]
   rw [show zV o.kind 68=4 by unfold zV;rw [e1];rfl]
   rw [show zV o.kind 8=8 by unfold zV;rw [e1];rfl]
   rw [show zV o.kind 16=0 by unfold zV;rw [e1];rfl]
   rw [show zV o.kind 32=0 by unfold zV;rw [e1];rfl]
   rw [show okP 1 o.d p.regs=_ from okP_has _ _ (by decide) (by decide)]
   rw [show okP 0 o.e p.regs=_ from okP_none _ _]
   rw [show okP 4 o.a p.regs=_ from okP_has _ _ (by decide) (by decide)]
   rw [show okP 8 o.b p.regs=_ from okP_has _ _ (by decide) (by decide)]
   rw [show okP 0 o.c p.regs=_ from okP_none _ _]
   unfold regsB
   rw [hk]
   rw [numP_plain (by unfold kM;rw [hk];rfl)]
   unfold bufOk fail11 fail13
   rw [show kM o.kind=false by unfold kM;rw [hk];rfl]
   simp only [regIs,kD,kE,kA,kB,kC,kM]
   simp [bne,Bool.and_assoc]
 · have e1:hasV o.kind=(13,true):=by rw [hk];rfl
   have e0:fieldsF p o=(regsB p o && bufOk p o):=fields_split (by omega) (by omega)
   rw [e0,e1]
   rw [show zV o.kind 1=1 by unfold zV;rw [e1];rfl]
   rw [show zV o.kind 2=0 by unfold zV;rw [e1];rfl]
   rw [show zV o.kind 68=4 by unfold zV;rw [e1];rfl]
   rw [show zV o.kind 8=8 by unfold zV;rw [e1];rfl]
   rw [show zV o.kind 16=0 by unfold zV;rw [e1];rfl]
   rw [show zV o.kind 32=0 by unfold zV;rw [e1];rfl]
   rw [show okP 1 o.d p.regs=_ from okP_has _ _ (by decide) (by decide)]
   rw [show okP 0 o.e p.regs=_ from okP_none _ _]
   rw [show okP 4 o.a p.regs=_ from okP_has _ _ (by decide) (by decide)]
   rw [show okP 8 o.b p.regs=_ from okP_has _ _ (by decide) (by decide)]
   rw [show okP 0 o.c p.regs=_ from okP_none _ _]
   unfold regsB
   rw [hk]
   rw [numP_plain (by unfold kM;rw [hk];rfl)]
   unfold bufOk fail11 fail13
   rw [show kM o.kind=false by unfold kM;rw [hk];rfl]
   simp only [regIs,kD,kE,kA,kB,kC,kM]
   simp [bne,Bool.and_assoc]
 · have e1:hasV o.kind=(5,true):=by rw [hk];rfl
   have e0:fieldsF p o=(regsB p o && bufOk p o):=fields_split (by omega) (by omega)
   rw [e0,e1]
   rw [show zV o.kind 1=1 by unfold zV;rw [e1];rfl]
   rw [show zV o.kind 2=0 by unfold zV;rw [e1];rfl]
   rw [show zV o.kind 68=4 by unfold zV;rw [e1];rfl]
   rw [show zV o.kind 8=0 by unfold zV;rw [e1];rfl]
   rw [show zV o.kind 16=0 by unfold zV;rw [e1];rfl]
   rw [show zV o.kind 32=0 by unfold zV;rw [e1];rfl]
   rw [show okP 1 o.d p.regs=_ from okP_has _ _ (by decide) (by decide)]
   rw [show okP 0 o.e p.regs=_ from okP_none _ _]
   rw [show okP 4 o.a p.regs=_ from okP_has _ _ (by decide) (by decide)]
   rw [show okP 0 o.b p.regs=_ from okP_none _ _]
   rw [show okP 0 o.c p.regs=_ from okP_none _ _]
   unfold regsB
   rw [hk]
   rw [numP_plain (by unfold kM;rw [hk];rfl)]
   unfold bufOk fail11 fail13
   rw [show kM o.kind=false by unfold kM;rw [hk];rfl]
   simp only [regIs,kD,kE,kA,kB,kC,kM]
   simp [bne,Bool.and_assoc]
 · have e1:hasV o.kind=(5,true):=by rw [hk];rfl
   have e0:fieldsF p o=(regsB p o && bufOk p o):=fields_split (by omega) (by omega)
   rw [e0,e1]
   rw [show zV o.kind 1=1 by unfold zV;rw [e1];rfl]
   rw [show zV o.kind 2=0 by unfold zV;rw [e1];rfl]
   rw [show zV o.kind 68=4 by unfold zV;rw [e1];rfl]
   rw [show zV o.kind 8=0 by unfold zV;rw [e1];rfl]
   rw [show zV o.kind 16=0 by unfold zV;rw [e1];rfl]
   rw [show zV o.kind 32=0 by unfold zV;rw [e1];rfl]
   rw [show okP 1 o.d p.regs=_ from okP_has _ _ (by decide) (by decide)]
   rw [show okP 0 o.e p.regs=_ from okP_none _ _]
   rw [show okP 4 o.a p.regs=_ from okP_has _ _ (by decide) (by decide)]
   rw [show okP 0 o.b p.regs=_ from okP_none _ _]
   rw [show okP 0 o.c p.regs=_ from okP_none _ _]
   unfold regsB
   rw [hk]
   rw [numP_plain (by unfold kM;rw [hk];rfl)]
   unfold bufOk fail11 fail13
   rw [show kM o.kind=false by unfold kM;rw [hk];rfl]
   simp only [regIs,kD,kE,kA,kB,kC,kM]
   simp [bne,Bool.and_assoc]
 · have e1:hasV o.kind=(15,true):=by rw [hk];rfl
   have e0:fieldsF p o=(regsB p o && bufOk p o):=fields_split (by omega) (by omega)
   rw [e0,e1]
   rw [show zV o.kind 1=1 by unfold zV;rw [e1];rfl]
   rw [show zV o.kind 2=2 by unfold zV;rw [e1];rfl]
   rw [show zV o.kind 68=4 by unfold zV;rw [e1];rfl]
   rw [show zV o.kind 8=8 by unfold zV;rw [e1];rfl]
   rw [show zV o.kind 16=0 by unfold zV;rw [e1];rfl]
   rw [show zV o.kind 32=0 by unfold zV;rw [e1];rfl]
   rw [show okP 1 o.d p.regs=_ from okP_has _ _ (by decide) (by decide)]
   rw [show okP 2 o.e p.regs=_ from okP_has _ _ (by decide) (by decide)]
   rw [show okP 4 o.a p.regs=_ from okP_has _ _ (by decide) (by decide)]
   rw [show okP 8 o.b p.regs=_ from okP_has _ _ (by decide) (by decide)]
   rw [show okP 0 o.c p.regs=_ from okP_none _ _]
   unfold regsB
   rw [hk]
   rw [numP_plain (by unfold kM;rw [hk];rfl)]
   unfold bufOk fail11 fail13
   rw [show kM o.kind=false by unfold kM;rw [hk];rfl]
   simp only [regIs,kD,kE,kA,kB,kC,kM]
   simp [bne,Bool.and_assoc]
 · have e1:hasV o.kind=(31,true):=by rw [hk];rfl
   have e0:fieldsF p o=(regsB p o && bufOk p o):=fields_split (by omega) (by omega)
   rw [e0,e1]
   rw [show zV o.kind 1=1 by unfold zV;rw [e1];rfl]
   rw [show zV o.kind 2=2 by unfold zV;rw [e1];rfl]
   rw [show zV o.kind 68=4 by unfold zV;rw [e1];rfl]
   rw [show zV o.kind 8=8 by unfold zV;rw [e1];rfl]
   rw [show zV o.kind 16=16 by unfold zV;rw [e1];rfl]
   rw [show zV o.kind 32=0 by unfold zV;rw [e1];rfl]
   rw [show okP 1 o.d p.regs=_ from okP_has _ _ (by decide) (by decide)]
   rw [show okP 2 o.e p.regs=_ from okP_has _ _ (by decide) (by decide)]
   rw [show okP 4 o.a p.regs=_ from okP_has _ _ (by decide) (by decide)]
   rw [show okP 8 o.b p.regs=_ from okP_has _ _ (by decide) (by decide)]
   rw [show okP 16 o.c p.regs=_ from okP_has _ _ (by decide) (by decide)]
   unfold regsB
   rw [hk]
   rw [numP_plain (by unfold kM;rw [hk];rfl)]
   unfold bufOk fail11 fail13
   rw [show kM o.kind=false by unfold kM;rw [hk];rfl]
   simp only [regIs,kD,kE,kA,kB,kC,kM]
   simp [bne,Bool.and_assoc]
 · have e1:hasV o.kind=(31,true):=by rw [hk];rfl
   have e0:fieldsF p o=(regsB p o && bufOk p o):=fields_split (by omega) (by omega)
   rw [e0,e1]
   rw [show zV o.kind 1=1 by unfold zV;rw [e1];rfl]
   rw [show zV o.kind 2=2 by unfold zV;rw [e1];rfl]
   rw [show zV o.kind 68=4 by unfold zV;rw [e1];rfl]
   rw [show zV o.kind 8=8 by unfold zV;rw [e1];rfl]
   rw [show zV o.kind 16=16 by unfold zV;rw [e1];rfl]
   rw [show zV o.kind 32=0 by unfold zV;rw [e1];rfl]
   rw [show okP 1 o.d p.regs=_ from okP_has _ _ (by decide) (by decide)]
   rw [show okP 2 o.e p.regs=_ from okP_has _ _ (by decide) (by decide)]
   rw [show okP 4 o.a p.regs=_ from okP_has _ _ (by decide) (by decide)]
   rw [show okP 8 o.b p.regs=_ from okP_has _ _ (by decide) (by decide)]
   rw [show okP 16 o.c p.regs=_ from okP_has _ _ (by decide) (by decide)]
   unfold regsB
   rw [hk]
   rw [numP_plain (by unfold kM;rw [hk];rfl)]
   unfold bufOk fail11 fail13
   rw [show kM o.kind=false by unfold kM;rw [hk];rfl]
   simp only [regIs,kD,kE,kA,kB,kC,kM]
   simp [bne,Bool.and_assoc]
 · have e1:hasV o.kind=(29,true):=by rw [hk];rfl
   have e0:fieldsF p o=(regsB p o && bufOk p o):=fields_split (by omega) (by omega)
   rw [e0,e1]
   rw [show zV o.kind 1=1 by unfold zV;rw [e1];rfl]
   rw [show zV o.kind 2=0 by unfold zV;rw [e1];rfl]
   rw [show zV o.kind 68=4 by unfold zV;rw [e1];rfl]
   rw [show zV o.kind 8=8 by unfold zV;rw [e1];rfl]
   rw [show zV o.kind 16=16 by unfold zV;rw [e1];rfl]
   rw [show zV o.kind 32=0 by unfold zV;rw [e1];rfl]
   rw [show okP 1 o.d p.regs=_ from okP_has _ _ (by decide) (by decide)]
   rw [show okP 0 o.e p.regs=_ from okP_none _ _]
   rw [show okP 4 o.a p.regs=_ from okP_has _ _ (by decide) (by decide)]
   rw [show okP 8 o.b p.regs=_ from okP_has _ _ (by decide) (by decide)]
   rw [show okP 16 o.c p.regs=_ from okP_has _ _ (by decide) (by decide)]
   unfold regsB
   rw [hk]
   rw [numP_plain (by unfold kM;rw [hk];rfl)]
   unfold bufOk fail11 fail13
   rw [show kM o.kind=false by unfold kM;rw [hk];rfl]
   simp only [regIs,kD,kE,kA,kB,kC,kM]
   simp [bne,Bool.and_assoc]
 · have e1:hasV o.kind=(97,true):=by rw [hk];rfl
   have e0:fieldsF p o=(regsB p o && bufOk p o):=fields_split (by omega) (by omega)
   rw [e0,e1]
   rw [show zV o.kind 1=1 by unfold zV;rw [e1];rfl]
   rw [show zV o.kind 2=0 by unfold zV;rw [e1];rfl]
   rw [show zV o.kind 68=64 by unfold zV;rw [e1];rfl]
   rw [show zV o.kind 8=0 by unfold zV;rw [e1];rfl]
   rw [show zV o.kind 16=0 by unfold zV;rw [e1];rfl]
   rw [show zV o.kind 32=32 by unfold zV;rw [e1];rfl]
   rw [show okP 1 o.d p.regs=_ from okP_has _ _ (by decide) (by decide)]
   rw [show okP 0 o.e p.regs=_ from okP_none _ _]
   rw [show okP 64 o.a p.regs=_ from okP_may _ _]
   rw [show okP 0 o.b p.regs=_ from okP_none _ _]
   rw [show okP 0 o.c p.regs=_ from okP_none _ _]
   unfold regsB
   rw [hk]
   unfold bufOk fail11 fail13 numP xB
   rw [show kM o.kind=true by unfold kM;rw [hk];rfl,hk]
   simp only [regIs,kD,kE,kA,kB,kC,kM]
   by_cases hb:0≤o.buf∧o.buf < p.bufs.length
   · obtain ⟨b,hbf⟩:∃ b,p.bufs[o.buf.toNat]? = some b:=⟨_,List.getElem?_eq_getElem (by omega)⟩
     have hsb:=hs b (List.mem_of_getElem? hbf)
     rw [hbf,decide_eq_true hb.1,decide_eq_true hb.2,decide_eq_false (by omega:¬ o.buf < 0),decide_eq_false (by omega:¬ (p.bufs.length:Int)≤o.buf)]
     simp only [Int.emod_eq_of_lt hsb.1 (by omega:b.size < 18446744073709551616)]
     simp [bne,Bool.and_assoc]
   · have h1:(decide (0≤o.buf) && decide (o.buf < p.bufs.length))=false:=by
       rw [Bool.and_eq_false_iff]
       by_cases h:0≤o.buf
       · exact .inr (decide_eq_false fun h'=>hb ⟨h,h'⟩)
       · exact .inl (decide_eq_false h)
     have h2:(decide (o.buf < 0) || decide ((p.bufs.length:Int)≤o.buf))=true:=by
       rw [Bool.or_eq_true,decide_eq_true_iff,decide_eq_true_iff]
       omega
     rw [h2,←Bool.and_assoc (decide (0≤o.buf)),h1]
     simp
 · have e1:hasV o.kind=(104,true):=by rw [hk];rfl
   have e0:fieldsF p o=(regsB p o && bufOk p o):=fields_split (by omega) (by omega)
   rw [e0,e1]
   rw [show zV o.kind 1=0 by unfold zV;rw [e1];rfl]
   rw [show zV o.kind 2=0 by unfold zV;rw [e1];rfl]
   rw [show zV o.kind 68=64 by unfold zV;rw [e1];rfl]
   rw [show zV o.kind 8=8 by unfold zV;rw [e1];rfl]
   rw [show zV o.kind 16=0 by unfold zV;rw [e1];rfl]
   rw [show zV o.kind 32=32 by unfold zV;rw [e1];rfl]
   rw [show okP 0 o.d p.regs=_ from okP_none _ _]
   rw [show okP 0 o.e p.regs=_ from okP_none _ _]
   rw [show okP 64 o.a p.regs=_ from okP_may _ _]
   rw [show okP 8 o.b p.regs=_ from okP_has _ _ (by decide) (by decide)]
   rw [show okP 0 o.c p.regs=_ from okP_none _ _]
   unfold regsB
   rw [hk]
   unfold bufOk fail11 fail13 numP xB
   rw [show kM o.kind=true by unfold kM;rw [hk];rfl,hk]
   simp only [regIs,kD,kE,kA,kB,kC,kM]
   by_cases hb:0≤o.buf∧o.buf < p.bufs.length
   · obtain ⟨b,hbf⟩:∃ b,p.bufs[o.buf.toNat]? = some b:=⟨_,List.getElem?_eq_getElem (by omega)⟩
     have hsb:=hs b (List.mem_of_getElem? hbf)
     rw [hbf,decide_eq_true hb.1,decide_eq_true hb.2,decide_eq_false (by omega:¬ o.buf < 0),decide_eq_false (by omega:¬ (p.bufs.length:Int)≤o.buf)]
     simp only [Int.emod_eq_of_lt hsb.1 (by omega:b.size < 18446744073709551616)]
     simp [bne,Bool.and_assoc]
   · have h1:(decide (0≤o.buf) && decide (o.buf < p.bufs.length))=false:=by
       rw [Bool.and_eq_false_iff]
       by_cases h:0≤o.buf
       · exact .inr (decide_eq_false fun h'=>hb ⟨h,h'⟩)
       · exact .inl (decide_eq_false h)
     have h2:(decide (o.buf < 0) || decide ((p.bufs.length:Int)≤o.buf))=true:=by
       rw [Bool.or_eq_true,decide_eq_true_iff,decide_eq_true_iff]
       omega
     rw [h2,←Bool.and_assoc (decide (0≤o.buf)),h1]
     simp
 · have e1:hasV o.kind=(1,true):=by rw [hk];rfl
   have e0:fieldsF p o=(regsB p o && bufOk p o):=fields_split (by omega) (by omega)
   rw [e0,e1]
   rw [show zV o.kind 1=1 by unfold zV;rw [e1];rfl]
   rw [show zV o.kind 2=0 by unfold zV;rw [e1];rfl]
   rw [show zV o.kind 68=0 by unfold zV;rw [e1];rfl]
   rw [show zV o.kind 8=0 by unfold zV;rw [e1];rfl]
   rw [show zV o.kind 16=0 by unfold zV;rw [e1];rfl]
   rw [show zV o.kind 32=0 by unfold zV;rw [e1];rfl]
   rw [show okP 1 o.d p.regs=_ from okP_has _ _ (by decide) (by decide)]
   rw [show okP 0 o.e p.regs=_ from okP_none _ _]
   rw [show okP 0 o.a p.regs=_ from okP_none _ _]
   rw [show okP 0 o.b p.regs=_ from okP_none _ _]
   rw [show okP 0 o.c p.regs=_ from okP_none _ _]
   unfold regsB
   rw [hk]
   rw [numP_plain (by unfold kM;rw [hk];rfl)]
   unfold bufOk fail11 fail13
   rw [show kM o.kind=false by unfold kM;rw [hk];rfl]
   simp only [regIs,kD,kE,kA,kB,kC,kM]
   simp [bne,Bool.and_assoc]
 · have e1:hasV o.kind=(0,true):=by rw [hk];rfl
   have e0:fieldsF p o=(regsB p o && bufOk p o):=fields_split (by omega) (by omega)
   rw [e0,e1]
   rw [show zV o.kind 1=0 by unfold zV;rw [e1];rfl]
   rw [show zV o.kind 2=0 by unfold zV;rw [e1];rfl]
   rw [show zV o.kind 68=0 by unfold zV;rw [e1];rfl]
   rw [show zV o.kind 8=0 by unfold zV;rw [e1];rfl]
   rw [show zV o.kind 16=0 by unfold zV;rw [e1];rfl]
   rw [show zV o.kind 32=0 by unfold zV;rw [e1];rfl]
   rw [show okP 0 o.d p.regs=_ from okP_none _ _]
   rw [show okP 0 o.e p.regs=_ from okP_none _ _]
   rw [show okP 0 o.a p.regs=_ from okP_none _ _]
   rw [show okP 0 o.b p.regs=_ from okP_none _ _]
   rw [show okP 0 o.c p.regs=_ from okP_none _ _]
   unfold regsB
   rw [hk]
   rw [numP_plain (by unfold kM;rw [hk];rfl)]
   unfold bufOk fail11 fail13
   rw [show kM o.kind=false by unfold kM;rw [hk];rfl]
   simp only [regIs,kD,kE,kA,kB,kC,kM]
   simp [bne,Bool.and_assoc]
 · have h1:hasV o.kind=(0,false):=by unfold hasV;repeat (rw [if_neg (by omega)])
   rw [h1]
   unfold fieldsF
   rcases hk with h | h
   · rw [decide_eq_false (by omega)];rfl
   · rw [decide_eq_false (by omega:¬ o.kind≤17)];simp
end Go.Proofs.YtppoiahhaclleaaDoor
namespace Go.Proofs.YtppoiahhaclleaaDoor
open Go.RowKit
set_option maxRecDepth 100000
theorem all_true {l:List Bool} {k:Nat} {x:Bool} (h:(l.take k).all id=true) (hx:l[k]? = some x) (ht:x=true):(l.take (k+1)).all id=true:=by
 subst ht
 rw [List.take_add_one,hx]
 simp [h]
theorem all_false {l:List Bool} {k:Nat} (hx:l[k]? = some false):l.all id=false:=by
 rw [List.all_eq_false]
 exact ⟨false,List.mem_of_getElem? hx,by simp⟩
theorem all_whole {l:List Bool} {k:Nat} (h:(l.take k).all id=true) (hk:l.length=k):l.all id=true:=by
 rwa [List.take_of_length_le (by omega)] at h
def okL (k d e a b c n:Int):List Bool:=[okP (zV k 1) d n,okP (zV k 2) e n,okP (zV k 68) a n,okP (zV k 8) b n,okP (zV k 16) c n]
set_option maxHeartbeats 8000000 in
theorem fields_any (p:LP) (Ab Ao:Option Addr) (nb cb no co:Nat) (o:LOp) (w:World) (hp:ProgAt w (fun k=>k < w.heap.size) [.int .i64 p.regs,.slice Ab nb cb,.slice Ao no co] p) (hs:∀ b∈p.bufs,0≤b.size) :
   Calls Tryd.prog 66 #[.agg #[.int .i64 p.regs,.slice Ab nb cb,.slice Ao no co],.agg (opRow o).toArray] w fun e w'=>e=.returned (.bool (fieldsF p o))∧Below w.heap.size w w':=by
 obtain ⟨W,hW,hbW,hzW,kp,ko⟩:=two_rows w [.int .i64 p.regs,.slice Ab nb cb,.slice Ao no co] o 25 47
 have HLAW:=Lh (fields_law p o fun b hb=>⟨hs b hb,(hp.size b hb).2⟩)
 have HP:=Lh hp
 have HW:=Lh hW
 have HB:=Lh hbW
 have KP:=Lh kp
 have KO:=Lh ko
 have hBuf:BufsAt w (fun k=>k < w.heap.size) (.slice Ab nb cb) p.bufs:=by
   obtain ⟨vb,vo,h,h1,_⟩:=hp.row
   simp only [List.cons.injEq] at h
   rw [h.2.1];exact h1
 have hnb:p.bufs.length=nb:=by
   obtain ⟨A,c,hv,_⟩:=rows_form hBuf
   cases hv;rfl
 have HNB:=Lh hnb
 clear hnb
 have HBUF:=Lh hBuf
 obtain ⟨kk,hk⟩:∃ k,o.kind=k:=⟨_,rfl⟩
 obtain ⟨d,hd⟩:∃ k,o.d=k:=⟨_,rfl⟩
 obtain ⟨e,he⟩:∃ k,o.e=k:=⟨_,rfl⟩
 obtain ⟨a,ha⟩:∃ k,o.a=k:=⟨_,rfl⟩
 obtain ⟨b,hb⟩:∃ k,o.b=k:=⟨_,rfl⟩
 obtain ⟨c,hc⟩:∃ k,o.c=k:=⟨_,rfl⟩
 obtain ⟨bu,hbu⟩:∃ k,o.buf=k:=⟨_,rfl⟩
 obtain ⟨n,hn⟩:∃ k,p.regs=k:=⟨_,rfl⟩
 have c0:W.cell? ⟨w.heap.size+1,0,none⟩=some (.int .i64 kk):=by rw [←hk];simp only [World.cell?,ko];rfl
 have c1:W.cell? ⟨w.heap.size+1,1,none⟩=some (.int .i64 d):=by rw [←hd];simp only [World.cell?,ko];rfl
 have c2:W.cell? ⟨w.heap.size+1,2,none⟩=some (.int .i64 e):=by rw [←he];simp only [World.cell?,ko];rfl
 have c3:W.cell? ⟨w.heap.size+1,3,none⟩=some (.int .i64 a):=by rw [←ha];simp only [World.cell?,ko];rfl
 have c4:W.cell? ⟨w.heap.size+1,4,none⟩=some (.int .i64 b):=by rw [←hb];simp only [World.cell?,ko];rfl
 have c5:W.cell? ⟨w.heap.size+1,5,none⟩=some (.int .i64 c):=by rw [←hc];simp only [World.cell?,ko];rfl
 have c6:W.cell? ⟨w.heap.size+1,6,none⟩=some (.int .i64 bu):=by rw [←hbu];simp only [World.cell?,ko];rfl
 have CO:=Lh (And.intro c0 (And.intro c1 (And.intro c2 c6)))
 have CP:=Lh (show W.cell? ⟨w.heap.size,0,none⟩=some (.int .i64 n)∧W.cell? ⟨w.heap.size,1,none⟩=some (.slice Ab nb cb)∧W.cell? ⟨w.heap.size,2,none⟩=some (.slice Ao no co) from by simp only [World.cell?,kp,←hn];exact ⟨rfl,rfl,rfl⟩)
 have LW:=Lh (show w.heap.size+1 < W.heap.size by omega)
 obtain ⟨h,hh⟩:∃ h,(hasV kk).1=h:=⟨_,rfl⟩
 have HH:=Lh hh
 have HAS:=Lh (has_any kk)
 have EQ:=Lh (And.intro hk (And.intro hd (And.intro he (And.intro ha (And.intro hb (And.intro hc (And.intro hbu hn)))))))
 cases his:(hasV kk).2
 · have HI:=Lh his
   have hf:fieldsF p o=false:=by rw [HLAW.out,hk,HI.out];rfl
   rw [hf]
   clear hf his hW hbW hzW kp ko hp hs hBuf hk hd he ha hb hc hbu hn c1 c2 c3 c4 c5 c6 hh
   go_enter Tryd.func66,Tryd.ntmps66
   go_upto_region 1 with fail
   rw [←HW.out]
   go_wp2_with ((with_reducible refine (HAS.out _).mono ?_);rintro e1 w1 ⟨rfl,rfl⟩;rw [HI.out])
   go_ret
   exact ⟨rfl,HB.out⟩
 · have HI:=Lh his
   have hf:fieldsF p o=((okL kk d e a b c n).all id && (!fail11 (zV kk 2) (zV kk 32) d e bu && (!fail13 (zV kk 32) bu kk nb (xB p o) && numP p o))):=by
     rw [HLAW.out,HNB.out,hk,hd,he,ha,hb,hc,hbu,hn,HI.out]
     unfold okL
     simp only [List.all_cons,List.all_nil,Bool.and_true,Bool.true_and,id]
   have HF:=Lh hf
   clear hf his hW hbW hzW kp ko hp hs hBuf hk hd he ha hb hc hbu hn hh
   go_enter Tryd.func66,Tryd.ntmps66
   go_upto_region 1 with fail
   rw [←HW.out]
   go_upto_region 5 with ((with_reducible refine (HAS.out _).mono ?_);rintro e1 w1 ⟨rfl,rfl⟩;rw [HI.out,HH.out])
   clear c0 c1 c2 c3 c4 c5 c6
   have BW:=Lh (Below.refl W.heap.size W)
   go_loopw [34] (fun i wr=>∃ k:Nat,k≤5∧i=.int .i64 k∧Below W.heap.size W wr∧Hid (((okL kk d e a b c n).take k).all id=true)) (fun i _=>5 - (intOf i).toNat)
   case atStart=>exact ⟨0,by omega,rfl,BW.out,Lh rfl⟩
   case round =>
     obtain ⟨k,hk5,rfl,hbr,HT⟩:=hrel
     have HBR:=Lh hbr
     have p0:=(hbr.cell (p:=⟨w.heap.size,0,none⟩) (Nat.lt_trans (Nat.lt_succ_self _) LW.out)).trans CP.out.1
     have lr:w.heap.size < wr.heap.size:=Nat.lt_of_lt_of_le (Nat.lt_trans (Nat.lt_succ_self _) LW.out) hbr.size
     clear hbr
     obtain rfl | rfl | rfl | rfl | rfl | rfl:k=0∨k=1∨k=2∨k=3∨k=4∨k=5:=by omega
     · clear hk5
       obtain ⟨z,hz⟩:∃ z,bits .and .i64 h 1=z:=⟨_,rfl⟩
       have hl:(okL kk d e a b c n)[0]? = some (!failB (noneB z d) d n):=by rw [←hz,←HH.out];rfl
       have HL:=Lh hl
       clear hl
       have hi:∀ w_,(Instr.index 125 (.agg #[.int .i64 1,.int .i64 d,.int .i64 2,.int .i64 e,.int .i64 68,.int .i64 a,.int .i64 8,.int .i64 b,.int .i64 16,.int .i64 c]) (.int .i64 0)).run Tryd.prog w_=.ok (.agg #[.int .i64 1,.int .i64 d]) w_:=fun w_=>by kernel_rfl
       go_upto_region 7 with fail
       refine wp_code (c:=partR Tryd.f66 7) (by kernel_rfl) ?_
       refine fields_r7 (what:=1) (r:=d) _ _ (by go_simp) (by go_simp) hz ?_
       intro lD lE lF lG lH lI lJ lK lL lM lN lO lP lQ lR lS lT
       obtain ⟨nn,hnn⟩:∃ x,noneB z d=x:=⟨_,rfl⟩
       rw [hnn]
       go_upto_region 8 with fail
       refine wp_code (c:=partR Tryd.f66 8) (by kernel_rfl) ?_
       refine fields_r8 (n:=n) (r:=d) _ _ ((((Below.refl _ _).alloc (Nat.le_refl _) _).cell (p:=⟨w.heap.size,0,none⟩) lr).trans p0) (by go_simp) ?_
       intro lU lV lW lX lY lZ l5 l6 l7 l8 l9 mA mB mC mD mE mF mG mH mI mJ
       cases hq:failB nn d n
       · have HN:=Lh (all_true HT.out HL.out (by rw [hnn,hq];rfl))
         go_wp2
         go_roundw
         case rel=>exact ⟨0+1,by omega,rfl,HBR.out.trans ((Below.refl _ _).alloc HBR.out.size _),HN⟩
         case measure=>simp [intOf]
       · have HN:=Lh (all_false (by rw [HL.out,hnn,hq];rfl))
         go_wp2
         go_ret
         refine ⟨ret_bool ?_,HB.out.trans ((HBR.out.trans ((Below.refl _ _).alloc HBR.out.size _)).mono HB.out.size)⟩
         rw [HF.out,HN.out]
         rfl
     · clear hk5
       obtain ⟨z,hz⟩:∃ z,bits .and .i64 h 2=z:=⟨_,rfl⟩
       have hl:(okL kk d e a b c n)[1]? = some (!failB (noneB z e) e n):=by rw [←hz,←HH.out];rfl
       have HL:=Lh hl
       clear hl
       have hi:∀ w_,(Instr.index 125 (.agg #[.int .i64 1,.int .i64 d,.int .i64 2,.int .i64 e,.int .i64 68,.int .i64 a,.int .i64 8,.int .i64 b,.int .i64 16,.int .i64 c]) (.int .i64 1)).run Tryd.prog w_=.ok (.agg #[.int .i64 2,.int .i64 e]) w_:=fun w_=>by kernel_rfl
       go_upto_region 7 with fail
       refine wp_code (c:=partR Tryd.f66 7) (by kernel_rfl) ?_
       refine fields_r7 (what:=2) (r:=e) _ _ (by go_simp) (by go_simp) hz ?_
       intro lD lE lF lG lH lI lJ lK lL lM lN lO lP lQ lR lS lT
       obtain ⟨nn,hnn⟩:∃ x,noneB z e=x:=⟨_,rfl⟩
       rw [hnn]
       go_upto_region 8 with fail
       refine wp_code (c:=partR Tryd.f66 8) (by kernel_rfl) ?_
       refine fields_r8 (n:=n) (r:=e) _ _ ((((Below.refl _ _).alloc (Nat.le_refl _) _).cell (p:=⟨w.heap.size,0,none⟩) lr).trans p0) (by go_simp) ?_
       intro lU lV lW lX lY lZ l5 l6 l7 l8 l9 mA mB mC mD mE mF mG mH mI mJ
       cases hq:failB nn e n
       · have HN:=Lh (all_true HT.out HL.out (by rw [hnn,hq];rfl))
         go_wp2
         go_roundw
         case rel=>exact ⟨1+1,by omega,rfl,HBR.out.trans ((Below.refl _ _).alloc HBR.out.size _),HN⟩
         case measure=>simp [intOf]
       · have HN:=Lh (all_false (by rw [HL.out,hnn,hq];rfl))
         go_wp2
         go_ret
         refine ⟨ret_bool ?_,HB.out.trans ((HBR.out.trans ((Below.refl _ _).alloc HBR.out.size _)).mono HB.out.size)⟩
         rw [HF.out,HN.out]
         rfl
     · clear hk5
       obtain ⟨z,hz⟩:∃ z,bits .and .i64 h 68=z:=⟨_,rfl⟩
       have hl:(okL kk d e a b c n)[2]? = some (!failB (noneB z a) a n):=by rw [←hz,←HH.out];rfl
       have HL:=Lh hl
       clear hl
       have hi:∀ w_,(Instr.index 125 (.agg #[.int .i64 1,.int .i64 d,.int .i64 2,.int .i64 e,.int .i64 68,.int .i64 a,.int .i64 8,.int .i64 b,.int .i64 16,.int .i64 c]) (.int .i64 2)).run Tryd.prog w_=.ok (.agg #[.int .i64 68,.int .i64 a]) w_:=fun w_=>by kernel_rfl
       go_upto_region 7 with fail
       refine wp_code (c:=partR Tryd.f66 7) (by kernel_rfl) ?_
       refine fields_r7 (what:=68) (r:=a) _ _ (by go_simp) (by go_simp) hz ?_
       intro lD lE lF lG lH lI lJ lK lL lM lN lO lP lQ lR lS lT
       obtain ⟨nn,hnn⟩:∃ x,noneB z a=x:=⟨_,rfl⟩
       rw [hnn]
       go_upto_region 8 with fail
       refine wp_code (c:=partR Tryd.f66 8) (by kernel_rfl) ?_
       refine fields_r8 (n:=n) (r:=a) _ _ ((((Below.refl _ _).alloc (Nat.le_refl _) _).cell (p:=⟨w.heap.size,0,none⟩) lr).trans p0) (by go_simp) ?_
       intro lU lV lW lX lY lZ l5 l6 l7 l8 l9 mA mB mC mD mE mF mG mH mI mJ
       cases hq:failB nn a n
       · have HN:=Lh (all_true HT.out HL.out (by rw [hnn,hq];rfl))
         go_wp2
         go_roundw
         case rel=>exact ⟨2+1,by omega,rfl,HBR.out.trans ((Below.refl _ _).alloc HBR.out.size _),HN⟩
         case measure=>simp [intOf]
       · have HN:=Lh (all_false (by rw [HL.out,hnn,hq];rfl))
         go_wp2
         go_ret
         refine ⟨ret_bool ?_,HB.out.trans ((HBR.out.trans ((Below.refl _ _).alloc HBR.out.size _)).mono HB.out.size)⟩
         rw [HF.out,HN.out]
         rfl
     · clear hk5
       obtain ⟨z,hz⟩:∃ z,bits .and .i64 h 8=z:=⟨_,rfl⟩
       have hl:(okL kk d e a b c n)[3]? = some (!failB (noneB z b) b n):=by rw [←hz,←HH.out];rfl
       have HL:=Lh hl
       clear hl
       have hi:∀ w_,(Instr.index 125 (.agg #[.int .i64 1,.int .i64 d,.int .i64 2,.int .i64 e,.int .i64 68,.int .i64 a,.int .i64 8,.int .i64 b,.int .i64 16,.int .i64 c]) (.int .i64 3)).run Tryd.prog w_=.ok (.agg #[.int .i64 8,.int .i64 b]) w_:=fun w_=>by kernel_rfl
       go_upto_region 7 with fail
       refine wp_code (c:=partR Tryd.f66 7) (by kernel_rfl) ?_
       refine fields_r7 (what:=8) (r:=b) _ _ (by go_simp) (by go_simp) hz ?_
       intro lD lE lF lG lH lI lJ lK lL lM lN lO lP lQ lR lS lT
       obtain ⟨nn,hnn⟩:∃ x,noneB z b=x:=⟨_,rfl⟩
       rw [hnn]
       go_upto_region 8 with fail
       refine wp_code (c:=partR Tryd.f66 8) (by kernel_rfl) ?_
       refine fields_r8 (n:=n) (r:=b) _ _ ((((Below.refl _ _).alloc (Nat.le_refl _) _).cell (p:=⟨w.heap.size,0,none⟩) lr).trans p0) (by go_simp) ?_
       intro lU lV lW lX lY lZ l5 l6 l7 l8 l9 mA mB mC mD mE mF mG mH mI mJ
       cases hq:failB nn b n
       · have HN:=Lh (all_true HT.out HL.out (by rw [hnn,hq];rfl))
         go_wp2
         go_roundw
         case rel=>exact ⟨3+1,by omega,rfl,HBR.out.trans ((Below.refl _ _).alloc HBR.out.size _),HN⟩
         case measure=>simp [intOf]
       · have HN:=Lh (all_false (by rw [HL.out,hnn,hq];rfl))
         go_wp2
         go_ret
         refine ⟨ret_bool ?_,HB.out.trans ((HBR.out.trans ((Below.refl _ _).alloc HBR.out.size _)).mono HB.out.size)⟩
         rw [HF.out,HN.out]
         rfl
     · clear hk5
       obtain ⟨z,hz⟩:∃ z,bits .and .i64 h 16=z:=⟨_,rfl⟩
       have hl:(okL kk d e a b c n)[4]? = some (!failB (noneB z c) c n):=by rw [←hz,←HH.out];rfl
       have HL:=Lh hl
       clear hl
       have hi:∀ w_,(Instr.index 125 (.agg #[.int .i64 1,.int .i64 d,.int .i64 2,.int .i64 e,.int .i64 68,.int .i64 a,.int .i64 8,.int .i64 b,.int .i64 16,.int .i64 c]) (.int .i64 4)).run Tryd.prog w_=.ok (.agg #[.int .i64 16,.int .i64 c]) w_:=fun w_=>by kernel_rfl
       go_upto_region 7 with fail
       refine wp_code (c:=partR Tryd.f66 7) (by kernel_rfl) ?_
       refine fields_r7 (what:=16) (r:=c) _ _ (by go_simp) (by go_simp) hz ?_
       intro lD lE lF lG lH lI lJ lK lL lM lN lO lP lQ lR lS lT
       obtain ⟨nn,hnn⟩:∃ x,noneB z c=x:=⟨_,rfl⟩
       rw [hnn]
       go_upto_region 8 with fail
       refine wp_code (c:=partR Tryd.f66 8) (by kernel_rfl) ?_
       refine fields_r8 (n:=n) (r:=c) _ _ ((((Below.refl _ _).alloc (Nat.le_refl _) _).cell (p:=⟨w.heap.size,0,none⟩) lr).trans p0) (by go_simp) ?_
       intro lU lV lW lX lY lZ l5 l6 l7 l8 l9 mA mB mC mD mE mF mG mH mI mJ
       cases hq:failB nn c n
       · have HN:=Lh (all_true HT.out HL.out (by rw [hnn,hq];rfl))
         go_wp2
         go_roundw
         case rel=>exact ⟨4+1,by omega,rfl,HBR.out.trans ((Below.refl _ _).alloc HBR.out.size _),HN⟩
         case measure=>simp [intOf]
       · have HN:=Lh (all_false (by rw [HL.out,hnn,hq];rfl))
         go_wp2
         go_ret
         refine ⟨ret_bool ?_,HB.out.trans ((HBR.out.trans ((Below.refl _ _).alloc HBR.out.size _)).mono HB.out.size)⟩
         rw [HF.out,HN.out]
         rfl
     · clear hk5
       have q1:=(HBR.out.cell (p:=⟨w.heap.size+1,1,none⟩) LW.out).trans CO.out.2.1
       have q2:=(HBR.out.cell (p:=⟨w.heap.size+1,2,none⟩) LW.out).trans CO.out.2.2.1
       have q6:=(HBR.out.cell (p:=⟨w.heap.size+1,6,none⟩) LW.out).trans CO.out.2.2.2
       have q0:=(HBR.out.cell (p:=⟨w.heap.size+1,0,none⟩) LW.out).trans CO.out.1
       have p1:=(HBR.out.cell (p:=⟨w.heap.size,1,none⟩) (Nat.lt_trans (Nat.lt_succ_self _) LW.out)).trans CP.out.2.1
       have HC:=Lh (And.intro q0 (And.intro q6 p1))
       obtain ⟨z2,hz2⟩:∃ z,bits .and .i64 h 2=z:=⟨_,rfl⟩
       obtain ⟨z32,hz32⟩:∃ z,bits .and .i64 h 32=z:=⟨_,rfl⟩
       have HZ:=Lh (And.intro hz2 hz32)
       clear hz2 hz32 q0 p1
       go_upto_region 11 with fail
       refine wp_code (c:=partR Tryd.f66 11) (by kernel_rfl) ?_
       refine fields_r11 (h:=h) (z2:=z2) (z32:=z32) (d:=d) (e:=e) (bu:=bu) _ _ q1 q2 q6 HZ.out.1 HZ.out.2 ?_
       intro iT iU iV iW iX iY iZ i7 i8 i9 jA jB jC jD jE jF jG jH jI
       clear q1 q2 q6
       have E11:fail11 (zV kk 2) (zV kk 32) d e bu=fail11 z2 z32 d e bu:=by unfold zV;rw [HH.out,HZ.out.1,HZ.out.2]
       have E13:fail13 (zV kk 32) bu kk nb (xB p o)=fail13 z32 bu kk nb (xB p o):=by unfold zV;rw [HH.out,HZ.out.2]
       have HF2:=HF.out
       rw [E11,E13] at HF2
       clear E11 E13
       have HF2:=Lh HF2
       obtain ⟨b11,hb11⟩:∃ x,fail11 z2 z32 d e bu=x:=⟨_,rfl⟩
       have H11:=Lh hb11
       rw [hb11]
       clear hb11
       cases b11
       · go_upto_region 13 with fail
         refine wp_code (c:=partR Tryd.f66 13) (by kernel_rfl) ?_
         refine fields_r13 (h:=h) (z32:=z32) (bu:=bu) (kk:=kk) (x:=xB p o) _ _ HC.out.1 HC.out.2.1 HC.out.2.2 HZ.out.2 ?_ ?_
         · intro h0 h1
           obtain ⟨bf,hbf⟩:∃ b,p.bufs[bu.toNat]? = some b:=⟨_,List.getElem?_eq_getElem (by have:=HNB.out;omega)⟩
           obtain ⟨b',off,hA,hF,_,x1,_⟩:=HBUF.out.at_ hbf
           exact ⟨b',off,bu.toNat,bf.kind,hA,by omega,(HBR.out.cell (p:=⟨b',off+bu.toNat*3+1,none⟩) (Nat.lt_of_lt_of_le hF HB.out.size)).trans ((HB.out.cell (p:=⟨b',off+bu.toNat*3+1,none⟩) hF).trans x1),by unfold xB;rw [EQ.out.2.2.2.2.2.2.1,hbf]⟩
         intro jK jL jM jO jP jQ jR jS jT jU jV jW jX jY jZ j5 j6 j7 j8 j9 kF kG kH kI kJ kK kL kN kO kP
         obtain ⟨b13,hb13⟩:∃ x,fail13 z32 bu kk nb (xB p o)=x:=⟨_,rfl⟩
         have H13:=Lh hb13
         rw [hb13]
         clear hb13
         cases b13
         · have HNUM:Calls Tryd.prog 78 #[.agg #[.int .i64 p.regs,.slice Ab nb cb,.slice Ao no co],.agg #[.int .i64 o.kind,.int .i64 o.d,.int .i64 o.e,.int .i64 o.a,.int .i64 o.b,.int .i64 o.c,.int .i64 o.buf,.int .u64 o.imm]] wr fun e w'=>e=.returned (.bool (numP p o))∧Below wr.heap.size wr w':=by
             cases hM:kM o.kind
             · exact number_plain p o _ wr hM
             · have hk2:o.kind=14∨o.kind=15:=by unfold kM at hM;simpa using hM
               have hz:z32=32:=by
                 rw [←HZ.out.2,←HH.out,←EQ.out.1]
                 rcases hk2 with h | h <;> rw [h] <;> rfl
               have hb0:=H13.out
               unfold fail13 at hb0
               rw [hz] at hb0
               simp only [show ((32:Int) != 0)=true from rfl,Bool.true_and,Bool.or_eq_false_iff,decide_eq_false_iff_not] at hb0
               exact number_mem p o _ wr (prog_next (prog_next HP.out HB.out) HBR.out) hk2 (by rw [EQ.out.2.2.2.2.2.2.1,HNB.out];omega)
           have HNUM:=Lh HNUM
           have kpr:=(HBR.out.block _ (Nat.lt_trans (Nat.lt_succ_self _) LW.out)).trans KP.out
           have kor:=(HBR.out.block _ LW.out).trans KO.out
           clear p0
           have m0:wr.cell? ⟨w.heap.size,0,none⟩=some (.int .i64 p.regs):=by simp only [World.cell?,kpr];rfl
           have m1:wr.cell? ⟨w.heap.size,1,none⟩=some (.slice Ab nb cb):=by simp only [World.cell?,kpr];rfl
           have m2:wr.cell? ⟨w.heap.size,2,none⟩=some (.slice Ao no co):=by simp only [World.cell?,kpr];rfl
           have n0:wr.cell? ⟨w.heap.size+1,0,none⟩=some (.int .i64 o.kind):=by simp only [World.cell?,kor];rfl
           have n1:wr.cell? ⟨w.heap.size+1,1,none⟩=some (.int .i64 o.d):=by simp only [World.cell?,kor];rfl
           have n2:wr.cell? ⟨w.heap.size+1,2,none⟩=some (.int .i64 o.e):=by simp only [World.cell?,kor];rfl
           have n3:wr.cell? ⟨w.heap.size+1,3,none⟩=some (.int .i64 o.a):=by simp only [World.cell?,kor];rfl
           have n4:wr.cell? ⟨w.heap.size+1,4,none⟩=some (.int .i64 o.b):=by simp only [World.cell?,kor];rfl
           have n5:wr.cell? ⟨w.heap.size+1,5,none⟩=some (.int .i64 o.c):=by simp only [World.cell?,kor];rfl
           have n6:wr.cell? ⟨w.heap.size+1,6,none⟩=some (.int .i64 o.buf):=by simp only [World.cell?,kor];rfl
           have n7:wr.cell? ⟨w.heap.size+1,7,none⟩=some (.int .u64 o.imm):=by simp only [World.cell?,kor];rfl
           clear kpr kor
           go_wp2_with ((with_reducible refine (HNUM.out).mono ?_);rintro e1 w1 ⟨rfl,hb1⟩)
           go_ret
           refine ⟨ret_bool ?_,HB.out.trans ((HBR.out.trans (hb1.mono HBR.out.size)).mono HB.out.size)⟩
           rw [HF2.out,H11.out,H13.out,all_whole HT.out rfl]
           rfl
         · go_wp2
           go_ret
           refine ⟨ret_bool ?_,HB.out.trans (HBR.out.mono HB.out.size)⟩
           rw [HF2.out,H13.out]
           simp
       · go_wp2
         go_ret
         refine ⟨ret_bool ?_,HB.out.trans (HBR.out.mono HB.out.size)⟩
         rw [HF2.out,H11.out]
         simp
end Go.Proofs.YtppoiahhaclleaaDoor
