/- Part 28 of a claim; what it proves stands in its last text. -/
import Derived.Test.YtppoiahhaclleaaDoorAr27
import Derived.Test.YtppoiahhaclleaaDoorAr19
import Derived.Test.YtppoiahhaclleaaDoorAr26
import Derived.Test.YtppoiahhaclleaaDoorAr18
import Derived.Test.YtppoiahhaclleaaDoorAr20
import Derived.Test.YtppoiahhaclleaaDoorAr13
namespace Go.Proofs.YtppoiahhaclleaaDoor
open Go.RowKit
set_option maxRecDepth 100000
variable {aB aA kW aC aD kX kY kZ lB lC aE aF aG aH aI aJ aK aL aM aN aO aP aQ aR aS aT aU aV aW aX aY aZ a8 bA bB bC bD bE bF bG bH bI bJ bK bL bM bN bO bP bQ bS bT bU bV bW bX bY bZ b4 b6 cA cC cD cE cF cG cH cI cJ cK cL cM cN cO cP cQ cR cT cU cV cW cX cY cZ c8 dA dB dC dD dE dF dG dH dI dJ dK dL dM dN dO dP dQ dR dS dT dU dV dW dX dY dZ d7 eA eB eC eD eE eF eG eH eI eJ eK : Value}
set_option maxHeartbeats 4000000 in
theorem rc_r18 {b0 o0 gs n cp r k:Nat} {x y c d a b:Int} {bl:Bool} (w:World) (Q:Exit→Act→World→Prop) (hx:w.cell? ⟨gs,r*2,none⟩=some (.int .i64 x)) (hy:w.cell? ⟨gs,r*2+1,none⟩=some (.int .i64 y)) (hc:w.cell? ⟨gs,k*2,none⟩=some (.int .i64 c)) (hd:w.cell? ⟨gs,k*2+1,none⟩=some (.int .i64 d)) (ha:w.cell? ⟨b0,o0+r,none⟩=some (.int .i64 a)) (hb:w.cell? ⟨b0,o0+k,none⟩=some (.int .i64 b)) (hr:r < n) (hk:k < n) (hn:n≤65536) (hL:clashP (x,y) (c,d) a b=bl)
   (kk:∀ (mJ mY iS iT iU iV iW iX iY iZ i7 i8 i9 jA jB jC jD jE jF jG jH jI jJ jK jL jM jO jP jQ jR jS jT jU jV jW jX jY jZ j5 j6 j7 j8 j9 kF kG kH kI kJ kK kL:Value) (w':World),w'=w.drew→Q .normal ⟨#[aB,aA,.slice (some ⟨b0,o0,none⟩) n cp,kW,aC,aD,kX,kY,kZ,.slice (some ⟨gs,0,none⟩) n n,lB,.int .i64 (r:Nat),.int .i64 (k:Nat),aF,aG,aH,aI,aJ,aK,aL,aM,aN,aO,aP,aQ,aR,aS,aT,aU,aV,aW,aX,aY,aZ,a8,bA,bB,bC,bD,bE,bF,bG,bH,bI,bJ,bK,bL,bM,bN,bO,bP,bQ,bS,bT,bU,bV,bW,bX,bY,bZ,b4,b6,cA,cC,cD,cE,cF,cG,cH,cI,cJ,cK,cL,cM,mJ,mY,iS,iT,iU,iV,iW,iX,iY,iZ,i7,i8,i9,jA,jB,jC,jD,jE,jF,jG,jH,jI,jJ,jK,jL,jM,jO,jP,jQ,jR,jS,jT,jU,jV,jW,jX,jY,jZ,j5,j6,j7,j8,j9,kF,kG,kH,kI,kJ,kK,kL,.bool bl],[]⟩ w'):(partR Tryd.f14 18).wp Tryd.prog Q ⟨#[aB,aA,.slice (some ⟨b0,o0,none⟩) n cp,kW,aC,aD,kX,kY,kZ,.slice (some ⟨gs,0,none⟩) n n,lB,.int .i64 (r:Nat),.int .i64 (k:Nat),aF,aG,aH,aI,aJ,aK,aL,aM,aN,aO,aP,aQ,aR,aS,aT,aU,aV,aW,aX,aY,aZ,a8,bA,bB,bC,bD,bE,bF,bG,bH,bI,bJ,bK,bL,bM,bN,bO,bP,bQ,bS,bT,bU,bV,bW,bX,bY,bZ,b4,b6,cA,cC,cD,cE,cF,cG,cH,cI,cJ,cK,cL,cM,cN,cO,cP,cQ,cR,cT,cU,cV,cW,cX,cY,cZ,c8,dA,dB,dC,dD,dE,dF,dG,dH,dI,dJ,dK,dL,dM,dN,dO,dP,dQ,dR,dS,dT,dU,dV,dW,dX,dY,dZ,d7,eA,eB,eC,eD,eE,eF,eG,eH,eI,eJ,eK],[]⟩ w:=by
 have HC:=Lh (And.intro (And.intro hx hy) (And.intro (And.intro hc hd) (And.intro ha hb)))
 have i0:(0:Int)≤(r:Int):=by omega
 have i1:(r:Int) < (n:Int):=by omega
 have i2:(0:Int)≤(k:Int):=by omega
 have i3:(k:Int) < (n:Int):=by omega
 have q1:IntKind.i64.wrap (r:Int)=r:=by rw [IntKind.wrap_i64];omega
 have q2:IntKind.i64.wrap (k:Int)=k:=by rw [IntKind.wrap_i64];omega
 have HK:=Lh kk
 have HL:=Lh hL
 clear kk hx hy hc hd ha hb hr hk hL
 conv=>arg 2;whnf
 go_wp2
 cases e0:decide ((0:Int)≤x)
 · skip
   cases e4:(a == b)
   · skip
     obtain rfl:bl=false:=by rw [←HL.out];unfold clashP meetsF;simp only [e0,e4];rfl
     (refine wp_region_lines (fun w_=>(w_.cell? ⟨gs,r*2,none⟩=some (.int .i64 x)∧w_.cell? ⟨gs,r*2+1,none⟩=some (.int .i64 y))∧(w_.cell? ⟨gs,k*2,none⟩=some (.int .i64 c)∧w_.cell? ⟨gs,k*2+1,none⟩=some (.int .i64 d))∧w_.cell? ⟨b0,o0+r,none⟩=some (.int .i64 a)∧w_.cell? ⟨b0,o0+k,none⟩=some (.int .i64 b)) (by kernel_rfl) (by kernel_rfl) HC.out ?_)
     (try simp only [])
     repeat (first | (refine runL_no (by rfl) ?_;(try simp only [Act.put,List.setIfInBounds_toArray,List.set_cons_zero,List.set_cons_succ])) | (refine runL_val (v:=?_) (by rfl) ?_ ?_;rotate_left;(focus (intro w_ hw_;obtain ⟨⟨f1_,f2_⟩,⟨f3_,f4_⟩,f5_,f6_⟩:=hw_;go_simp;(try with_reducible rfl);done));(try simp only [Act.put,List.setIfInBounds_toArray,List.set_cons_zero,List.set_cons_succ])))
     (refine runL_nil ?_)
     exact HK.out _ _ _ _ _ _ _ _ _ _ _ _ _ _ _ _ _ _ _ _ _ _ _ _ _ _ _ _ _ _ _ _ _ _ _ _ _ _ _ _ _ _ _ _ _ _ _ _ _ _ _ rfl
   · skip
     obtain rfl:bl=false:=by rw [←HL.out];unfold clashP meetsF;simp only [e0,e4];rfl
     (refine wp_region_lines (fun w_=>(w_.cell? ⟨gs,r*2,none⟩=some (.int .i64 x)∧w_.cell? ⟨gs,r*2+1,none⟩=some (.int .i64 y))∧(w_.cell? ⟨gs,k*2,none⟩=some (.int .i64 c)∧w_.cell? ⟨gs,k*2+1,none⟩=some (.int .i64 d))∧w_.cell? ⟨b0,o0+r,none⟩=some (.int .i64 a)∧w_.cell? ⟨b0,o0+k,none⟩=some (.int .i64 b)) (by kernel_rfl) (by kernel_rfl) HC.out ?_)
     (try simp only [])
     repeat (first | (refine runL_no (by rfl) ?_;(try simp only [Act.put,List.setIfInBounds_toArray,List.set_cons_zero,List.set_cons_succ])) | (refine runL_val (v:=?_) (by rfl) ?_ ?_;rotate_left;(focus (intro w_ hw_;obtain ⟨⟨f1_,f2_⟩,⟨f3_,f4_⟩,f5_,f6_⟩:=hw_;go_simp;(try with_reducible rfl);done));(try simp only [Act.put,List.setIfInBounds_toArray,List.set_cons_zero,List.set_cons_succ])))
     (refine runL_nil ?_)
     exact HK.out _ _ _ _ _ _ _ _ _ _ _ _ _ _ _ _ _ _ _ _ _ _ _ _ _ _ _ _ _ _ _ _ _ _ _ _ _ _ _ _ _ _ _ _ _ _ _ _ _ _ _ rfl
 cases e1:decide ((0:Int)≤c)
 · skip
   cases e4:(a == b)
   · skip
     obtain rfl:bl=false:=by rw [←HL.out];unfold clashP meetsF;simp only [e0,e1,e4];rfl
     (refine wp_region_lines (fun w_=>(w_.cell? ⟨gs,r*2,none⟩=some (.int .i64 x)∧w_.cell? ⟨gs,r*2+1,none⟩=some (.int .i64 y))∧(w_.cell? ⟨gs,k*2,none⟩=some (.int .i64 c)∧w_.cell? ⟨gs,k*2+1,none⟩=some (.int .i64 d))∧w_.cell? ⟨b0,o0+r,none⟩=some (.int .i64 a)∧w_.cell? ⟨b0,o0+k,none⟩=some (.int .i64 b)) (by kernel_rfl) (by kernel_rfl) HC.out ?_)
     (try simp only [])
     repeat (first | (refine runL_no (by rfl) ?_;(try simp only [Act.put,List.setIfInBounds_toArray,List.set_cons_zero,List.set_cons_succ])) | (refine runL_val (v:=?_) (by rfl) ?_ ?_;rotate_left;(focus (intro w_ hw_;obtain ⟨⟨f1_,f2_⟩,⟨f3_,f4_⟩,f5_,f6_⟩:=hw_;go_simp;(try with_reducible rfl);done));(try simp only [Act.put,List.setIfInBounds_toArray,List.set_cons_zero,List.set_cons_succ])))
     (refine runL_nil ?_)
     exact HK.out _ _ _ _ _ _ _ _ _ _ _ _ _ _ _ _ _ _ _ _ _ _ _ _ _ _ _ _ _ _ _ _ _ _ _ _ _ _ _ _ _ _ _ _ _ _ _ _ _ _ _ rfl
   · skip
     obtain rfl:bl=false:=by rw [←HL.out];unfold clashP meetsF;simp only [e0,e1,e4];rfl
     (refine wp_region_lines (fun w_=>(w_.cell? ⟨gs,r*2,none⟩=some (.int .i64 x)∧w_.cell? ⟨gs,r*2+1,none⟩=some (.int .i64 y))∧(w_.cell? ⟨gs,k*2,none⟩=some (.int .i64 c)∧w_.cell? ⟨gs,k*2+1,none⟩=some (.int .i64 d))∧w_.cell? ⟨b0,o0+r,none⟩=some (.int .i64 a)∧w_.cell? ⟨b0,o0+k,none⟩=some (.int .i64 b)) (by kernel_rfl) (by kernel_rfl) HC.out ?_)
     (try simp only [])
     repeat (first | (refine runL_no (by rfl) ?_;(try simp only [Act.put,List.setIfInBounds_toArray,List.set_cons_zero,List.set_cons_succ])) | (refine runL_val (v:=?_) (by rfl) ?_ ?_;rotate_left;(focus (intro w_ hw_;obtain ⟨⟨f1_,f2_⟩,⟨f3_,f4_⟩,f5_,f6_⟩:=hw_;go_simp;(try with_reducible rfl);done));(try simp only [Act.put,List.setIfInBounds_toArray,List.set_cons_zero,List.set_cons_succ])))
     (refine runL_nil ?_)
     exact HK.out _ _ _ _ _ _ _ _ _ _ _ _ _ _ _ _ _ _ _ _ _ _ _ _ _ _ _ _ _ _ _ _ _ _ _ _ _ _ _ _ _ _ _ _ _ _ _ _ _ _ _ rfl
 cases e2:decide (x≤d)
 · skip
   cases e4:(a == b)
   · skip
     obtain rfl:bl=false:=by rw [←HL.out];unfold clashP meetsF;simp only [e0,e1,e2,e4];rfl
     (refine wp_region_lines (fun w_=>(w_.cell? ⟨gs,r*2,none⟩=some (.int .i64 x)∧w_.cell? ⟨gs,r*2+1,none⟩=some (.int .i64 y))∧(w_.cell? ⟨gs,k*2,none⟩=some (.int .i64 c)∧w_.cell? ⟨gs,k*2+1,none⟩=some (.int .i64 d))∧w_.cell? ⟨b0,o0+r,none⟩=some (.int .i64 a)∧w_.cell? ⟨b0,o0+k,none⟩=some (.int .i64 b)) (by kernel_rfl) (by kernel_rfl) HC.out ?_)
     (try simp only [])
     repeat (first | (refine runL_no (by rfl) ?_;(try simp only [Act.put,List.setIfInBounds_toArray,List.set_cons_zero,List.set_cons_succ])) | (refine runL_val (v:=?_) (by rfl) ?_ ?_;rotate_left;(focus (intro w_ hw_;obtain ⟨⟨f1_,f2_⟩,⟨f3_,f4_⟩,f5_,f6_⟩:=hw_;go_simp;(try with_reducible rfl);done));(try simp only [Act.put,List.setIfInBounds_toArray,List.set_cons_zero,List.set_cons_succ])))
     (refine runL_nil ?_)
     exact HK.out _ _ _ _ _ _ _ _ _ _ _ _ _ _ _ _ _ _ _ _ _ _ _ _ _ _ _ _ _ _ _ _ _ _ _ _ _ _ _ _ _ _ _ _ _ _ _ _ _ _ _ rfl
   · skip
     obtain rfl:bl=false:=by rw [←HL.out];unfold clashP meetsF;simp only [e0,e1,e2,e4];rfl
     (refine wp_region_lines (fun w_=>(w_.cell? ⟨gs,r*2,none⟩=some (.int .i64 x)∧w_.cell? ⟨gs,r*2+1,none⟩=some (.int .i64 y))∧(w_.cell? ⟨gs,k*2,none⟩=some (.int .i64 c)∧w_.cell? ⟨gs,k*2+1,none⟩=some (.int .i64 d))∧w_.cell? ⟨b0,o0+r,none⟩=some (.int .i64 a)∧w_.cell? ⟨b0,o0+k,none⟩=some (.int .i64 b)) (by kernel_rfl) (by kernel_rfl) HC.out ?_)
     (try simp only [])
     repeat (first | (refine runL_no (by rfl) ?_;(try simp only [Act.put,List.setIfInBounds_toArray,List.set_cons_zero,List.set_cons_succ])) | (refine runL_val (v:=?_) (by rfl) ?_ ?_;rotate_left;(focus (intro w_ hw_;obtain ⟨⟨f1_,f2_⟩,⟨f3_,f4_⟩,f5_,f6_⟩:=hw_;go_simp;(try with_reducible rfl);done));(try simp only [Act.put,List.setIfInBounds_toArray,List.set_cons_zero,List.set_cons_succ])))
     (refine runL_nil ?_)
     exact HK.out _ _ _ _ _ _ _ _ _ _ _ _ _ _ _ _ _ _ _ _ _ _ _ _ _ _ _ _ _ _ _ _ _ _ _ _ _ _ _ _ _ _ _ _ _ _ _ _ _ _ _ rfl
 cases e3:decide (c≤y)
 · skip
   cases e4:(a == b)
   · skip
     obtain rfl:bl=false:=by rw [←HL.out];unfold clashP meetsF;simp only [e0,e1,e2,e3,e4];rfl
     (refine wp_region_lines (fun w_=>(w_.cell? ⟨gs,r*2,none⟩=some (.int .i64 x)∧w_.cell? ⟨gs,r*2+1,none⟩=some (.int .i64 y))∧(w_.cell? ⟨gs,k*2,none⟩=some (.int .i64 c)∧w_.cell? ⟨gs,k*2+1,none⟩=some (.int .i64 d))∧w_.cell? ⟨b0,o0+r,none⟩=some (.int .i64 a)∧w_.cell? ⟨b0,o0+k,none⟩=some (.int .i64 b)) (by kernel_rfl) (by kernel_rfl) HC.out ?_)
     (try simp only [])
     repeat (first | (refine runL_no (by rfl) ?_;(try simp only [Act.put,List.setIfInBounds_toArray,List.set_cons_zero,List.set_cons_succ])) | (refine runL_val (v:=?_) (by rfl) ?_ ?_;rotate_left;(focus (intro w_ hw_;obtain ⟨⟨f1_,f2_⟩,⟨f3_,f4_⟩,f5_,f6_⟩:=hw_;go_simp;(try with_reducible rfl);done));(try simp only [Act.put,List.setIfInBounds_toArray,List.set_cons_zero,List.set_cons_succ])))
     (refine runL_nil ?_)
     exact HK.out _ _ _ _ _ _ _ _ _ _ _ _ _ _ _ _ _ _ _ _ _ _ _ _ _ _ _ _ _ _ _ _ _ _ _ _ _ _ _ _ _ _ _ _ _ _ _ _ _ _ _ rfl
   · skip
     obtain rfl:bl=false:=by rw [←HL.out];unfold clashP meetsF;simp only [e0,e1,e2,e3,e4];rfl
     (refine wp_region_lines (fun w_=>(w_.cell? ⟨gs,r*2,none⟩=some (.int .i64 x)∧w_.cell? ⟨gs,r*2+1,none⟩=some (.int .i64 y))∧(w_.cell? ⟨gs,k*2,none⟩=some (.int .i64 c)∧w_.cell? ⟨gs,k*2+1,none⟩=some (.int .i64 d))∧w_.cell? ⟨b0,o0+r,none⟩=some (.int .i64 a)∧w_.cell? ⟨b0,o0+k,none⟩=some (.int .i64 b)) (by kernel_rfl) (by kernel_rfl) HC.out ?_)
     (try simp only [])
     repeat (first | (refine runL_no (by rfl) ?_;(try simp only [Act.put,List.setIfInBounds_toArray,List.set_cons_zero,List.set_cons_succ])) | (refine runL_val (v:=?_) (by rfl) ?_ ?_;rotate_left;(focus (intro w_ hw_;obtain ⟨⟨f1_,f2_⟩,⟨f3_,f4_⟩,f5_,f6_⟩:=hw_;go_simp;(try with_reducible rfl);done));(try simp only [Act.put,List.setIfInBounds_toArray,List.set_cons_zero,List.set_cons_succ])))
     (refine runL_nil ?_)
     exact HK.out _ _ _ _ _ _ _ _ _ _ _ _ _ _ _ _ _ _ _ _ _ _ _ _ _ _ _ _ _ _ _ _ _ _ _ _ _ _ _ _ _ _ _ _ _ _ _ _ _ _ _ rfl
 cases e4:(a == b)
 · skip
   obtain rfl:bl=false:=by rw [←HL.out];unfold clashP meetsF;simp only [e0,e1,e2,e3,e4];rfl
   (refine wp_region_lines (fun w_=>(w_.cell? ⟨gs,r*2,none⟩=some (.int .i64 x)∧w_.cell? ⟨gs,r*2+1,none⟩=some (.int .i64 y))∧(w_.cell? ⟨gs,k*2,none⟩=some (.int .i64 c)∧w_.cell? ⟨gs,k*2+1,none⟩=some (.int .i64 d))∧w_.cell? ⟨b0,o0+r,none⟩=some (.int .i64 a)∧w_.cell? ⟨b0,o0+k,none⟩=some (.int .i64 b)) (by kernel_rfl) (by kernel_rfl) HC.out ?_)
   (try simp only [])
   repeat (first | (refine runL_no (by rfl) ?_;(try simp only [Act.put,List.setIfInBounds_toArray,List.set_cons_zero,List.set_cons_succ])) | (refine runL_val (v:=?_) (by rfl) ?_ ?_;rotate_left;(focus (intro w_ hw_;obtain ⟨⟨f1_,f2_⟩,⟨f3_,f4_⟩,f5_,f6_⟩:=hw_;go_simp;(try with_reducible rfl);done));(try simp only [Act.put,List.setIfInBounds_toArray,List.set_cons_zero,List.set_cons_succ])))
   (refine runL_nil ?_)
   exact HK.out _ _ _ _ _ _ _ _ _ _ _ _ _ _ _ _ _ _ _ _ _ _ _ _ _ _ _ _ _ _ _ _ _ _ _ _ _ _ _ _ _ _ _ _ _ _ _ _ _ _ _ rfl
 obtain rfl:bl=true:=by rw [←HL.out];unfold clashP meetsF;simp only [e0,e1,e2,e3,e4];rfl
 (refine wp_region_lines (fun w_=>(w_.cell? ⟨gs,r*2,none⟩=some (.int .i64 x)∧w_.cell? ⟨gs,r*2+1,none⟩=some (.int .i64 y))∧(w_.cell? ⟨gs,k*2,none⟩=some (.int .i64 c)∧w_.cell? ⟨gs,k*2+1,none⟩=some (.int .i64 d))∧w_.cell? ⟨b0,o0+r,none⟩=some (.int .i64 a)∧w_.cell? ⟨b0,o0+k,none⟩=some (.int .i64 b)) (by kernel_rfl) (by kernel_rfl) HC.out ?_)
 (try simp only [])
 repeat (first | (refine runL_no (by rfl) ?_;(try simp only [Act.put,List.setIfInBounds_toArray,List.set_cons_zero,List.set_cons_succ])) | (refine runL_val (v:=?_) (by rfl) ?_ ?_;rotate_left;(focus (intro w_ hw_;obtain ⟨⟨f1_,f2_⟩,⟨f3_,f4_⟩,f5_,f6_⟩:=hw_;go_simp;(try with_reducible rfl);done));(try simp only [Act.put,List.setIfInBounds_toArray,List.set_cons_zero,List.set_cons_succ])))
 (refine runL_nil ?_)
 exact HK.out _ _ _ _ _ _ _ _ _ _ _ _ _ _ _ _ _ _ _ _ _ _ _ _ _ _ _ _ _ _ _ _ _ _ _ _ _ _ _ _ _ _ _ _ _ _ _ _ _ _ _ rfl
set_option maxHeartbeats 4000000 in
theorem rc_l0 {Ap:Option Addr} {bp cp gs n:Nat} {pool:Int} {sp:List (Int×Int)} {pl:List Int} {G:Nat→Prop} (w:World) (Q:Exit→Act→World→Prop) (hg:SpansR w gs sp) (hn:sp.length=n∧pl.length=n) (hp:NumsAt w G (.slice Ap n cp) pl) (hb0:w.cell? ⟨bp,0,none⟩=some (.int .i64 (n:Nat))) (hn3:n≤1000)
   (k1:(∀ (k:Nat) (s:Int×Int) (a:Int),sp[k]? = some s→pl[k]? = some a→badP pool s a=false)→∀ (pP mN mX lD lE lF lG lH lI lJ lK lL lM lN lO lP lQ lR lS lT lU lV lW lX lY lZ l5 l6 l7:Value),Q (.exit 0) ⟨#[aB,.int .i64 pool,.slice Ap n cp,.pointer (some ⟨bp,0,none⟩),aC,aD,pP,kY,kZ,.slice (some ⟨gs,0,none⟩) n n,mN,lC,aE,aF,aG,aH,aI,aJ,aK,aL,aM,aN,aO,aP,aQ,aR,aS,aT,aU,aV,aW,aX,aY,aZ,a8,bA,mX,lD,lE,lF,lG,lH,lI,lJ,lK,lL,lM,lN,lO,lP,lQ,lR,lS,lT,lU,lV,lW,lX,lY,lZ,l5,l6,l7,cC,cD,cE,cF,cG,cH,cI,cJ,cK,cL,cM,cN,cO,cP,cQ,cR,cT,cU,cV,cW,cX,cY,cZ,c8,dA,dB,dC,dD,dE,dF,dG,dH,dI,dJ,dK,dL,dM,dN,dO,dP,dQ,dR,dS,dT,dU,dV,dW,dX,dY,dZ,d7,eA,eB,eC,eD,eE,eF,eG,eH,eI,eJ,eK],[]⟩ w) (k2:(∃ (k:Nat) (s:Int×Int) (a:Int),sp[k]? = some s∧pl[k]? = some a∧badP pool s a=true)→∀ (mN mX lD lE lF lG lH lI lJ lK lL lM lN lO lP lQ lR lS lT lU lV lW lX lY lZ l5 l6 l7:Value),Q (.ret) ⟨#[aB,.int .i64 pool,.slice Ap n cp,.pointer (some ⟨bp,0,none⟩),aC,aD,.int .i64 2,kY,kZ,.slice (some ⟨gs,0,none⟩) n n,mN,lC,aE,aF,aG,aH,aI,aJ,aK,aL,aM,aN,aO,aP,aQ,aR,aS,aT,aU,aV,aW,aX,aY,aZ,a8,bA,mX,lD,lE,lF,lG,lH,lI,lJ,lK,lL,lM,lN,lO,lP,lQ,lR,lS,lT,lU,lV,lW,lX,lY,lZ,l5,l6,l7,cC,cD,cE,cF,cG,cH,cI,cJ,cK,cL,cM,cN,cO,cP,cQ,cR,cT,cU,cV,cW,cX,cY,cZ,c8,dA,dB,dC,dD,dE,dF,dG,dH,dI,dJ,dK,dL,dM,dN,dO,dP,dQ,dR,dS,dT,dU,dV,dW,dX,dY,dZ,d7,eA,eB,eC,eD,eE,eF,eG,eH,eI,eJ,eK],[]⟩ w):(partL Tryd.f14 0).wp Tryd.prog Q ⟨#[aB,.int .i64 pool,.slice Ap n cp,.pointer (some ⟨bp,0,none⟩),aC,aD,kX,kY,kZ,.slice (some ⟨gs,0,none⟩) n n,.int .i64 0,lC,aE,aF,aG,aH,aI,aJ,aK,aL,aM,aN,aO,aP,aQ,aR,aS,aT,aU,aV,aW,aX,aY,aZ,a8,bA,bB,bC,bD,bE,bF,bG,bH,bI,bJ,bK,bL,bM,bN,bO,bP,bQ,bS,bT,bU,bV,bW,bX,bY,bZ,b4,b6,cA,cC,cD,cE,cF,cG,cH,cI,cJ,cK,cL,cM,cN,cO,cP,cQ,cR,cT,cU,cV,cW,cX,cY,cZ,c8,dA,dB,dC,dD,dE,dF,dG,dH,dI,dJ,dK,dL,dM,dN,dO,dP,dQ,dR,dS,dT,dU,dV,dW,dX,dY,dZ,d7,eA,eB,eC,eD,eE,eF,eG,eH,eI,eJ,eK],[]⟩ w:=by
 have HG:=Lh hg
 have HN:=Lh hn
 have HPL:=Lh hp
 have HB0:=Lh hb0
 have K1:=Lh k1
 have K2:=Lh k2
 clear hg hn hp k1 k2
 conv=>arg 2;whnf
 go_wp2
 go_loopw [10] (fun j wr=>∃ r:Nat,r≤n∧j=.int .i64 r∧wr=w∧Hid (∀ (k:Nat) (s:Int×Int) (a:Int),k < r→sp[k]? = some s→pl[k]? = some a→badP pool s a=false)) (fun j _=>n - (intOf j).toNat)
 case atStart=>exact ⟨0,by omega,rfl,by trivial,Lh (fun k s a h=>absurd h (by omega))⟩
 case round =>
   obtain ⟨r,hr,rfl,rfl,HT⟩:=hrel
   by_cases hlt:r < n
   · obtain ⟨s,hs⟩:∃ s,sp[r]? = some s:=⟨_,List.getElem?_eq_getElem (by have:=HN.out.1;omega)⟩
     obtain ⟨a,ha⟩:∃ s,pl[r]? = some s:=⟨_,List.getElem?_eq_getElem (by have:=HN.out.2;omega)⟩
     obtain ⟨b,o,hA,hGb,hc⟩:=HPL.out.at_ ha
     subst hA
     have hsp:=HG.out.cells hs
     have HS:=Lh hs
     have HA:=Lh ha
     obtain ⟨x,hx⟩:∃ x,s.1=x:=⟨_,rfl⟩
     rw [hx] at hsp
     have HX:=Lh hx
     have hs0:=hsp.1
     have i0:(0:Int)≤(r:Int):=by omega
     have i1:(r:Int) < (n:Int):=by omega
     have hkd1:decide (r < n)=true:=decide_eq_true hlt
     clear hs ha hx hsp hGb
     cases d0:decide ((0:Int)≤x)
     · have HN2:=Lh (show badP pool s a=false by unfold badP;rw [HX.out,d0];rfl)
       go_wp2
       go_roundw
       case rel=>exact ⟨r+1,by omega,by go_num,by trivial,Lh (fun k s' a' hk h1 h2=>by
         by_cases e:k=r
         · subst e;rw [HS.out] at h1;rw [HA.out] at h2;cases h1;cases h2;exact HN2.out
         · exact HT.out k s' a' (by omega) h1 h2)⟩
       case measure=>simp [intOf];omega
     · cases d1:decide (pool≤a)
       · cases d2:decide (a < (-64:Int))
         · have HN2:=Lh (show badP pool s a=false by unfold badP;rw [HX.out,d0,d1,d2];rfl)
           go_wp2
           go_roundw
           case rel=>exact ⟨r+1,by omega,by go_num,by trivial,Lh (fun k s' a' hk h1 h2=>by
             by_cases e:k=r
             · subst e;rw [HS.out] at h1;rw [HA.out] at h2;cases h1;cases h2;exact HN2.out
             · exact HT.out k s' a' (by omega) h1 h2)⟩
           case measure=>simp [intOf];omega
         · have HN2:=Lh (show badP pool s a=true by unfold badP;rw [HX.out,d0,d1,d2];rfl)
           go_wp2
           exact K2.out ⟨r,s,a,HS.out,HA.out,HN2.out⟩ _ _ _ _ _ _ _ _ _ _ _ _ _ _ _ _ _ _ _ _ _ _ _ _ _ _ _ _
       · have HN2:=Lh (show badP pool s a=true by unfold badP;rw [HX.out,d0,d1];rfl)
         go_wp2
         exact K2.out ⟨r,s,a,HS.out,HA.out,HN2.out⟩ _ _ _ _ _ _ _ _ _ _ _ _ _ _ _ _ _ _ _ _ _ _ _ _ _ _ _ _
   · have HN2:=Lh (show ∀ (k:Nat) (s:Int×Int) (a:Int),sp[k]? = some s→pl[k]? = some a→badP pool s a=false from fun k s a h1 h2=>HT.out k s a (by have:=(List.getElem?_eq_some_iff.1 h1).1;have:=HN.out.1;omega) h1 h2)
     have hkd1:decide (r < n)=false:=decide_eq_false hlt
     go_wp2
     exact K1.out HN2.out _ _ _ _ _ _ _ _ _ _ _ _ _ _ _ _ _ _ _ _ _ _ _ _ _ _ _ _ _
set_option maxHeartbeats 4000000 in
theorem rc_l4 {Ap:Option Addr} {cp gs n r:Nat} {a:Int} {s:Int×Int} {sp:List (Int×Int)} {pl:List Int} {G:Nat→Prop} (w:World) (Q:Exit→Act→World→Prop) (hg:SpansR w gs sp) (hn:sp.length=n∧pl.length=n) (hp:NumsAt w G (.slice Ap n cp) pl) (hr:r < n) (hs:sp[r]? = some s) (ha:pl[r]? = some a) (hn3:n≤1000)
   (k1:(∀ (i:Nat) (t:Int×Int) (b:Int),i < r→sp[i]? = some t→pl[i]? = some b→clashP s t a b=false)→∀ (pP mP mE mF mG mH mI mJ mY iS iT iU iV iW iX iY iZ i7 i8 i9 jA jB jC jD jE jF jG jH jI jJ jK jL jM jO jP jQ jR jS jT jU jV jW jX jY jZ j5 j6 j7 j8 j9 kF kG kH kI kJ kK kL kN:Value) (w':World),Below w.heap.size w w'∧w'.heap=w.heap→Q (.exit 4) ⟨#[aB,aA,.slice Ap n cp,kW,aC,aD,pP,kY,kZ,.slice (some ⟨gs,0,none⟩) n n,lB,.int .i64 (r:Nat),mP,aF,aG,aH,aI,aJ,aK,aL,aM,aN,aO,aP,aQ,aR,aS,aT,aU,aV,aW,aX,aY,aZ,a8,bA,bB,bC,bD,bE,bF,bG,bH,bI,bJ,bK,bL,bM,bN,bO,bP,bQ,bS,bT,bU,bV,bW,bX,bY,bZ,b4,b6,cA,cC,cD,cE,cF,cG,cH,mE,mF,mG,mH,mI,mJ,mY,iS,iT,iU,iV,iW,iX,iY,iZ,i7,i8,i9,jA,jB,jC,jD,jE,jF,jG,jH,jI,jJ,jK,jL,jM,jO,jP,jQ,jR,jS,jT,jU,jV,jW,jX,jY,jZ,j5,j6,j7,j8,j9,kF,kG,kH,kI,kJ,kK,kL,kN],[]⟩ w') (k2:(∃ (i:Nat) (t:Int×Int) (b:Int),i < r∧sp[i]? = some t∧pl[i]? = some b∧clashP s t a b=true)→∀ (mP mE mF mG mH mI mJ mY iS iT iU iV iW iX iY iZ i7 i8 i9 jA jB jC jD jE jF jG jH jI jJ jK jL jM jO jP jQ jR jS jT jU jV jW jX jY jZ j5 j6 j7 j8 j9 kF kG kH kI kJ kK kL kN:Value) (w':World),Below w.heap.size w w'∧w'.heap=w.heap→Q (.ret) ⟨#[aB,aA,.slice Ap n cp,kW,aC,aD,.int .i64 6,kY,kZ,.slice (some ⟨gs,0,none⟩) n n,lB,.int .i64 (r:Nat),mP,aF,aG,aH,aI,aJ,aK,aL,aM,aN,aO,aP,aQ,aR,aS,aT,aU,aV,aW,aX,aY,aZ,a8,bA,bB,bC,bD,bE,bF,bG,bH,bI,bJ,bK,bL,bM,bN,bO,bP,bQ,bS,bT,bU,bV,bW,bX,bY,bZ,b4,b6,cA,cC,cD,cE,cF,cG,cH,mE,mF,mG,mH,mI,mJ,mY,iS,iT,iU,iV,iW,iX,iY,iZ,i7,i8,i9,jA,jB,jC,jD,jE,jF,jG,jH,jI,jJ,jK,jL,jM,jO,jP,jQ,jR,jS,jT,jU,jV,jW,jX,jY,jZ,j5,j6,j7,j8,j9,kF,kG,kH,kI,kJ,kK,kL,kN],[]⟩ w'):(partL Tryd.f14 4).wp Tryd.prog Q ⟨#[aB,aA,.slice Ap n cp,kW,aC,aD,kX,kY,kZ,.slice (some ⟨gs,0,none⟩) n n,lB,.int .i64 (r:Nat),.int .i64 0,aF,aG,aH,aI,aJ,aK,aL,aM,aN,aO,aP,aQ,aR,aS,aT,aU,aV,aW,aX,aY,aZ,a8,bA,bB,bC,bD,bE,bF,bG,bH,bI,bJ,bK,bL,bM,bN,bO,bP,bQ,bS,bT,bU,bV,bW,bX,bY,bZ,b4,b6,cA,cC,cD,cE,cF,cG,cH,cI,cJ,cK,cL,cM,cN,cO,cP,cQ,cR,cT,cU,cV,cW,cX,cY,cZ,c8,dA,dB,dC,dD,dE,dF,dG,dH,dI,dJ,dK,dL,dM,dN,dO,dP,dQ,dR,dS,dT,dU,dV,dW,dX,dY,dZ,d7,eA,eB,eC,eD,eE,eF,eG,eH,eI,eJ,eK],[]⟩ w:=by
 have HG:=Lh hg
 have HN:=Lh hn
 have HPL:=Lh hp
 have HSA:=Lh (And.intro hs ha)
 have K1:=Lh k1
 have K2:=Lh k2
 obtain ⟨b0,o0,hA,_,hcR⟩:=hp.at_ ha
 subst hA
 have HCR:=Lh hcR
 clear hg hn hp hs ha k1 k2 hcR
 conv=>arg 2;whnf
 go_wp2
 go_loopw [12] (fun j wr=>∃ k:Nat,k≤r∧j=.int .i64 k∧Hid (Below w.heap.size w wr∧wr.heap=w.heap∧(∀ (i:Nat) (t:Int×Int) (b:Int),i < k→sp[i]? = some t→pl[i]? = some b→clashP s t a b=false))) (fun j _=>r - (intOf j).toNat)
 case atStart=>exact ⟨0,by omega,rfl,Lh ⟨Below.refl _ _,rfl,fun k s a h=>absurd h (by omega)⟩⟩
 case round =>
   obtain ⟨k,hk,rfl,HJ⟩:=hrel
   by_cases hlt:k < r
   · obtain ⟨t,ht⟩:∃ s,sp[k]? = some s:=⟨_,List.getElem?_eq_getElem (by have:=HN.out.1;omega)⟩
     obtain ⟨b,hb⟩:∃ s,pl[k]? = some s:=⟨_,List.getElem?_eq_getElem (by have:=HN.out.2;omega)⟩
     obtain ⟨b',o',hA',_,hc⟩:=HPL.out.at_ hb
     cases hA'
     have hE:∀ q,wr.cell? q=w.cell? q:=fun q=>by simp only [World.cell?];rw [HJ.out.2.1]
     have HSR:=Lh (HG.out.cells HSA.out.1)
     have HSK:=Lh (HG.out.cells ht)
     have HCK:=Lh hc
     have HEE:=Lh hE
     have HS:=Lh ht
     have HA:=Lh hb
     have hkd1:decide (k < r)=true:=decide_eq_true hlt
     obtain ⟨m,hm⟩:∃ m,clashP s t a b=m:=⟨_,rfl⟩
     have HM:=Lh hm
     clear ht hb hc hE hm
     go_wp2
     refine wp_code (c:=partR Tryd.f14 18) (by kernel_rfl) ?_
     refine rc_r18 (b0:=b0) (o0:=o0) (gs:=gs) (n:=n) (cp:=cp) (r:=r) (k:=k) (x:=s.1) (y:=s.2) (c:=t.1) (d:=t.2) (a:=a) (b:=b) (bl:=m) _ _ ((HEE.out _).trans HSR.out.1) ((HEE.out _).trans HSR.out.2) ((HEE.out _).trans HSK.out.1) ((HEE.out _).trans HSK.out.2) ((HEE.out _).trans HCR.out) ((HEE.out _).trans HCK.out) hr (by omega) (by omega) HM.out ?_
     intro mJ mY iS iT iU iV iW iX iY iZ i7 i8 i9 jA jB jC jD jE jF jG jH jI jJ jK jL jM jO jP jQ jR jS jT jU jV jW jX jY jZ j5 j6 j7 j8 j9 kF kG kH kI kJ kK kL w5 h5
     have H5:=Lh (show Below w.heap.size w w5∧w5.heap=w.heap from ⟨by rw [h5];exact HJ.out.1.drew,by rw [h5];exact HJ.out.2.1⟩)
     clear h5
     cases m
     · go_wp2
       go_roundw
       case rel=>exact ⟨k+1,by omega,by go_num,Lh ⟨H5.out.1,H5.out.2,fun i t' b' hk h1 h2=>by
         by_cases e:i=k
         · subst e;rw [HS.out] at h1;rw [HA.out] at h2;cases h1;cases h2;exact HM.out
         · exact HJ.out.2.2 i t' b' (by omega) h1 h2⟩⟩
       case measure=>simp [intOf];omega
     · go_wp2
       exact K2.out ⟨k,t,b,hlt,HS.out,HA.out,HM.out⟩ _ _ _ _ _ _ _ _ _ _ _ _ _ _ _ _ _ _ _ _ _ _ _ _ _ _ _ _ _ _ _ _ _ _ _ _ _ _ _ _ _ _ _ _ _ _ _ _ _ _ _ _ _ _ _ _ _ _ H5.out
   · have hkd1:decide (k < r)=false:=decide_eq_false hlt
     have HN2:=Lh (show ∀ (i:Nat) (t:Int×Int) (b:Int),i < r→sp[i]? = some t→pl[i]? = some b→clashP s t a b=false from fun i t b h h1 h2=>HJ.out.2.2 i t b (by omega) h1 h2)
     go_wp2
     exact K1.out HN2.out _ _ _ _ _ _ _ _ _ _ _ _ _ _ _ _ _ _ _ _ _ _ _ _ _ _ _ _ _ _ _ _ _ _ _ _ _ _ _ _ _ _ _ _ _ _ _ _ _ _ _ _ _ _ _ _ _ _ _ ⟨HJ.out.1,HJ.out.2.1⟩
set_option maxHeartbeats 4000000 in
theorem rc_l2 {Ap:Option Addr} {bp cp gs n:Nat} {sp:List (Int×Int)} {pl:List Int} {G:Nat→Prop} (w:World) (Q:Exit→Act→World→Prop) (hg:SpansR w gs sp) (hn:sp.length=n∧pl.length=n) (hp:NumsAt w G (.slice Ap n cp) pl) (hb0:w.cell? ⟨bp,0,none⟩=some (.int .i64 (n:Nat))) (hn3:n≤1000)
   (k1:(∀ (r i:Nat) (s t:Int×Int) (a b:Int),i < r→sp[r]? = some s→pl[r]? = some a→sp[i]? = some t→pl[i]? = some b→clashP s t a b=false)→∀ (pP mO mP l8 l9 mA mB mC mD mE mF mG mH mI mJ mY iS iT iU iV iW iX iY iZ i7 i8 i9 jA jB jC jD jE jF jG jH jI jJ jK jL jM jO jP jQ jR jS jT jU jV jW jX jY jZ j5 j6 j7 j8 j9 kF kG kH kI kJ kK kL kN:Value) (w':World),Below w.heap.size w w'∧w'.heap=w.heap→Q (.exit 2) ⟨#[aB,aA,.slice Ap n cp,.pointer (some ⟨bp,0,none⟩),aC,aD,pP,kY,kZ,.slice (some ⟨gs,0,none⟩) n n,lB,mO,mP,aF,aG,aH,aI,aJ,aK,aL,aM,aN,aO,aP,aQ,aR,aS,aT,aU,aV,aW,aX,aY,aZ,a8,bA,bB,bC,bD,bE,bF,bG,bH,bI,bJ,bK,bL,bM,bN,bO,bP,bQ,bS,bT,bU,bV,bW,bX,bY,bZ,b4,b6,cA,l8,l9,mA,mB,mC,mD,mE,mF,mG,mH,mI,mJ,mY,iS,iT,iU,iV,iW,iX,iY,iZ,i7,i8,i9,jA,jB,jC,jD,jE,jF,jG,jH,jI,jJ,jK,jL,jM,jO,jP,jQ,jR,jS,jT,jU,jV,jW,jX,jY,jZ,j5,j6,j7,j8,j9,kF,kG,kH,kI,kJ,kK,kL,kN],[]⟩ w') (k2:(∃ (r i:Nat) (s t:Int×Int) (a b:Int),i < r∧sp[r]? = some s∧pl[r]? = some a∧sp[i]? = some t∧pl[i]? = some b∧clashP s t a b=true)→∀ (mO mP l8 l9 mA mB mC mD mE mF mG mH mI mJ mY iS iT iU iV iW iX iY iZ i7 i8 i9 jA jB jC jD jE jF jG jH jI jJ jK jL jM jO jP jQ jR jS jT jU jV jW jX jY jZ j5 j6 j7 j8 j9 kF kG kH kI kJ kK kL kN:Value) (w':World),Below w.heap.size w w'∧w'.heap=w.heap→Q (.ret) ⟨#[aB,aA,.slice Ap n cp,.pointer (some ⟨bp,0,none⟩),aC,aD,.int .i64 6,kY,kZ,.slice (some ⟨gs,0,none⟩) n n,lB,mO,mP,aF,aG,aH,aI,aJ,aK,aL,aM,aN,aO,aP,aQ,aR,aS,aT,aU,aV,aW,aX,aY,aZ,a8,bA,bB,bC,bD,bE,bF,bG,bH,bI,bJ,bK,bL,bM,bN,bO,bP,bQ,bS,bT,bU,bV,bW,bX,bY,bZ,b4,b6,cA,l8,l9,mA,mB,mC,mD,mE,mF,mG,mH,mI,mJ,mY,iS,iT,iU,iV,iW,iX,iY,iZ,i7,i8,i9,jA,jB,jC,jD,jE,jF,jG,jH,jI,jJ,jK,jL,jM,jO,jP,jQ,jR,jS,jT,jU,jV,jW,jX,jY,jZ,j5,j6,j7,j8,j9,kF,kG,kH,kI,kJ,kK,kL,kN],[]⟩ w'):(partL Tryd.f14 2).wp Tryd.prog Q ⟨#[aB,aA,.slice Ap n cp,.pointer (some ⟨bp,0,none⟩),aC,aD,kX,kY,kZ,.slice (some ⟨gs,0,none⟩) n n,lB,.int .i64 0,aE,aF,aG,aH,aI,aJ,aK,aL,aM,aN,aO,aP,aQ,aR,aS,aT,aU,aV,aW,aX,aY,aZ,a8,bA,bB,bC,bD,bE,bF,bG,bH,bI,bJ,bK,bL,bM,bN,bO,bP,bQ,bS,bT,bU,bV,bW,bX,bY,bZ,b4,b6,cA,cC,cD,cE,cF,cG,cH,cI,cJ,cK,cL,cM,cN,cO,cP,cQ,cR,cT,cU,cV,cW,cX,cY,cZ,c8,dA,dB,dC,dD,dE,dF,dG,dH,dI,dJ,dK,dL,dM,dN,dO,dP,dQ,dR,dS,dT,dU,dV,dW,dX,dY,dZ,d7,eA,eB,eC,eD,eE,eF,eG,eH,eI,eJ,eK],[]⟩ w:=by
 have HG:=Lh hg
 have HN:=Lh hn
 have HPL:=Lh hp
 have HB0:=Lh hb0
 have K1:=Lh k1
 have K2:=Lh k2
 clear hg hn hp hb0 k1 k2
 conv=>arg 2;whnf
 go_wp2
 go_loopw [11] (fun j wr=>∃ r:Nat,r≤n∧j=.int .i64 r∧Hid (Below w.heap.size w wr∧wr.heap=w.heap∧(∀ (r' i:Nat) (s t:Int×Int) (a b:Int),r' < r→i < r'→sp[r']? = some s→pl[r']? = some a→sp[i]? = some t→pl[i]? = some b→clashP s t a b=false))) (fun j _=>n - (intOf j).toNat)
 case atStart=>exact ⟨0,by omega,rfl,Lh ⟨Below.refl _ _,rfl,fun k _ s _ a _ h=>absurd h (by omega)⟩⟩
 case round =>
   obtain ⟨r,hr,rfl,HJ⟩:=hrel
   have hb0:wr.cell? ⟨bp,0,none⟩=some (.int .i64 (n:Nat)):=by simp only [World.cell?];rw [HJ.out.2.1];exact HB0.out
   by_cases hlt:r < n
   · obtain ⟨s,hs⟩:∃ s,sp[r]? = some s:=⟨_,List.getElem?_eq_getElem (by have:=HN.out.1;omega)⟩
     obtain ⟨a,ha⟩:∃ s,pl[r]? = some s:=⟨_,List.getElem?_eq_getElem (by have:=HN.out.2;omega)⟩
     have HS:=Lh hs
     have HA:=Lh ha
     have hkd1:decide (r < n)=true:=decide_eq_true hlt
     clear hs ha
     go_wp2
     refine wp_code (c:=partL Tryd.f14 4) (by kernel_rfl) ?_
     refine rc_l4 (gs:=gs) (r:=r) (s:=s) (a:=a) (sp:=sp) (pl:=pl) (G:=G) _ _ (show wr.heap[gs]? = _ by rw [HJ.out.2.1];exact HG.out) HN.out (Rows.keep HPL.out (fun k _=>by rw [HJ.out.2.1])) hlt HS.out HA.out hn3 ?_ ?_
     rotate_left
     · rintro ⟨i,t,b,hi,h1,h2,h3⟩ mP mE mF mG mH mI mJ mY iS iT iU iV iW iX iY iZ i7 i8 i9 jA jB jC jD jE jF jG jH jI jJ jK jL jM jO jP jQ jR jS jT jU jV jW jX jY jZ j5 j6 j7 j8 j9 kF kG kH kI kJ kK kL kN w7 hb7
       exact K2.out ⟨r,i,s,t,a,b,hi,HS.out,HA.out,h1,h2,h3⟩ _ _ _ _ _ _ _ _ _ _ _ _ _ _ _ _ _ _ _ _ _ _ _ _ _ _ _ _ _ _ _ _ _ _ _ _ _ _ _ _ _ _ _ _ _ _ _ _ _ _ _ _ _ _ _ _ _ _ _ _ _ _ _ _ _ ⟨HJ.out.1.trans (hb7.1.mono HJ.out.1.size),hb7.2.trans HJ.out.2.1⟩
     · intro hno pP mP mE mF mG mH mI mJ mY iS iT iU iV iW iX iY iZ i7 i8 i9 jA jB jC jD jE jF jG jH jI jJ jK jL jM jO jP jQ jR jS jT jU jV jW jX jY jZ j5 j6 j7 j8 j9 kF kG kH kI kJ kK kL kN w7 hb7
       have HNO:=Lh hno
       have HB7:=Lh (show Below w.heap.size w w7∧w7.heap=w.heap from ⟨HJ.out.1.trans (hb7.1.mono HJ.out.1.size),hb7.2.trans HJ.out.2.1⟩)
       clear hno hb7 hb0
       go_wp2
       go_roundw
       case rel=>exact ⟨r+1,by omega,by go_num,Lh ⟨HB7.out.1,HB7.out.2,fun r' i s' t' a' b' h1 h2 h3 h4 h5 h6=>by
         by_cases e:r'=r
         · subst e;rw [HS.out] at h3;rw [HA.out] at h4;cases h3;cases h4;exact HNO.out i t' b' h2 h5 h6
         · exact HJ.out.2.2 r' i s' t' a' b' (by omega) h2 h3 h4 h5 h6⟩⟩
       case measure=>simp [intOf];omega
   · have hkd1:decide (r < n)=false:=decide_eq_false hlt
     have HN2:=Lh (show ∀ (r' i:Nat) (s t:Int×Int) (a b:Int),i < r'→sp[r']? = some s→pl[r']? = some a→sp[i]? = some t→pl[i]? = some b→clashP s t a b=false from fun r' i s t a b h2 h3 h4 h5 h6=>HJ.out.2.2 r' i s t a b (by have:=(List.getElem?_eq_some_iff.1 h3).1;have:=HN.out.1;omega) h2 h3 h4 h5 h6)
     go_wp2
     exact K1.out HN2.out _ _ _ _ _ _ _ _ _ _ _ _ _ _ _ _ _ _ _ _ _ _ _ _ _ _ _ _ _ _ _ _ _ _ _ _ _ _ _ _ _ _ _ _ _ _ _ _ _ _ _ _ _ _ _ _ _ _ _ _ _ _ _ _ _ _ ⟨HJ.out.1,HJ.out.2.1⟩
set_option maxHeartbeats 8000000 in
theorem Pcheck_any (p:LP) (Ab Ao Ap:Option Addr) (nb cb no co n0 cp:Nat) (pool:Int) (pl:List Int) (w:World) (hp:ProgAt w (fun k=>k < w.heap.size) [.int .i64 p.regs,.slice Ab nb cb,.slice Ao no co] p) (hpl:NumsAt w (fun k=>k < w.heap.size) (.slice Ap n0 cp) pl) :
   Calls Tryd.prog 14 #[.agg #[.int .i64 p.regs,.slice Ab nb cb,.slice Ao no co],.int .i64 pool,.slice Ap n0 cp] w fun e w'=>e=.returned (.int .i64 (placesF p pool pl))∧Below w.heap.size w w':=by
 obtain ⟨W,hW,hbW,hzW,hl_,hr_⟩:=boxed w #[.int .i64 p.regs,.slice Ab nb cb,.slice Ao no co] 25
 have c0:W.cell? ⟨w.heap.size,0,none⟩=some (.int .i64 p.regs):=by rw [hl_];rfl
 have c1:W.cell? ⟨w.heap.size,1,none⟩=some (.slice Ab nb cb):=by rw [hl_];rfl
 have c2:W.cell? ⟨w.heap.size,2,none⟩=some (.slice Ao no co):=by rw [hl_];rfl
 have hp1:=prog_next hp hbW
 have HC:=Lh (Rcheck_any p Ab Ao nb cb no co W hp1)
 rw [check_same] at HC
 have hl0:pl.length=n0:=by obtain ⟨A,c,hv,_⟩:=rows_form hpl;cases hv;rfl
 have HPL:=Lh hpl
 have HP1:=Lh hp1
 have HW:=Lh hW
 have HB:=Lh hbW
 have hlt:w.heap.size < W.heap.size:=by omega
 obtain ⟨x,hx⟩:∃ x,(checkF p 64).1=x:=⟨_,rfl⟩
 obtain ⟨y,hy⟩:∃ x,(checkF p 64).2=x:=⟨_,rfl⟩
 obtain ⟨res,hres⟩:∃ x,placesF p pool pl=x:=⟨_,rfl⟩
 have hv:=hres
 unfold placesF at hv
 rw [hy,hl0] at hv
 have HV:=Lh hv
 rw [hx,hy] at HC
 rw [hres]
 have HY:=Lh hy
 have HL0:=Lh hl0
 clear hW hbW hzW hl_ hr_ hp hp1 hpl hx hy hres hv hl0
 by_cases h0:y=0
 rotate_left
 · have d0:(y != 0)=true:=by simpa using h0
   have HV:=Lh (HV.out.symm.trans (if_pos h0))
   clear h0 hlt
   go_enter Tryd.func14,Tryd.ntmps14
   go_upto_region 1 with fail
   rw [←HW.out]
   go_wp2_with ((with_reducible refine (HC.out).mono ?_);rintro e w1 ⟨rfl,hb1⟩)
   go_ret
   exact ⟨by rw [HV.out];rfl,HB.out.trans (hb1.mono HB.out.size)⟩
 subst h0
 have HV:=Lh (HV.out.symm.trans (if_neg (by decide)))
 go_enter Tryd.func14,Tryd.ntmps14
 go_upto_region 1 with fail
 rw [←HW.out]
 go_upto_region 4 with ((with_reducible refine (HC.out).mono ?_);rintro e w1 ⟨rfl,hb1⟩)
 have e0:=(hb1.cell (p:=⟨w.heap.size,0,none⟩) hlt).trans c0
 have e1:=(hb1.cell (p:=⟨w.heap.size,1,none⟩) hlt).trans c1
 have e2:=(hb1.cell (p:=⟨w.heap.size,2,none⟩) hlt).trans c2
 have HB1:=Lh (HB.out.trans (hb1.mono HB.out.size))
 have HPW:=Lh (prog_next HP1.out hb1)
 have HL1:=Lh (Nat.lt_of_lt_of_le hlt hb1.size)
 clear c0 c1 c2 hb1 hlt
 by_cases m1:pool < 0
 · have d1:decide (pool < (0:Int))=true:=decide_eq_true m1
   have HV:=Lh (HV.out.trans (if_pos (.inl m1)))
   clear m1
   go_wp2
   go_ret
   exact ⟨by rw [HV.out];rfl,HB1.out⟩
 have d1:decide (pool < (0:Int))=false:=decide_eq_false m1
 by_cases m2:16 < pool
 · have d2:decide ((16:Int) < pool)=true:=decide_eq_true m2
   have HV:=Lh (HV.out.trans (if_pos (.inr (.inl m2))))
   clear m1 m2
   go_wp2
   go_ret
   exact ⟨by rw [HV.out];rfl,HB1.out⟩
 have d2:decide ((16:Int) < pool)=false:=decide_eq_false m2
 by_cases m3:(n0:Int)=p.regs
 rotate_left
 · have d3:((n0:Int) != p.regs)=true:=by simpa using m3
   have HV:=Lh (HV.out.trans (if_pos (.inr (.inr m3))))
   clear m1 m2 m3
   go_wp2
   go_ret
   exact ⟨by rw [HV.out];rfl,HB1.out⟩
 have d3:((n0:Int) != p.regs)=false:=by simpa using m3
 have HV:=Lh (HV.out.trans (if_neg (by rw [not_or,not_or];exact ⟨m1,m2,fun h=>h m3⟩)))
 have HSP:=Lh (RLive_ok p Ab Ao nb cb no co n0 w1 HPW.out HY.out m3.symm)
 have HM3:=Lh m3
 have HSL:=Lh (show (spansF p).length=n0 by rw [spans_len,←m3];rfl)
 have hn64:n0≤1000:=by have:=(head_ok (check_run HY.out).1).1;omega
 clear m1 m2 m3
 go_upto_region 7 with ((with_reducible refine (HSP.out).mono ?_);rintro e w2 ⟨gs,rfl,hgs,hsp,hb2⟩)
 have HS:=Lh hsp
 have HB2:=Lh (HB1.out.trans (hb2.mono HB1.out.size))
 have HPL2:=Lh (show NumsAt w2 (fun k=>k < w.heap.size) (.slice Ap n0 cp) pl from Rows.keep HPL.out (SameOn.of_below HB2.out fun _ h=>h))
 have HF0:=Lh (show w2.cell? ⟨w.heap.size,0,none⟩=some (.int .i64 (n0:Nat)) from (hb2.cell (p:=⟨w.heap.size,0,none⟩) (by have:=HL1.out;exact this)).trans (by rw [HM3.out];exact e0))
 clear e0 e1 e2 d1 d2 d3 hgs hsp hb2
 go_wp2
 refine wp_code (c:=partL Tryd.f14 0) (by kernel_rfl) ?_
 refine rc_l0 (gs:=gs) (sp:=spansF p) (pl:=pl) _ _ HS.out ⟨HSL.out,HL0.out⟩ HPL2.out HF0.out hn64 ?_ ?_
 rotate_left
 · intro hbad mN mX lD lE lF lG lH lI lJ lK lL lM lN lO lP lQ lR lS lT lU lV lW lX lY lZ l5 l6 l7
   have HV:=Lh (HV.out.trans (if_pos (bad_yes hbad)))
   have HB3:=HB2
   clear hbad
   go_wp2
   go_ret
   exact ⟨by rw [HV.out];rfl,HB3.out⟩
 intro hno pP mN mX lD lE lF lG lH lI lJ lK lL lM lN lO lP lQ lR lS lT lU lV lW lX lY lZ l5 l6 l7
 have HV:=Lh (HV.out.trans (if_neg (by rw [bad_no (by rw [HL0.out,HSL.out]) hno];decide)))
 have HB3:=HB2
 have HS3:=HS
 clear hno
 go_wp2
 refine wp_code (c:=partL Tryd.f14 2) (by kernel_rfl) ?_
 refine rc_l2 (gs:=gs) (sp:=spansF p) (pl:=pl) _ _ HS3.out ⟨HSL.out,HL0.out⟩ HPL2.out HF0.out hn64 ?_ ?_
 rotate_left
 · intro hcl mO mP l8 l9 mA mB mC mD mE mF mG mH mI mJ mY iS iT iU iV iW iX iY iZ i7 i8 i9 jA jB jC jD jE jF jG jH jI jJ jK jL jM jO jP jQ jR jS jT jU jV jW jX jY jZ j5 j6 j7 j8 j9 kF kG kH kI kJ kK kL kN w4 hb4
   have HV:=Lh (HV.out.trans (if_pos (clash_yes hcl)))
   have HB4:=Lh (HB3.out.trans (hb4.1.mono HB3.out.size))
   clear hcl hb4
   go_wp2
   go_ret
   exact ⟨by rw [HV.out];rfl,HB4.out⟩
 intro hno pP mO mP l8 l9 mA mB mC mD mE mF mG mH mI mJ mY iS iT iU iV iW iX iY iZ i7 i8 i9 jA jB jC jD jE jF jG jH jI jJ jK jL jM jO jP jQ jR jS jT jU jV jW jX jY jZ j5 j6 j7 j8 j9 kF kG kH kI kJ kK kL kN w4 hb4
 have HV:=Lh (HV.out.trans (if_neg (by rw [clash_no (by rw [HL0.out,HSL.out]) hno];decide)))
 have HB4:=Lh (HB3.out.trans (hb4.1.mono HB3.out.size))
 clear hno hb4
 go_wp2
 go_ret
 exact ⟨by rw [HV.out];rfl,HB4.out⟩
end Go.Proofs.YtppoiahhaclleaaDoor
namespace Go.Proofs.YtppoiahhaclleaaDoor
open Go.RowKit Go.Maps
set_option maxRecDepth 100000
theorem Sep.join {w0 w w':World} {F0:Nat→Prop} {R R2:List Res} (h:Sep w0 F0 w R) (h2:Sep w (fun _=>False) w' R2):Sep w0 F0 w' (R2++R):=by
 have hn:=h.next h2.below
 have hov:∀ r∈R2,∀ k,r.F k→w.heap.size≤k:=fun r hr k hk=>by
   have:=h2.over r hr k hk
   unfold Ov at this
   exact this.elim (fun h=>h.elim) (fun h=>h)
 refine ⟨hn.chg,fun r hr=>?_,fun r hr k hk=>?_,List.pairwise_append.2 ⟨h2.dis,hn.dis,fun r hr q hq k hk hk'=>?_⟩,fun r hr=>?_⟩
 · rcases List.mem_append.1 hr with h1 | h1
   · exact h2.lt r h1
   · exact hn.lt r h1
 · rcases List.mem_append.1 hr with h1 | h1
   · exact .inr (Nat.le_trans h.size (hov r h1 k hk))
   · exact hn.over r h1 k hk
 · have:=hov r hr k hk
   have:=h.lt q hq k hk'
   omega
 · rcases List.mem_append.1 hr with h1 | h1
   · exact h2.holds r h1
   · exact hn.holds r h1
theorem perm5 (a b c d e:Res):List.Perm [b,a,c,d,e] [e,a,b,c,d]:=by
 refine (List.Perm.swap a b _).trans ?_
 exact List.perm_append_singleton e [a,b,c,d]
theorem rows_blk {w:World} {g e sz n cap:Nat} {rows:List (List Value)} (h:RowsBlk w g e sz rows) (hn:rows.length=n) (hc:n≤cap):Rows w (fun k=>k < w.heap.size) sz (.slice (some ⟨g,0,none⟩) n cap) rows:=by
 have hs:∀ r∈rows,r.length=sz:=by obtain ⟨_,_,_,h3⟩:=h;exact h3
 refine ⟨_,cap,by rw [hn],by omega,hs,fun _=>⟨g,0,rfl,h.lt,fun i j r u hr hu=>?_⟩⟩
 rw [Nat.zero_add]
 exact h.cell hr hu
theorem fin_inv {p:LP} (h0:(checkF p 64).2=0) (himm:∀ o∈p.ops,o.imm < 18446744073709551616):∀ (f:Nat) {s e:RS},InvS p s→finF doP p.ops (endsF p.ops) f s=some (some e)→InvS p e:=by
 intro f
 induction f with
 | zero=>intro s e _ h;cases h
 | succ f ih =>
   intro s e hi h
   unfold finF at h
   split at h
   · cases h;exact hi
   · cases hs:stepF doP p.ops (endsF p.ops) s with
     | none=>rw [hs] at h;cases h
     | some s'=>rw [hs] at h;exact ih (hi.step h0 himm hs) h
theorem out_small {p:LP} {rows out:List (List Nat)} {g:Int} (h:RunOut p rows out g) (himm:∀ o∈p.ops,o.imm < 18446744073709551616) (hx:∀ r∈rows,∀ x∈r,x < 18446744073709551616):out.length≤1000000∧∀ r∈out,r.length≤1000000:=by
 have nil:∀ l:List (List Nat),l=[]→l.length≤1000000∧∀ r∈l,r.length≤1000000:=fun l e=>by subst e;exact ⟨by decide,fun r hr=>by cases hr⟩
 rcases h with ⟨_,h1,_⟩ | ⟨_,_,h1,_⟩ | ⟨h0,hb,f,hf⟩
 · exact nil _ h1
 · exact nil _ h1
 · rcases hf with ⟨_,h1,_⟩ | ⟨s,h1,h2,_⟩
   · exact nil _ h1
   · have hi:=fin_inv h0 himm f (inv_start (check_run h0).1 hb hx) h1
     rw [h2]
     have:=(head_ok (check_run h0).1).2.2.1
     exact ⟨by rw [hi.bl];omega,hi.rl⟩
set_option maxHeartbeats 32000000 in
theorem AllocRuns_walk (p:LP) (Ab Ao A:Option Addr) (nb cb no co n c:Nat) (pool:Int) (a:List (List Nat)) (w:World) (hp:ProgAt w (fun k=>k < w.heap.size) [.int .i64 p.regs,.slice Ab nb cb,.slice Ao no co] p) (ha:RowsU w (fun k=>k < w.heap.size) (.slice A n c) a) (hx:∀ r∈a,∀ x∈r,x < 18446744073709551616) (hT:TzAt w) :
   Calls Tryd.prog 3 #[.agg #[.int .i64 p.regs,.slice Ab nb cb,.slice Ao no co],.int .i64 pool,.slice A n c] w fun e w'=>e=.returned (.bool true)∧Below w.heap.size w w':=by
 obtain ⟨W,hW,hbW,hzW,hl_,hr_⟩:=boxed w #[.int .i64 p.regs,.slice Ab nb cb,.slice Ao no co] 25
 have c0:W.cell? ⟨w.heap.size,0,none⟩=some (.int .i64 p.regs):=by rw [hl_];rfl
 have c1:W.cell? ⟨w.heap.size,1,none⟩=some (.slice Ab nb cb):=by rw [hl_];rfl
 have c2:W.cell? ⟨w.heap.size,2,none⟩=some (.slice Ao no co):=by rw [hl_];rfl
 have hp1:=prog_next hp hbW
 have hlt:w.heap.size < W.heap.size:=by omega
 have hT1:TzAt W:=fun j hj=>(hbW.cell (lt_cell (hT j hj))).trans (hT j hj)
 have HT:=Lh (fun wr (hb:Below W.heap.size W wr)=>(show TzAt wr from fun j hj=>(hb.cell (lt_cell (hT1 j hj))).trans (hT1 j hj)))
 have HP:=Lh (fun wr (hb:Below W.heap.size W wr)=>prog_next hp1 hb)
 have HA:=Lh (fun wr (hb:Below W.heap.size W wr)=>(ha.next hbW).next hb)
 have HCS:=Lh (fun wr (hb:Below W.heap.size W wr)=>And.intro ((hb.cell (p:=⟨w.heap.size,0,none⟩) hlt).trans c0) (And.intro ((hb.cell (p:=⟨w.heap.size,1,none⟩) hlt).trans c1) ((hb.cell (p:=⟨w.heap.size,2,none⟩) hlt).trans c2)))
 have HLVS:=Lh (lives_is W hT1)
 have HCKA:Hid (∀ (q:LP) (Bb Bo:Option Addr) (mb db mo eo:Nat) (wr:World),ProgAt wr (fun k=>k < wr.heap.size) [.int .i64 q.regs,.slice Bb mb db,.slice Bo mo eo] q→Calls Tryd.prog 8 #[.agg #[.int .i64 q.regs,.slice Bb mb db,.slice Bo mo eo]] wr fun e w'=>e=.returned (.tuple #[.int .i64 (checkF q 64).1,.int .i64 (checkF q 64).2])∧Below wr.heap.size wr w'):=Lh (fun q Bb Bo mb db mo eo wr hq=>by
   have h:=Rcheck_any q Bb Bo mb db mo eo wr hq
   rw [check_same] at h
   exact h)
 have HLP:=Lh (fun wr (hb:Below W.heap.size W wr)=>LightProg_any p Ab Ao nb cb no co 60 wr (HP.out wr hb))
 have HLR:=Lh (fun wr (hb:Below W.heap.size W wr)=>LightRows_any A n c wr _ a (HA.out wr hb))
 have HX:=Lh hx
 have HW:=Lh hW
 have HB:=Lh hbW
 have HLT:=Lh hlt
 have HIMM:=Lh (And.intro hp.imm (And.intro hp.size (And.intro hp.nb hp.no)))
 obtain ⟨x,hx'⟩:∃ x,(checkF p 64).1=x:=⟨_,rfl⟩
 obtain ⟨y,hy⟩:∃ x,(checkF p 64).2=x:=⟨_,rfl⟩
 have HY:=Lh hy
 have HCK:=Lh (fun wr (hb:Below W.heap.size W wr)=>HCKA.out p Ab Ao nb cb no co wr (HP.out wr hb))
 rw [hx',hy] at HCK
 clear hp ha hx hT hW hbW hzW hl_ hr_ hp1 hT1 hx' hy c0 c1 c2 hlt
 by_cases h0:y=0
 rotate_left
 · have d0:(y != 0)=true:=by simpa using h0
   clear h0
   go_enter Tryd.func3,Tryd.ntmps3
   go_upto_region 1 with fail
   rw [←HW.out]
   go_upto_region 3 with ((with_reducible refine (HLVS.out).mono ?_);rintro e w1 ⟨rfl,hb1⟩;have H1:=Lh hb1;clear hb1)
   obtain ⟨c0,c1,c2⟩:=HCS.out w1 H1.out
   go_upto_region 4 with ((with_reducible refine (HCK.out _ H1.out).mono ?_);rintro e w2 ⟨rfl,hb2⟩;have H2:=Lh (H1.out.trans (hb2.mono H1.out.size));clear hb2)
   clear c0 c1 c2
   obtain ⟨c0,c1,c2⟩:=HCS.out w2 H2.out
   go_wp2_with (first | ((with_reducible refine (HLP.out _ H2.out).mono ?_);rintro e w3 ⟨b,rfl,hb3⟩;have H3:=Lh (H2.out.trans (hb3.mono H2.out.size));clear hb3;clear c0 c1 c2;obtain ⟨c0,c1,c2⟩:=HCS.out w3 H3.out) | ((with_reducible refine (HLR.out _ H3.out).mono ?_);rintro e w4 ⟨b2,rfl,rfl⟩))
   all_goals
     go_ret
     exact ⟨rfl,HB.out.trans (H3.out.mono HB.out.size)⟩
 subst h0
 have HST:=Lh (fun wr (hb:Below W.heap.size W wr)=>Steps_ok p Ab Ao nb cb no co wr (HP.out wr hb) HY.out)
 obtain ⟨st,hst⟩:∃ q,stepsF p.ops=q:=⟨_,rfl⟩
 rw [hst] at HST
 have HSTE:=Lh hst
 clear hst
 cases d5:decide ((5000:Int) < st)
 rotate_left
 · go_enter Tryd.func3,Tryd.ntmps3
   go_upto_region 1 with fail
   rw [←HW.out]
   go_upto_region 3 with ((with_reducible refine (HLVS.out).mono ?_);rintro e w1 ⟨rfl,hb1⟩;have H1:=Lh hb1;clear hb1)
   obtain ⟨c0,c1,c2⟩:=HCS.out w1 H1.out
   go_upto_region 4 with ((with_reducible refine (HCK.out _ H1.out).mono ?_);rintro e w2 ⟨rfl,hb2⟩;have H2:=Lh (H1.out.trans (hb2.mono H1.out.size));clear hb2)
   clear c0 c1 c2
   obtain ⟨c0,c1,c2⟩:=HCS.out w2 H2.out
   go_wp2_with (first | ((with_reducible refine (HLP.out _ H2.out).mono ?_);rintro e w3 ⟨b,rfl,hb3⟩;have H3:=Lh (H2.out.trans (hb3.mono H2.out.size));have HZ:=Lh (HB.out.trans (H3.out.mono HB.out.size));clear hb3;clear c0 c1 c2;obtain ⟨c0,c1,c2⟩:=HCS.out w3 H3.out) | ((with_reducible refine (HLR.out _ H3.out).mono ?_);rintro e w4 ⟨b2,rfl,rfl⟩) | ((with_reducible refine (HST.out _ H3.out).mono ?_);rintro e w5 ⟨rfl,hb5⟩;have HZ:=Lh (HB.out.trans ((H3.out.trans (hb5.mono H3.out.size)).mono HB.out.size));clear hb5))
   all_goals
     go_ret
     exact ⟨rfl,HZ.out⟩
 have H5000:=Lh (show stepsF p.ops≤5000 by rw [HSTE.out];have:=of_decide_eq_false d5;omega)
 have HH:=Lh (head_ok (check_run HY.out).1)
 obtain ⟨rg,hrg⟩:∃ q:Nat,p.regs=q:=⟨p.regs.toNat,by have:=HH.out.2.1;omega⟩
 have HRG:=Lh hrg
 have hrg64:rg≤64:=by have:=HH.out.1;omega
 have HSL:=Lh (show (spansF p).length=rg by rw [spans_len,hrg];rfl)
 have HBA:=Lh (fun wr (hb:Below W.heap.size W wr) (k:Nat) (hk:k≤16)=>Build_all p Ab Ao nb cb no co rg k wr (HP.out wr hb) HY.out hrg hk (HT.out wr hb))
 have HPC:=Lh (fun wr (hb:Below W.heap.size W wr) (k:Nat) (gl:Nat) (pl:List Int) (hpl:NumsAt wr (fun k=>k < wr.heap.size) (.slice (some ⟨gl,0,none⟩) rg rg) pl)=>Pcheck_any p Ab Ao (some ⟨gl,0,none⟩) nb cb no co rg rg (k:Nat) pl wr (HP.out wr hb) hpl)
 have HRL:=Lh (fun wr (hb:Below W.heap.size W wr)=>RLive_ok p Ab Ao nb cb no co rg wr (HP.out wr hb) HY.out hrg)
 have HOP:=Lh (fun wr (hb:Below W.heap.size W wr)=>OwnProg_any p Ab Ao nb cb no co wr (HP.out wr hb) (by have:=HH.out.2.2.1;omega) (by have:=HH.out.2.2.2.1;omega))
 have HRN:=Lh (fun wr (hb:Below W.heap.size W wr)=>Run_any p Ab Ao A nb cb no co n c wr a (HP.out wr hb) (HA.out wr hb) (fun _=>H5000.out) HX.out (by have:=HH.out.2.2.1;omega))
 have HPK:=Lh (show ∀ wr,Calls Tryd.prog 12 #[.int .i64 pool,.int .i64 17] wr (Picked 17 wr) from fun wr=>Pick_any pool 17 (by decide) (by decide) wr)
 rw [hrg] at HCS HCK HLP HST HBA HPC HRL HOP HRN
 clear hrg
 rw [HRG.out]
 go_enter Tryd.func3,Tryd.ntmps3
 go_upto_region 1 with fail
 rw [←HRG.out,←HW.out]
 go_upto_region 3 with ((with_reducible refine (HLVS.out).mono ?_);rintro e w1 ⟨rfl,hb1⟩;have H1:=Lh hb1;clear hb1)
 obtain ⟨c0,c1,c2⟩:=HCS.out w1 H1.out
 go_upto_region 4 with ((with_reducible refine (HCK.out _ H1.out).mono ?_);rintro e w2 ⟨rfl,hb2⟩;have H2:=Lh (H1.out.trans (hb2.mono H1.out.size));clear hb2)
 clear c0 c1 c2
 obtain ⟨c0,c1,c2⟩:=HCS.out w2 H2.out
 go_upto_region 6 with (first | ((with_reducible refine (HLP.out _ H2.out).mono ?_);rintro e w3 ⟨b,rfl,hb3⟩;have H3:=Lh (H2.out.trans (hb3.mono H2.out.size));have HZ:=Lh (HB.out.trans (H3.out.mono HB.out.size));clear hb3;clear c0 c1 c2;obtain ⟨c0,c1,c2⟩:=HCS.out w3 H3.out) | ((with_reducible refine (HLR.out _ H3.out).mono ?_);rintro e w4 ⟨b2,rfl,rfl⟩) | ((with_reducible refine (HST.out _ H3.out).mono ?_);rintro e w5 ⟨rfl,hb5⟩;have H5:=Lh (H3.out.trans (hb5.mono H3.out.size));clear hb5))
 rotate_left
 · go_ret
   exact ⟨rfl,HZ.out⟩
 · go_ret
   exact ⟨rfl,HZ.out⟩
 clear c0 c1 c2
 go_upto_region 7 with ((with_reducible refine (HPK.out _).mono ?_);rintro e w6 ⟨k,hk,rfl,rfl⟩)
 have hk16:k≤16:=by omega
 obtain ⟨c0,c1,c2⟩:=HCS.out w5 H5.out
 go_upto_region 8 with ((with_reducible refine (HBA.out _ H5.out k hk16).mono ?_);rintro e w6 ⟨gl,ord,rfl,hgl,hperm,hsrt,hE,hb6⟩;have H6:=Lh (H5.out.trans (hb6.mono H5.out.size));have HE:=Lh (And.intro hE (And.intro hperm (And.intro hsrt (And.intro hgl hb6))));clear hE hperm hsrt hgl hb6)
 clear c0 c1 c2
 obtain ⟨pl,hpl⟩:∃ q,q=OF ord (plK (spansF p) ord k) rg (ordTo (spansF p) rg).length:=⟨_,rfl⟩
 have HPL:=Lh (show placesF p (k:Nat) pl=0 by rw [hpl];exact places_ok HY.out HRG.out hk16 HE.out.2.1 HE.out.2.2.1)
 have HPN:=Lh (show pl.length=rg by rw [hpl];exact OF_len)
 have HEA:=Lh (show EndsAt w6 gl pl by rw [hpl];exact HE.out.1)
 have hnum:NumsAt w6 (fun k=>k < w6.heap.size) (.slice (some ⟨gl,0,none⟩) rg rg) pl:=by
   have h:=nums_blk HEA.out
   rw [HPN.out] at h
   exact h.mono fun k hk=>by subst hk;exact lt_of_block HEA.out
 have HPCK:=Lh (HPC.out w6 H6.out k gl pl hnum)
 rw [HPL.out] at HPCK
 obtain ⟨c0,c1,c2⟩:=HCS.out w6 H6.out
 have q0:((rg:Int) !=(rg:Int))=false:=by simp
 have q00:(rg != rg)=false:=by simp
 clear hpl hnum
 go_upto_region 10 with ((with_reducible refine (HPCK.out).mono ?_);rintro e w7 ⟨rfl,hb7⟩;have H7:=Lh (H6.out.trans (hb7.mono H6.out.size));have HB7:=Lh hb7;clear hb7)
 clear c0 c1 c2
 obtain ⟨c0,c1,c2⟩:=HCS.out w7 H7.out
 go_upto_region 11 with ((with_reducible refine (HRL.out _ H7.out).mono ?_);rintro e w8 ⟨gs,rfl,hgs,hL,hb8⟩;have H8:=Lh (H7.out.trans (hb8.mono H7.out.size));have HL:=Lh (And.intro hL hb8);clear hgs hL hb8)
 clear c0 c1 c2
 have hmm:=@run_makeMap Tryd.prog
 go_upto_region 12 with fail
 clear hmm
 obtain ⟨w9,hw9⟩:∃ q,q=w8.alloc (.map #[] 0):=⟨_,rfl⟩
 have HS9:=Lh (show Sep w8 (fun _=>False) w9 [mapR w8.heap.size 0 (.map [])] from by
   have hb:Below w8.heap.size w8 w9:=by rw [hw9];exact (Below.refl _ _).alloc (Nat.le_refl _) _
   exact (Sep.nil w8 _).push (r':=mapR w8.heap.size 0 (.map [])) hb (by rw [hw9];exact World.ownsMap_made w8 _ _ _) (fun k hk=>by
     have:k=w8.heap.size:=hk
     subst this
     rw [hw9]
     exact ⟨Nat.le_refl _,by simp⟩))
 rw [←hw9]
 clear hw9
 have H9:=Lh (show Below W.heap.size W w9 from H8.out.trans (HS9.out.below.mono H8.out.size))
 obtain ⟨c0,c1,c2⟩:=HCS.out w9 H9.out
 go_upto_region 13 with ((with_reducible refine (HOP.out _ H9.out).mono ?_);rintro e w10 ⟨gb,cb',go,co',rfl,hcb,hco,hs10⟩;have HS10:=Lh (And.intro (HS9.out.join hs10) (And.intro hcb hco));clear hcb hco hs10)
 clear c0 c1 c2
 obtain ⟨w11,hw11⟩:∃ q,q=w10.alloc (.cells #[.int .i64 rg,.slice (some ⟨gb,0,none⟩) nb cb',.slice (some ⟨go,0,none⟩) no co'] 25):=⟨_,rfl⟩
 have HS11:=Lh ((HS10.out.1.box 25 [.int .i64 rg,.slice (some ⟨gb,0,none⟩) nb cb',.slice (some ⟨go,0,none⟩) no co']).cast hw11)
 rw [←hw11]
 clear hw11
 have e1:=HS11.out.cell 0 0 rfl rfl
 have e2:=HS11.out.frozen 0 0 rfl
 go_upto_region 14 with fail
 clear e1 e2
 obtain ⟨w12,hw12⟩:∃ q,q=w11.setCell ⟨w10.heap.size,0,none⟩ (.int .i64 0):=⟨_,rfl⟩
 have HS12:=Lh ((HS11.out.setCell 0 rfl 0 (.int .i64 ((0:Nat):Int)) rfl).cast hw12)
 rw [←hw12]
 clear hw12
 have hmk:=make_ints rg (by omega) w12
 obtain ⟨c0,_,_⟩:=HCS.out w12 (H8.out.trans (HS12.out.below.mono H8.out.size))
 go_upto_region 15 with fail
 clear hmk c0
 obtain ⟨w13,hw13⟩:∃ q,q=w12.alloc (.cells (intV (List.replicate rg 0)).toArray 3):=⟨_,rfl⟩
 have HS13:=Lh ((HS12.out.box 3 (intV (List.replicate rg 0))).cast hw13)
 rw [←hw13]
 clear hw13
 obtain ⟨bt,hbt⟩:∃ q,w12.heap.size=q:=⟨_,rfl⟩
 obtain ⟨bq,hbq⟩:∃ q,w10.heap.size=q:=⟨_,rfl⟩
 obtain ⟨bm,hbm⟩:∃ q,w8.heap.size=q:=⟨_,rfl⟩
 rw [hbt,hbq,hbm] at HS13
 rw [hbt,hbq,hbm]
 have HSP:=Lh (show Sep w8 (fun _=>False) w13 [mapR bm 0 (.map []),boxR bq 25 [.int .i64 ((0:Nat):Int),.slice (some ⟨gb,0,none⟩) nb cb',.slice (some ⟨go,0,none⟩) no co'],boxR bt 3 (intV (List.replicate rg 0)),rowsR go 47 8 (p.ops.map opRow),rowsR gb 60 3 (p.bufs.map bufRow)] from
   HS13.out.perm (perm5 _ _ _ _ _))
 have HBW8:=Lh (show bm=w8.heap.size from hbm.symm)
 clear hbt hbq hbm
 go_wp2
 refine wp_code (c:=partL Tryd.f3 0) (by kernel_rfl) ?_
 refine runs_l0 (w0:=w8) (sp:=spansF p) (pl:=pl) _ _ HSP.out HL.out.1 ((HB7.out.trans (HL.out.2.mono HB7.out.size)).block gl (lt_of_block HEA.out) |>.trans HEA.out) (HCS.out w8 H8.out).1 ⟨lt_of_block HL.out.1,Nat.lt_of_lt_of_le (lt_of_block HEA.out) (Nat.le_trans HB7.out.size HL.out.2.size),Nat.lt_of_lt_of_le HLT.out H8.out.size⟩ HSL.out HPN.out hrg64 (bad_of HPL.out HY.out) ?_
 intro D N m tl pQ pZ p3 i8 i9 jA jB jC jD jE jF jG jH jI jJ jK jL jM jO jP jQ jR jS jT jU jV jW jX jY jZ j5 j6 j7 j8 j9 kF kG kH kI kJ kK kL kN kO kP kQ w14 hs14 hnm
 have HS14:=Lh hs14
 have HNM:=Lh (show NmI (spansF p) pl (spansF p).length N m tl by rw [HSL.out];exact hnm)
 clear hs14 hnm
 go_wp2
 refine wp_code (c:=partL Tryd.f3 2) (by kernel_rfl) ?_
 have HNO:=Lh (show p.ops.length=no∧p.bufs.length=nb by
   obtain ⟨vb,vo,h,h1,h2⟩:=(HP.out W (Below.refl _ _)).row
   simp only [List.cons.injEq] at h
   rw [←h.2.1] at h1
   rw [←h.2.2.1] at h2
   obtain ⟨A1,c1,hv1,_⟩:=rows_form h1
   obtain ⟨A2,c2,hv2,_⟩:=rows_form h2
   refine ⟨?_,?_⟩
   · cases hv2;simp
   · cases hv1;simp)
 refine runs_l2 (w0:=w8) (p:=p) (tl:=tl) (n:=rg) (m:=m) _ _ HS14.out HNO.out.1 (by rw [HNM.out.len,HSL.out]) ⟨HRG.out,HNM.out.pos⟩ HY.out ?_
 intro pE pF kR kS kT kU m5 m6 m7 m8 oB oC oD oE oF oG oH oI oJ oK oL oM oN oO oP oQ oS oT oU oV nB nC nD nE nF nG nH nI nJ nK nL nM nN nO nP w15 hs15
 have HS15:=Lh hs15
 have H15:=Lh (show Below W.heap.size W w15 from H8.out.trans (hs15.below.mono H8.out.size))
 clear hs15
 obtain ⟨c0,c1,c2⟩:=HCS.out w15 H15.out
 go_upto_region 30 with ((with_reducible refine (HRN.out _ H15.out).mono ?_);rintro e w16 ⟨x1,x2,g1,out1,rfl,hb16,hr16,ho16⟩;have HR16:=Lh (And.intro hr16 ho16);have HB16:=Lh hb16;clear hb16 hr16 ho16)
 clear c0 c1 c2
 have HS16:=Lh (HS15.out.next HB16.out)
 have H16:=Lh (show Below W.heap.size W w16 from H15.out.trans (HB16.out.mono H15.out.size))
 obtain ⟨q,hq⟩:∃ q,q=renP p (nmOf tl) m:=⟨_,rfl⟩
 have HQ:=Lh hq
 have HQP:=Lh (show ∀ wr,Below w16.heap.size w16 wr→ProgAt wr (fun k=>k < wr.heap.size) [.int .i64 q.regs,.slice (some ⟨gb,0,none⟩) nb cb',.slice (some ⟨go,0,none⟩) no co'] q from fun wr hb=>by
   have hs:=HS16.out.next hb
   rw [hq]
   refine ⟨⟨_,_,rfl,rows_blk (hs.get 4 rfl) (by rw [List.length_map];exact HNO.out.2) HS10.out.2.1,rows_blk (hs.get 3 rfl) (by rw [List.length_map];show (p.ops.map (renF (nmOf tl))).length=no;rw [List.length_map];exact HNO.out.1) HS10.out.2.2⟩,HIMM.out.2.2.1,by simpa [renP] using HIMM.out.2.2.2,fun o ho=>?_,HIMM.out.2.1⟩
   obtain ⟨o',ho',rfl⟩:=List.mem_map.1 ho
   exact HIMM.out.1 o' ho')
 have HRN2:=Lh (show Calls Tryd.prog 18 #[.agg #[.int .i64 q.regs,.slice (some ⟨gb,0,none⟩) nb cb',.slice (some ⟨go,0,none⟩) no co'],.slice A n c] w16 (RunSays w16 q a) from
   Run_any q (some ⟨gb,0,none⟩) (some ⟨go,0,none⟩) A nb cb' no co' n c w16 a (HQP.out w16 (Below.refl _ _)) (HA.out w16 H16.out) (fun _=>by rw [hq];show stepsF (p.ops.map (renF (nmOf tl)))≤5000;rw [steps_ren];exact H5000.out) HX.out (by rw [hq];show p.bufs.length≤1000000;have:=HH.out.2.2.1;omega))
 have hqr:q.regs=(m:Int):=by rw [hq];rfl
 have HCQ:=Lh (fun wr (hb:Below w16.heap.size w16 wr)=>HCKA.out q (some ⟨gb,0,none⟩) (some ⟨go,0,none⟩) nb cb' no co' wr (HQP.out wr hb))
 rw [hqr] at HRN2 HCQ
 obtain ⟨z1,hz1⟩:∃ z,(checkF q 64).1=z:=⟨_,rfl⟩
 obtain ⟨z2,hz2⟩:∃ z,(checkF q 64).2=z:=⟨_,rfl⟩
 rw [hz1,hz2] at HCQ
 have HZ2:=Lh hz2
 have e0:=HS16.out.cell 1 0 rfl rfl
 have e1:=HS16.out.cell 1 1 rfl rfl
 have e2:=HS16.out.cell 1 2 rfl rfl
 clear hq hqr hz1 hz2
 go_upto_region 31 with ((with_reducible refine (HRN2.out).mono ?_);rintro e w17 ⟨x3,x4,g2,out2,rfl,hb17,hr17,ho17⟩;have HR17:=Lh (And.intro hr17 ho17);have HB17:=Lh hb17;clear hb17 hr17 ho17)
 clear e0 e1 e2
 have HS17:=Lh (HS16.out.next HB17.out)
 have e0:=HS17.out.cell 1 0 rfl rfl
 have e1:=HS17.out.cell 1 1 rfl rfl
 have e2:=HS17.out.cell 1 2 rfl rfl
 go_upto_region 32 with ((with_reducible refine (HCQ.out _ HB17.out).mono ?_);rintro e w18 ⟨rfl,hb18⟩;have HB18:=Lh hb18;clear hb18)
 clear e0 e1 e2
 have HEND:=Lh (show Below w.heap.size w w18 from HB.out.trans ((H16.out.trans ((HB17.out.trans (HB18.out.mono HB17.out.size)).mono H16.out.size)).mono HB.out.size))
 by_cases hz:z2=0
 rotate_left
 · have d0:(z2 != 0)=true:=by simpa using hz
   clear hz
   go_wp2
   go_ret
   exact ⟨rfl,HEND.out⟩
 subst hz
 obtain ⟨hg12,ho12⟩:=run_same HY.out (HNM.out.ren HPL.out HY.out) (by rw [←HQ.out];exact HZ2.out) HR16.out.2 (by rw [←HQ.out];exact HR17.out.2)
 subst hg12 ho12
 have hsm:=out_small HR16.out.2 HIMM.out.1 HX.out
 have r1:=((HR16.out.1.next HB17.out).next HB18.out)
 have r2:=(HR17.out.1.next HB18.out)
 obtain ⟨A1,d1,hx1,_⟩:=r1.form
 obtain ⟨A2,d2,hx3,_⟩:=r2.form
 subst hx1 hx3
 have HRW:=Lh (RowsU_self A1 A2 out1.length d1 d2 w18 out1 hsm.1 hsm.2 r1 r2)
 have dg:(g1 == g1)=true:=by simp
 clear r1 r2 hsm
 go_wp2_with ((with_reducible refine (HRW.out).mono ?_);rintro e w19 ⟨rfl,hb19⟩;have H19:=Lh (HEND.out.trans (hb19.mono HEND.out.size));clear hb19)
 go_ret
 exact ⟨rfl,H19.out⟩
end Go.Proofs.YtppoiahhaclleaaDoor
