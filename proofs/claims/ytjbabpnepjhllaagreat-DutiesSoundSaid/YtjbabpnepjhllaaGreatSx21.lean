/- Part 21 of a claim; what it proves stands in its last text. -/
import Derived.Test.YtjbabpnepjhllaaGreatSx20
import Derived.Test.YtjbabpnepjhllaaGreatSx16
import Derived.Test.YtjbabpnepjhllaaGreatSx17
namespace Go.Proofs.YtjbabpnepjhllaaGreat
open Go.RowKit
set_option maxRecDepth 100000
variable {aD aF aG aH aI aJ aL aN aO aP aQ aR aS aT aU aV aW aX aY aZ a7 a8 bA bB bC bD bE u32 bF bG bH bI bJ bK bL bM bN bO bP bQ bR bS bT bU bV bW bX bY bZ b9 cA cB cC cD cE cF cG cH cI u64 cJ cK cL cM cN cO cP cQ cR cS cT cU cV cW cX cY cZ dA dB dC dD dE dF dG dH dI dJ dK dL dM dN dO dP dQ dR dS dT dU dV dW dX dY dZ eA eB eC eD eE fV fW fX fY fZ f7 f8 f9 gA gB gC gD gE gF gG gH gI gJ gK gL gM gN gO gP gQ jU jV kY kZ lA lB lC lD lE lF lG lH lI lJ lK lL lM lN lO lP lQ lR lS lT lU lV lW lX lY lZ l5 l6 l7 l8 l9 mA mB mC mD mE mF mG mH mI mJ mK mL mM mN mO mP mQ mR mS mT mU mV mW mX mY mZ m5 m6 m7 m8 m9 nA nB nC nD nE nF nG nH nI nJ nK nL nM nN nO nP nQ nR nS nT nU nV nW nX nY nZ n0 oA oB oC oD oE oF oG oH oI oJ oK oL oM oN oO oP : Value}
theorem one_ranges {vs:List KVar} {o:KOp} (h:oneK vs o=true):(o.d < (vs.length:Int)∧o.e < (vs.length:Int)∧o.a < (vs.length:Int)∧o.b < (vs.length:Int)∧o.c < (vs.length:Int))∧(o.kind=14→0≤o.d∧0≤o.e):=by
 by_cases h17:o.kind=17
 · unfold oneK at h
   rw [if_pos h17] at h
   have h1:=need_in h
   unfold needK at h
   simp only [Bool.and_eq_true,beq_iff_eq] at h
   refine ⟨?_,fun h14=>by omega⟩
   omega
 · unfold oneK at h
   rw [if_neg h17] at h
   simp only [Bool.and_eq_true] at h
   have hp:=h.2.2.2.1
   unfold partsK at hp
   simp only [Bool.and_eq_true] at hp
   have h1:=part_in hp.1
   have h2:=part_in hp.2.1
   have h3:=part_in hp.2.2.1
   have h4:=part_in hp.2.2.2.1
   have h5:=part_in hp.2.2.2.2
   refine ⟨by omega,fun h14=>?_⟩
   rw [show kHasD o.kind=true by rw [h14];rfl] at h1
   rw [show kHasE o.kind=true by rw [h14];rfl] at h2
   simp only [Bool.true_eq_false,false_and,or_false] at h1 h2
   omega
theorem step_lack {vs:List KVar} {o:KOp} {made:List Bool} {d:Int} (h:lackF made o=true):opStep vs o (made,d)=none:=by
 unfold opStep
 split
 · rfl
 · exact if_pos h
theorem step_one {vs:List KVar} {o:KOp} {made:List Bool} {d:Int} (h:oneK vs o=false):opStep vs o (made,d)=none:=by
 unfold opStep
 rw [if_pos h]
theorem step_yes {vs:List KVar} {o:KOp} {made:List Bool} {d d':Int} (h1:oneK vs o=true) (h2:lackF made o=false) (hd:(if o.kind=15 then d+1 else if o.kind=16 then d - 1 else d)=d'):opStep vs o (made,d)=if d' < 0∨4 < d' then none else some (madeK made o,d'):=by
 unfold opStep
 rw [if_neg (by rw [h1];simp),if_neg (by show ¬ (lackF made o=true);rw [h2];simp)]
 rw [show madeK made o=(if 0≤o.d then made.set o.d.toNat true else made) by unfold madeK;rw [if_neg (by rw [h2];simp)]]
 subst hd
 rfl
set_option maxHeartbeats 20000000 in
theorem rchk_b6 {Av Ao Ar:Option Addr} {nv cv no co nr cr b0 gm:Nat} {k:Krn} {w0:World} (w:World) (Q:Exit→Act→World→Prop) (hk:KBox w0 b0 Av nv cv Ao no co Ar nr cr k) (hok:k.vars.length≤100000∧k.ops.length≤4096) (hm:MadeR w0 w gm nv (k.vars.map givenK))
   (k1:∀ (made:List Bool) (d:Int),opTo k.vars k.ops k.ops.length=some (made,d)→∀ (iE qU qV qW qX qY qZ q5 q6 q7 q8 rA rB rC rD rE rF rG rH rI rJ rK rL rM rN rO rP rQ rR rS rT rU rV rW rX rY rZ r4 r5 r6 r7 r8 r9 sA sB sC sD:Value) (w':World),MadeR w0 w' gm nv made→Q ((.exit 6)) ⟨#[aD,.pointer (some ⟨b0,0,none⟩),.int .i64 0,aF,aG,aH,aI,aJ,.int .i64 d,.slice (some ⟨gm,0,none⟩) nv nv,aL,iE,aN,aO,aP,aQ,aR,aS,aT,aU,aV,aW,aX,aY,aZ,a7,a8,bA,bB,bC,bD,bE,u32,bF,bG,bH,bI,bJ,bK,bL,bM,bN,bO,bP,bQ,bR,bS,bT,bU,bV,bW,bX,bY,bZ,b9,cA,cB,cC,cD,cE,cF,cG,cH,cI,u64,cJ,cK,cL,cM,cN,cO,cP,cQ,cR,cS,cT,cU,cV,cW,cX,cY,cZ,dA,dB,dC,dD,dE,dF,dG,dH,dI,dJ,dK,dL,dM,dN,dO,dP,dQ,dR,dS,dT,dU,dV,dW,dX,dY,dZ,eA,eB,eC,eD,eE,fV,fW,fX,fY,fZ,f7,f8,f9,gA,gB,gC,gD,gE,gF,gG,gH,gI,gJ,gK,gL,gM,gN,gO,gP,gQ,jU,jV,kY,kZ,lA,lB,lC,lD,lE,lF,lG,lH,lI,lJ,lK,lL,lM,lN,lO,lP,lQ,lR,lS,lT,lU,lV,lW,lX,lY,lZ,l5,l6,l7,l8,l9,mA,mB,mC,mD,mE,qU,qV,qW,qX,qY,qZ,q5,q6,q7,q8,rA,rB,rC,rD,rE,rF,rG,rH,rI,rJ,rK,rL,rM,rN,rO,rP,rQ,rR,rS,rT,rU,rV,rW,rX,rY,rZ,r4,r5,r6,r7,r8,r9,sA,sB,sC,sD,nU,nV,nW,nX,nY,nZ,n0,oA,oB,oC,oD,oE,oF,oG,oH,oI,oJ,oK,oL,oM,oN,oO,oP],[]⟩ w') (k2:opTo k.vars k.ops k.ops.length=none→∀ (gX iE qU qV qW qX qY qZ q5 q6 q7 q8 rA rB rC rD rE rF rG rH rI rJ rK rL rM rN rO rP rQ rR rS rT rU rV rW rX rY rZ r4 r5 r6 r7 r8 r9 sA sB sC sD:Value) (w':World),Below w0.heap.size w0 w'→Q (.ret) ⟨#[aD,.pointer (some ⟨b0,0,none⟩),.int .i64 2,aF,aG,aH,aI,aJ,gX,.slice (some ⟨gm,0,none⟩) nv nv,aL,iE,aN,aO,aP,aQ,aR,aS,aT,aU,aV,aW,aX,aY,aZ,a7,a8,bA,bB,bC,bD,bE,u32,bF,bG,bH,bI,bJ,bK,bL,bM,bN,bO,bP,bQ,bR,bS,bT,bU,bV,bW,bX,bY,bZ,b9,cA,cB,cC,cD,cE,cF,cG,cH,cI,u64,cJ,cK,cL,cM,cN,cO,cP,cQ,cR,cS,cT,cU,cV,cW,cX,cY,cZ,dA,dB,dC,dD,dE,dF,dG,dH,dI,dJ,dK,dL,dM,dN,dO,dP,dQ,dR,dS,dT,dU,dV,dW,dX,dY,dZ,eA,eB,eC,eD,eE,fV,fW,fX,fY,fZ,f7,f8,f9,gA,gB,gC,gD,gE,gF,gG,gH,gI,gJ,gK,gL,gM,gN,gO,gP,gQ,jU,jV,kY,kZ,lA,lB,lC,lD,lE,lF,lG,lH,lI,lJ,lK,lL,lM,lN,lO,lP,lQ,lR,lS,lT,lU,lV,lW,lX,lY,lZ,l5,l6,l7,l8,l9,mA,mB,mC,mD,mE,qU,qV,qW,qX,qY,qZ,q5,q6,q7,q8,rA,rB,rC,rD,rE,rF,rG,rH,rI,rJ,rK,rL,rM,rN,rO,rP,rQ,rR,rS,rT,rU,rV,rW,rX,rY,rZ,r4,r5,r6,r7,r8,r9,sA,sB,sC,sD,nU,nV,nW,nX,nY,nZ,n0,oA,oB,oC,oD,oE,oF,oG,oH,oI,oJ,oK,oL,oM,oN,oO,oP],[]⟩ w'):(partL Tryz.f11 6).wp Tryz.prog Q ⟨#[aD,.pointer (some ⟨b0,0,none⟩),.int .i64 0,aF,aG,aH,aI,aJ,.int .i64 0,.slice (some ⟨gm,0,none⟩) nv nv,aL,.int .i64 0,aN,aO,aP,aQ,aR,aS,aT,aU,aV,aW,aX,aY,aZ,a7,a8,bA,bB,bC,bD,bE,u32,bF,bG,bH,bI,bJ,bK,bL,bM,bN,bO,bP,bQ,bR,bS,bT,bU,bV,bW,bX,bY,bZ,b9,cA,cB,cC,cD,cE,cF,cG,cH,cI,u64,cJ,cK,cL,cM,cN,cO,cP,cQ,cR,cS,cT,cU,cV,cW,cX,cY,cZ,dA,dB,dC,dD,dE,dF,dG,dH,dI,dJ,dK,dL,dM,dN,dO,dP,dQ,dR,dS,dT,dU,dV,dW,dX,dY,dZ,eA,eB,eC,eD,eE,fV,fW,fX,fY,fZ,f7,f8,f9,gA,gB,gC,gD,gE,gF,gG,gH,gI,gJ,gK,gL,gM,gN,gO,gP,gQ,jU,jV,kY,kZ,lA,lB,lC,lD,lE,lF,lG,lH,lI,lJ,lK,lL,lM,lN,lO,lP,lQ,lR,lS,lT,lU,lV,lW,lX,lY,lZ,l5,l6,l7,l8,l9,mA,mB,mC,mD,mE,mF,mG,mH,mI,mJ,mK,mL,mM,mN,mO,mP,mQ,mR,mS,mT,mU,mV,mW,mX,mY,mZ,m5,m6,m7,m8,m9,nA,nB,nC,nD,nE,nF,nG,nH,nI,nJ,nK,nL,nM,nN,nO,nP,nQ,nR,nS,nT,nU,nV,nW,nX,nY,nZ,n0,oA,oB,oC,oD,oE,oF,oG,oH,oI,oJ,oK,oL,oM,oN,oO,oP],[]⟩ w:=by
 have HK:=Lh hk
 have HM:=Lh hm
 have K1:=Lh k1
 have K2:=Lh k2
 have HNV:=Lh hk.nv.1
 have HNO2:=Lh hk.nv.2.1
 have n5:nv≤100000:=by have:=hk.nv.1;omega
 have n6:no≤4096:=by have:=hk.nv.2.1;omega
 clear hk hok k1 k2 hm
 conv=>arg 2;whnf
 go_wp2
 go_loopw [2,8,11] (fun s2 s8 s11 wr=>∃ (j:Nat) (made:List Bool) (d:Int),j≤no∧s11=.int .i64 (j:Nat)∧s8=.int .i64 d∧s2=.int .i64 0∧Hid (opTo k.vars k.ops j=some (made,d))∧MadeR w0 wr gm nv made∧(0≤d∧d≤4)) (fun _ _ s11 _=>no - (intOf s11).toNat)
 case atStart=>exact ⟨0,_,0,by omega,rfl,rfl,rfl,Lh rfl,HM.out,by omega⟩
 case round =>
   obtain ⟨j,made,d,hj,rfl,rfl,rfl,HT,hm,hd⟩:=hrel
   have HMR:=Lh hm
   have hkr:=HK.out.next hm.below
   have p0:=hkr.c0
   have p1:=hkr.c1
   have p2:=hkr.c2
   by_cases hlt:j < no
   · have d1:decide (j < no)=true:=decide_eq_true hlt
     obtain ⟨o,hx⟩:∃ v,k.ops[j]? = some v:=⟨_,List.getElem?_eq_getElem (by have:=HNO2.out;omega)⟩
     have HNX:=Lh (opTo_next' HT.out hx)
     have HNO:=Lh (show opTo k.vars k.ops (j+1)=none→opTo k.vars k.ops k.ops.length=none from fun h=>opTo_none h _ (by have:=HNO2.out;omega))
     obtain ⟨g,off,hA,hg,x0,x1,x2,x3,x4,x5,x6⟩:=HK.out.ops.at_ hx
     have HFA:=Lh (show ∀ w_,Below w0.heap.size w0 w_→(w_.cell? ⟨b0,0,none⟩=some (.slice Av nv cv)∧w_.cell? ⟨b0,1,none⟩=some (.slice Ao no co)∧w_.cell? ⟨b0,2,none⟩=some (.slice Ar nr cr))∧(w_.cell? ⟨g,off+j*7,none⟩=some (.int .i64 o.kind)∧w_.cell? ⟨g,off+j*7+1,none⟩=some (.int .i64 o.d)∧w_.cell? ⟨g,off+j*7+2,none⟩=some (.int .i64 o.e)∧w_.cell? ⟨g,off+j*7+3,none⟩=some (.int .i64 o.a)∧w_.cell? ⟨g,off+j*7+4,none⟩=some (.int .i64 o.b)∧w_.cell? ⟨g,off+j*7+5,none⟩=some (.int .i64 o.c)∧w_.cell? ⟨g,off+j*7+6,none⟩=some (.int .u64 o.imm)) from fun w_ h =>
       ⟨⟨(HK.out.next h).c0,(HK.out.next h).c1,(HK.out.next h).c2⟩,(h.cell (p:=⟨g,off+j*7,none⟩) hg).trans x0,(h.cell (p:=⟨g,off+j*7+1,none⟩) hg).trans x1,(h.cell (p:=⟨g,off+j*7+2,none⟩) hg).trans x2,(h.cell (p:=⟨g,off+j*7+3,none⟩) hg).trans x3,(h.cell (p:=⟨g,off+j*7+4,none⟩) hg).trans x4,(h.cell (p:=⟨g,off+j*7+5,none⟩) hg).trans x5,(h.cell (p:=⟨g,off+j*7+6,none⟩) hg).trans x6⟩)
     subst hA
     have HONE:=Lh (fun (w1:World) (h1:Below w0.heap.size w0 w1)=>rone_any Av nv cv k.vars o w1 _ (HK.out.next h1).vars (fun k hk=>hk) (by have:=HNV.out;omega))
     have i0:(0:Int)≤(j:Int):=by omega
     have i1:(j:Int) < (no:Int):=by omega
     have i2:IntKind.i64.wrap (j:Int)=j:=by rw [IntKind.wrap_i64];omega
     clear hm hg hx hkr x0 x1 x2 x3 x4 x5 x6
     go_upto_region 29 with (first | go_in)
     clear p0 p1 p2
     have hS:Below w0.heap.size w0 wr.drew:=HMR.out.below.drew
     cases hok:oneK k.vars o
     · have HN:=Lh (show opTo k.vars k.ops (j+1)=none by rw [HNX.out];exact step_one hok)
       rw [hok] at HONE
       clear hok
       (refine wp_region_lines (Below w0.heap.size w0) (by kernel_rfl) (by kernel_rfl) (HMR.out.below.drew) ?_)
       (try simp only [])
       repeat (first | (refine runL_no (by rfl) ?_;(try simp only [Act.put,List.setIfInBounds_toArray,List.set_cons_zero,List.set_cons_succ])) | (refine runL_val (v:=?_) (by rfl) ?_ ?_;rotate_left;(focus (intro w_ hw_;obtain ⟨⟨f0_,f1_,f2_⟩,f3_,f4_,f5_,f6_,f7_,f8_,f9_⟩:=HFA.out w_ hw_;go_simp;(try with_reducible rfl);done));(try simp only [Act.put,List.setIfInBounds_toArray,List.set_cons_zero,List.set_cons_succ])) | (refine runL_call (f:=?_) (args:=?_) (w1:=?_) (by rfl) (by rfl) ?_ ?_;rotate_left 3;(focus (go_simp;refine ⟨⟨?_,?_⟩,?_⟩ <;> with_reducible rfl));(with_reducible refine (HONE.out _ hS).mono ?_);rintro e w5 ⟨rfl,hb5⟩;replace hS:=hS.trans (hb5.mono hS.size);clear hb5;refine ⟨_,rfl,.inr hS,?_⟩;(try simp only [Act.put,List.setIfInBounds_toArray,List.set_cons_zero,List.set_cons_succ])))
       (refine runL_nil ?_)
       go_wp2
       exact K2.out (HNO.out HN.out) _ _ _ _ _ _ _ _ _ _ _ _ _ _ _ _ _ _ _ _ _ _ _ _ _ _ _ _ _ _ _ _ _ _ _ _ _ _ _ _ _ _ _ _ _ _ _ _ _ hS
     have hrg:=one_ranges hok
     rw [←HNV.out] at hrg
     have HMK:=Lh (fun (w5:World) (h5:MadeR w0 w5 gm nv made)=>makes_any gm nv made o w0 w5 h5 hrg.1 hrg.2 n5)
     have HOK:=Lh hok
     rw [hok] at HONE
     clear hok hrg
     have hm0:MadeR w0 wr.drew gm nv made:=HMR.out.next (Below.refl _ _).drew
     cases hlk:lackF made o
     rotate_left
     · have HN:=Lh (show opTo k.vars k.ops (j+1)=none by rw [HNX.out];exact step_lack hlk)
       rw [hlk] at HMK
       clear hlk
       (refine wp_region_lines (Below w0.heap.size w0) (by kernel_rfl) (by kernel_rfl) (HMR.out.below.drew) ?_)
       (try simp only [])
       repeat (first | (refine runL_no (by rfl) ?_;(try simp only [Act.put,List.setIfInBounds_toArray,List.set_cons_zero,List.set_cons_succ])) | (refine runL_val (v:=?_) (by rfl) ?_ ?_;rotate_left;(focus (intro w_ hw_;obtain ⟨⟨f0_,f1_,f2_⟩,f3_,f4_,f5_,f6_,f7_,f8_,f9_⟩:=HFA.out w_ hw_;go_simp;(try with_reducible rfl);done));(try simp only [Act.put,List.setIfInBounds_toArray,List.set_cons_zero,List.set_cons_succ])) | (refine runL_call (f:=?_) (args:=?_) (w1:=?_) (by rfl) (by rfl) ?_ ?_;rotate_left 3;(focus (go_simp;refine ⟨⟨?_,?_⟩,?_⟩ <;> with_reducible rfl));(with_reducible refine (HONE.out _ hS).mono ?_);rintro e w5 ⟨rfl,hb5⟩;replace hS:=hS.trans (hb5.mono hS.size);have HM5:=Lh (hm0.next hb5);clear hb5;refine ⟨_,rfl,.inr hS,?_⟩;(try simp only [Act.put,List.setIfInBounds_toArray,List.set_cons_zero,List.set_cons_succ])) | (refine runL_call (f:=?_) (args:=?_) (w1:=?_) (by rfl) (by rfl) ?_ ?_;rotate_left 3;(focus (go_simp;refine ⟨⟨?_,?_⟩,?_⟩ <;> with_reducible rfl));(with_reducible refine (HMK.out _ HM5.out).mono ?_);rintro e w6 ⟨rfl,hm6⟩;have HM6:=Lh hm6;replace hS:=hm6.below;clear hm6;refine ⟨_,rfl,.inr hS,?_⟩;(try simp only [Act.put,List.setIfInBounds_toArray,List.set_cons_zero,List.set_cons_succ])))
       (refine runL_nil ?_)
       go_wp2
       exact K2.out (HNO.out HN.out) _ _ _ _ _ _ _ _ _ _ _ _ _ _ _ _ _ _ _ _ _ _ _ _ _ _ _ _ _ _ _ _ _ _ _ _ _ _ _ _ _ _ _ _ _ _ _ _ _ hS
     have HLK:=Lh hlk
     rw [hlk] at HMK
     clear hlk
     (refine wp_region_lines (Below w0.heap.size w0) (by kernel_rfl) (by kernel_rfl) (HMR.out.below.drew) ?_)
     (try simp only [])
     repeat (first | (refine runL_no (by rfl) ?_;(try simp only [Act.put,List.setIfInBounds_toArray,List.set_cons_zero,List.set_cons_succ])) | (refine runL_val (v:=?_) (by rfl) ?_ ?_;rotate_left;(focus (intro w_ hw_;obtain ⟨⟨f0_,f1_,f2_⟩,f3_,f4_,f5_,f6_,f7_,f8_,f9_⟩:=HFA.out w_ hw_;go_simp;(try with_reducible rfl);done));(try simp only [Act.put,List.setIfInBounds_toArray,List.set_cons_zero,List.set_cons_succ])) | (refine runL_call (f:=?_) (args:=?_) (w1:=?_) (by rfl) (by rfl) ?_ ?_;rotate_left 3;(focus (go_simp;refine ⟨⟨?_,?_⟩,?_⟩ <;> with_reducible rfl));(with_reducible refine (HONE.out _ hS).mono ?_);rintro e w5 ⟨rfl,hb5⟩;replace hS:=hS.trans (hb5.mono hS.size);have HM5:=Lh (hm0.next hb5);clear hb5;refine ⟨_,rfl,.inr hS,?_⟩;(try simp only [Act.put,List.setIfInBounds_toArray,List.set_cons_zero,List.set_cons_succ])) | (refine runL_call (f:=?_) (args:=?_) (w1:=?_) (by rfl) (by rfl) ?_ ?_;rotate_left 3;(focus (go_simp;refine ⟨⟨?_,?_⟩,?_⟩ <;> with_reducible rfl));(with_reducible refine (HMK.out _ HM5.out).mono ?_);rintro e w6 ⟨rfl,hm6⟩;have HM6:=Lh hm6;replace hS:=hm6.below;clear hm6;refine ⟨_,rfl,.inr hS,?_⟩;(try simp only [Act.put,List.setIfInBounds_toArray,List.set_cons_zero,List.set_cons_succ])))
     (refine runL_nil ?_)
     obtain ⟨⟨p0,p1,p2⟩,x0,x1,x2,x3,x4,x5,x6⟩:=HFA.out _ hS
     clear hS hm0
     by_cases h15:o.kind=15
     · have e15:(o.kind == 15)=true:=by rw [beq_iff_eq];exact h15
       have hw1:IntKind.i64.wrap (d+1)=d+1:=by rw [IntKind.wrap_i64];omega
       have HS:=Lh (show opTo k.vars k.ops (j+1)=_ from HNX.out.trans (step_yes (d':=d+1) HOK.out HLK.out (by rw [if_pos h15])))
       clear h15
       cases g1:decide ((d+1) < 0)
       rotate_left
       · have HN:=Lh (show opTo k.vars k.ops (j+1)=none by rw [HS.out,if_pos (.inl (of_decide_eq_true g1))])
         go_wp2
         exact K2.out (HNO.out HN.out) _ _ _ _ _ _ _ _ _ _ _ _ _ _ _ _ _ _ _ _ _ _ _ _ _ _ _ _ _ _ _ _ _ _ _ _ _ _ _ _ _ _ _ _ _ _ _ _ _ HM6.out.below
       cases g2:decide (4 < (d+1))
       rotate_left
       · have HN:=Lh (show opTo k.vars k.ops (j+1)=none by rw [HS.out,if_pos (.inr (of_decide_eq_true g2))])
         go_wp2
         exact K2.out (HNO.out HN.out) _ _ _ _ _ _ _ _ _ _ _ _ _ _ _ _ _ _ _ _ _ _ _ _ _ _ _ _ _ _ _ _ _ _ _ _ _ _ _ _ _ _ _ _ _ _ _ _ _ HM6.out.below
       have HN:=Lh (show opTo k.vars k.ops (j+1)=some (madeK made o,(d+1)) by rw [HS.out,if_neg (by have:=of_decide_eq_false g1;have:=of_decide_eq_false g2;omega)])
       have HD:=Lh (show 0≤(d+1)∧(d+1)≤4 by have:=of_decide_eq_false g1;have:=of_decide_eq_false g2;omega)
       go_wp2
       go_roundw
       case rel=>exact ⟨j+1,madeK made o,(d+1),hlt,by go_num,rfl,rfl,HN,HM6.out,HD.out⟩
       case measure=>simp [intOf];omega
     have e15:(o.kind == 15)=false:=beq_eq_false_iff_ne.2 h15
     by_cases h16:o.kind=16
     · have e16:(o.kind == 16)=true:=by rw [beq_iff_eq];exact h16
       have hw1:IntKind.i64.wrap (d - 1)=d - 1:=by rw [IntKind.wrap_i64];omega
       have HS:=Lh (show opTo k.vars k.ops (j+1)=_ from HNX.out.trans (step_yes (d':=d - 1) HOK.out HLK.out (by rw [if_neg h15,if_pos h16])))
       clear h15 h16
       cases g1:decide ((d - 1) < 0)
       rotate_left
       · have HN:=Lh (show opTo k.vars k.ops (j+1)=none by rw [HS.out,if_pos (.inl (of_decide_eq_true g1))])
         go_wp2
         exact K2.out (HNO.out HN.out) _ _ _ _ _ _ _ _ _ _ _ _ _ _ _ _ _ _ _ _ _ _ _ _ _ _ _ _ _ _ _ _ _ _ _ _ _ _ _ _ _ _ _ _ _ _ _ _ _ HM6.out.below
       cases g2:decide (4 < (d - 1))
       rotate_left
       · have HN:=Lh (show opTo k.vars k.ops (j+1)=none by rw [HS.out,if_pos (.inr (of_decide_eq_true g2))])
         go_wp2
         exact K2.out (HNO.out HN.out) _ _ _ _ _ _ _ _ _ _ _ _ _ _ _ _ _ _ _ _ _ _ _ _ _ _ _ _ _ _ _ _ _ _ _ _ _ _ _ _ _ _ _ _ _ _ _ _ _ HM6.out.below
       have HN:=Lh (show opTo k.vars k.ops (j+1)=some (madeK made o,(d - 1)) by rw [HS.out,if_neg (by have:=of_decide_eq_false g1;have:=of_decide_eq_false g2;omega)])
       have HD:=Lh (show 0≤(d - 1)∧(d - 1)≤4 by have:=of_decide_eq_false g1;have:=of_decide_eq_false g2;omega)
       go_wp2
       go_roundw
       case rel=>exact ⟨j+1,madeK made o,(d - 1),hlt,by go_num,rfl,rfl,HN,HM6.out,HD.out⟩
       case measure=>simp [intOf];omega
     have e16:(o.kind == 16)=false:=beq_eq_false_iff_ne.2 h16
     have HS:=Lh (show opTo k.vars k.ops (j+1)=_ from HNX.out.trans (step_yes (d':=d) HOK.out HLK.out (by rw [if_neg h15,if_neg h16])))
     clear h15 h16
     cases g1:decide (d < 0)
     rotate_left
     · have HN:=Lh (show opTo k.vars k.ops (j+1)=none by rw [HS.out,if_pos (.inl (of_decide_eq_true g1))])
       go_wp2
       exact K2.out (HNO.out HN.out) _ _ _ _ _ _ _ _ _ _ _ _ _ _ _ _ _ _ _ _ _ _ _ _ _ _ _ _ _ _ _ _ _ _ _ _ _ _ _ _ _ _ _ _ _ _ _ _ _ HM6.out.below
     cases g2:decide (4 < d)
     rotate_left
     · have HN:=Lh (show opTo k.vars k.ops (j+1)=none by rw [HS.out,if_pos (.inr (of_decide_eq_true g2))])
       go_wp2
       exact K2.out (HNO.out HN.out) _ _ _ _ _ _ _ _ _ _ _ _ _ _ _ _ _ _ _ _ _ _ _ _ _ _ _ _ _ _ _ _ _ _ _ _ _ _ _ _ _ _ _ _ _ _ _ _ _ HM6.out.below
     have HN:=Lh (show opTo k.vars k.ops (j+1)=some (madeK made o,d) by rw [HS.out,if_neg (by have:=of_decide_eq_false g1;have:=of_decide_eq_false g2;omega)])
     have HD:=Lh (show 0≤d∧d≤4 by have:=of_decide_eq_false g1;have:=of_decide_eq_false g2;omega)
     go_wp2
     go_roundw
     case rel=>exact ⟨j+1,madeK made o,d,hlt,by go_num,rfl,rfl,HN,HM6.out,HD.out⟩
     case measure=>simp [intOf];omega
   · have d1:decide (j < no)=false:=decide_eq_false hlt
     have HN:=Lh (show opTo k.vars k.ops k.ops.length=some (made,d) by rw [←HT.out];congr 1;have:=HNO2.out;omega)
     clear hm hkr
     go_wp2
     exact K1.out made d HN.out _ _ _ _ _ _ _ _ _ _ _ _ _ _ _ _ _ _ _ _ _ _ _ _ _ _ _ _ _ _ _ _ _ _ _ _ _ _ _ _ _ _ _ _ _ _ _ _ HMR.out
end Go.Proofs.YtjbabpnepjhllaaGreat
namespace Go.Proofs.YtjbabpnepjhllaaGreat
open Go.RowKit
set_option maxRecDepth 100000
theorem vars_some {vs:List KVar} {m:Nat} (h:varTo vs vs.length=some m):varsK vs=(decide (1≤vs.length) && (decide (vs.length≤256) && decide (m≤12))):=by
 unfold varsK;rw [h]
set_option maxHeartbeats 20000000 in
theorem rcheck_any (Av Ao Ar:Option Addr) (nv cv no co nr cr:Nat) (k:Krn) (w:World) (F:Nat→Prop) (hk:KernAt w F [.slice Av nv cv,.slice Ao no co,.slice Ar nr cr] k) (hF:∀ k,F k→k < w.heap.size) (hvn:k.vars.length≤100000) :
   Calls Tryz.prog 11 #[.agg #[.slice Av nv cv,.slice Ao no co,.slice Ar nr cr]] w fun e w'=>e=.returned (.int .i64 (errK k))∧Below w.heap.size w w':=by
 obtain ⟨W,hW⟩:∃ W,W=w.alloc (.cells #[.slice Av nv cv,.slice Ao no co,.slice Ar nr cr] 25):=⟨_,rfl⟩
 have hb:Below w.heap.size w W:=by rw [hW];exact (Below.refl _ _).alloc (Nat.le_refl _) _
 have hz:W.heap.size=w.heap.size+1:=by rw [hW];simp
 have hbox:W.heap[w.heap.size]? = some (.cells #[.slice Av nv cv,.slice Ao no co,.slice Ar nr cr] 25 (0,0)):=by rw [hW];exact heap_alloc_new w _
 have hk2:KernAt W (fun k=>k < W.heap.size) [.slice Av nv cv,.slice Ao no co,.slice Ar nr cr] k:=(hk.keep (SameOn.of_below hb hF)).mono fun j hj=>by have:=hF j hj;omega
 have hkb:=kbox_of hbox hk2
 have HW:=Lh hW
 have HB:=Lh hb
 have HK:=Lh hkb
 have HNN:=Lh hkb.nv
 have n5:nv≤100000:=by have:=hkb.nv;omega
 have n6:no≤9223372036854775807:=by have:=hkb.nv;have:=hk.no;omega
 have n7:nr≤9223372036854775807:=by have:=hkb.nv;have:=hk.nr;omega
 have he:=errK_eq k
 have c0:=hkb.c0
 have c1:=hkb.c1
 have c2:=hkb.c2
 clear hW hb hz hbox hk2 hkb hk hF
 cases d1:decide ((nv:Int) < 1)
 rotate_left
 · have HX:=Lh (show errK k=2 by
     rw [he,show varsK k.vars=false by
       cases hv:varsK k.vars
       · rfl
       · have:=varsK_len hv;have:=of_decide_eq_true d1;have:=HNN.out;omega]
     rfl)
   clear he
   go_enter Tryz.func11,Tryz.ntmps11
   go_upto_region 1 with (first | go_in)
   rw [←HW.out]
   clear HW
   go_wp2
   go_ret
   exact ⟨by rw [HX.out];rfl,HB.out⟩
 cases d2:decide ((256:Int) < (nv:Int))
 rotate_left
 · have HX:=Lh (show errK k=2 by
     rw [he,show varsK k.vars=false by
       cases hv:varsK k.vars
       · rfl
       · have:=varsK_len hv;have:=of_decide_eq_true d2;have:=HNN.out;omega]
     rfl)
   clear he
   go_enter Tryz.func11,Tryz.ntmps11
   go_upto_region 1 with (first | go_in)
   rw [←HW.out]
   clear HW
   go_wp2
   go_ret
   exact ⟨by rw [HX.out];rfl,HB.out⟩
 cases d3:decide ((4096:Int) < (no:Int))
 rotate_left
 · have HX:=Lh (show errK k=2 by rw [he,decide_eq_false (p:=k.ops.length≤4096) (by have:=of_decide_eq_true d3;have:=HNN.out;omega),Bool.false_and,Bool.and_false];rfl)
   clear he
   go_enter Tryz.func11,Tryz.ntmps11
   go_upto_region 1 with (first | go_in)
   rw [←HW.out]
   clear HW
   go_wp2
   go_ret
   exact ⟨by rw [HX.out];rfl,HB.out⟩
 rw [decide_eq_true (p:=k.ops.length≤4096) (by have:=of_decide_eq_false d3;have:=HNN.out;omega),Bool.true_and] at he
 cases d4:decide ((4096:Int) < (nr:Int))
 rotate_left
 · have HX:=Lh (show errK k=2 by rw [he,decide_eq_false (p:=k.reqs.length≤4096) (by have:=of_decide_eq_true d4;have:=HNN.out;omega),Bool.false_and,Bool.and_false];rfl)
   clear he
   go_enter Tryz.func11,Tryz.ntmps11
   go_upto_region 1 with (first | go_in)
   rw [←HW.out]
   clear HW
   go_wp2
   go_ret
   exact ⟨by rw [HX.out];rfl,HB.out⟩
 rw [decide_eq_true (p:=k.reqs.length≤4096) (by have:=of_decide_eq_false d4;have:=HNN.out;omega),Bool.true_and] at he
 have HE:=Lh he
 have HLE:=Lh (show 1≤nv∧nv≤256∧no≤4096∧nr≤4096 by have:=of_decide_eq_false d1;have:=of_decide_eq_false d2;have:=of_decide_eq_false d3;have:=of_decide_eq_false d4;omega)
 clear he
 go_enter Tryz.func11,Tryz.ntmps11
 go_upto_region 1 with (first | go_in)
 rw [←HW.out]
 clear HW
 go_wp2
 clear d1 d2 d3 d4 c0 c1 c2
 refine wp_code (c:=partL Tryz.f11 0) (by kernel_rfl) ?_
 refine rchk_b0 _ _ HK.out hvn ?_ ?_
 rotate_left
 · intro hno a3 a4 a5 a35 a36 a37 a38 a39 a40 a41 a42 a43 a44 a45 a46 a47 a48 a49 a50 a51 a52 a53 a54 a55 a56 a57 a58 a59 a60 a61 a62 a63 a64 a65 a66 a67 a68 a69 a70 a71 a72 a73 a74 a75 a76 a77 a78 a79 a80 a81 a82 a83 a84 a85 a86 a87 a88 a89 a90 a91 a92 a93 a94 a95 a96 a97 a98 w2 hb2
   have HX:=Lh (show errK k=2 by rw [HE.out,hno];rfl)
   clear hno
   go_wp2
   go_ret
   exact ⟨by rw [HX.out];rfl,HB.out.trans (hb2.mono HB.out.size)⟩
 intro m hm12 a4 a5 a35 a36 a37 a38 a39 a40 a41 a42 a43 a44 a45 a46 a47 a48 a49 a50 a51 a52 a53 a54 a55 a56 a57 a58 a59 a60 a61 a62 a63 a64 a65 a66 a67 a68 a69 a70 a71 a72 a73 a74 a75 a76 a77 a78 a79 a80 a81 a82 a83 a84 a85 a86 a87 a88 a89 a90 a91 a92 a93 a94 a95 a96 a97 a98 w2 hb2
 have hvk:=vars_some hm12
 rw [decide_eq_true (p:=1≤k.vars.length) (by have:=HLE.out;have:=HNN.out;omega),decide_eq_true (p:=k.vars.length≤256) (by have:=HLE.out;have:=HNN.out;omega),Bool.true_and,Bool.true_and] at hvk
 have HB2:=Lh (HB.out.trans (hb2.mono HB.out.size))
 have HK2:=Lh (HK.out.next hb2)
 have hml:m≤100000:=by have:=varTo_le hm12;omega
 clear hb2 hm12
 cases d5:decide ((12:Int) < (m:Int))
 rotate_left
 · have HX:=Lh (show errK k=2 by rw [HE.out,hvk,decide_eq_false (p:=m≤12) (by have:=of_decide_eq_true d5;omega)];rfl)
   clear hvk
   go_wp2
   go_ret
   exact ⟨by rw [HX.out];rfl,HB2.out⟩
 have hx:=HE.out
 rw [hvk,decide_eq_true (p:=m≤12) (by have:=of_decide_eq_false d5;omega),Bool.true_and] at hx
 have HE:=Lh hx
 clear hvk hx
 go_wp2
 clear d5
 refine wp_code (c:=partL Tryz.f11 2) (by kernel_rfl) ?_
 refine rchk_b2 _ _ HK2.out (by have:=HNN.out;have:=HLE.out;omega) ?_ ?_
 rotate_left
 · intro hno b6 b7 b101 b102 b103 b104 b105 b106 b107 b108 b109 b110 b111 b112 b113 b114 b115 b116 b117 b118 b119 b120 b121 b122 b123 b124 b125 b126 b127 b128 b129 b130 b131 b132 b133 b134 b135 b136 b137 b138 b139 b140 b141 b142 b143 b144 b145 b146 b147 w3 hb3
   have HX:=Lh (show errK k=2 by rw [HE.out,hno];rfl)
   clear hno
   go_wp2
   go_ret
   exact ⟨by rw [HX.out];rfl,HB2.out.trans (hb3.mono HB2.out.size)⟩
 intro hall b6 b7 b101 b102 b103 b104 b105 b106 b107 b108 b109 b110 b111 b112 b113 b114 b115 b116 b117 b118 b119 b120 b121 b122 b123 b124 b125 b126 b127 b128 b129 b130 b131 b132 b133 b134 b135 b136 b137 b138 b139 b140 b141 b142 b143 b144 b145 b146 b147 w3 hb3
 have hx:=HE.out
 rw [hall,Bool.true_and] at hx
 have HE:=Lh hx
 have HK3:=Lh (HK2.out.next hb3)
 have HB3:=Lh (HB2.out.trans (hb3.mono HB2.out.size))
 clear hall hx hb3
 have c0:=HK3.out.c0
 have c1:=HK3.out.c1
 have c2:=HK3.out.c2
 have hmk:=make_bool nv n5
 go_upto_region 22 with (first | go_in)
 obtain ⟨W4,hW4⟩:∃ W,W=w3.alloc (.cells (Array.replicate nv (Value.bool false)) 4):=⟨_,rfl⟩
 rw [←hW4]
 have hb4:Below w3.heap.size w3 W4:=by rw [hW4];exact (Below.refl _ _).alloc (Nat.le_refl _) _
 have hrow:W4.ownsRow w3.heap.size 4 1 (.slice (some ⟨w3.heap.size,0,none⟩) nv nv) nv ((List.replicate nv false).map Value.bool):=by rw [hW4];exact own_made (Nat.le_refl _) n5
 have HM4:=Lh (show MadeR w3 W4 w3.heap.size nv (madeTo k.vars 0) from ⟨hb4,by unfold madeTo;rw [List.take_zero,List.map_nil,List.nil_append,Nat.sub_zero,←HNN.out.1];exact hrow⟩)
 obtain ⟨gm,hgm⟩:∃ b,b=w3.heap.size:=⟨_,rfl⟩
 rw [←hgm] at HM4 ⊢
 clear hW4 hb4 hrow hgm hmk c0 c1 c2
 go_wp2
 refine wp_code (c:=partL Tryz.f11 4) (by kernel_rfl) ?_
 refine rchk_b4 (w0:=w3) (gm:=gm) _ _ HK3.out hvn HM4.out ?_
 intro c10 c152 c153 c154 c155 c156 c157 c158 c159 c160 c161 c162 c163 c164 c165 c166 c167 c168 c169 c170 c171 c172 c173 c174 c175 c176 c177 w5 hm5
 have HM5:=Lh hm5
 clear hm5
 go_wp2
 refine wp_code (c:=partL Tryz.f11 6) (by kernel_rfl) ?_
 refine rchk_b6 (w0:=w3) (gm:=gm) _ _ HK3.out (by have:=HNN.out;have:=HLE.out;omega) HM5.out ?_ ?_
 rotate_left
 · intro hnone d8 d11 d178 d179 d180 d181 d182 d183 d184 d185 d186 d187 d188 d189 d190 d191 d192 d193 d194 d195 d196 d197 d198 d199 d200 d201 d202 d203 d204 d205 d206 d207 d208 d209 d210 d211 d212 d213 d214 d215 d216 d217 d218 d219 d220 d221 d222 d223 w6 hb6
   have HX:=Lh (show errK k=2 by rw [HE.out];unfold opsK;rw [hnone];rfl)
   clear hnone
   go_wp2
   go_ret
   exact ⟨by rw [HX.out];rfl,HB3.out.trans (hb6.mono HB3.out.size)⟩
 intro made dd hops d11 d178 d179 d180 d181 d182 d183 d184 d185 d186 d187 d188 d189 d190 d191 d192 d193 d194 d195 d196 d197 d198 d199 d200 d201 d202 d203 d204 d205 d206 d207 d208 d209 d210 d211 d212 d213 d214 d215 d216 d217 d218 d219 d220 d221 d222 d223 w6 hm6
 have hek:=HE.out
 unfold opsK at hek
 rw [hops] at hek
 have HE:=Lh hek
 have HM6:=Lh hm6
 clear hops hek hm6
 go_wp2
 refine wp_code (c:=partL Tryz.f11 9) (by kernel_rfl) ?_
 refine rchk_b9 (w0:=w3) (gm:=gm) (made:=made) _ _ HK3.out hvn HM6.out ?_ ?_
 rotate_left
 · intro hno e12 e224 e225 e226 e227 e228 e229 e230 e231 e232 e233 e234 e235 e236 e237 e238 e239 e240 e241 e242 e243 e244
   have HX:=Lh (show errK k=2 by rw [HE.out];simp only [hno,Bool.false_and];rfl)
   clear hno
   go_wp2
   go_ret
   exact ⟨by rw [HX.out];rfl,HB3.out.trans (HM6.out.below.mono HB3.out.size)⟩
 intro hyes e12 e224 e225 e226 e227 e228 e229 e230 e231 e232 e233 e234 e235 e236 e237 e238 e239 e240 e241 e242 e243 e244
 have hek:=HE.out
 simp only [hyes,Bool.true_and] at hek
 clear hyes
 cases d6:(dd == 0)
 · have d7:(dd != 0)=true:=by rw [bne,d6];rfl
   rw [d6] at hek
   have HX:=Lh (show errK k=2 by rw [hek];rfl)
   clear hek
   go_wp2
   go_ret
   exact ⟨by rw [HX.out];rfl,HB3.out.trans (HM6.out.below.mono HB3.out.size)⟩
 · have d7:(dd != 0)=false:=by rw [bne,d6];rfl
   rw [d6] at hek
   have HX:=Lh (show errK k=0 by rw [hek];rfl)
   clear hek
   go_wp2
   go_ret
   exact ⟨by rw [HX.out];rfl,HB3.out.trans (HM6.out.below.mono HB3.out.size)⟩
end Go.Proofs.YtjbabpnepjhllaaGreat
namespace Go.Proofs.YtjbabpnepjhllaaGreat
open Go.RowKit
def outR (ops:List KOp) (j:Nat):List Int:=(kTo ops j).1.take j++List.replicate (ops.length - j) 0
theorem outR_len (ops:List KOp) {j:Nat} (hj:j≤ops.length):(outR ops j).length=ops.length:=by
 unfold outR
 rw [List.length_append,List.length_take,kTo_len,List.length_replicate]
 omega
theorem outR_zero (ops:List KOp):outR ops 0=List.replicate ops.length 0:=by unfold outR;simp
theorem outR_end (ops:List KOp):outR ops ops.length=kEnds ops:=by
 unfold outR kEnds
 rw [Nat.sub_self,List.replicate_zero,List.append_nil,List.take_of_length_le (by rw [kTo_len];exact Nat.le_refl _)]
theorem outR_get (ops:List KOp) {j i:Nat}:(outR ops j)[i]? = if i < j then (kTo ops j).1[i]? else if i < ops.length then some 0 else none:=by
 unfold outR
 by_cases h:i < j
 · rw [if_pos h]
   by_cases hn:i < ops.length
   · rw [List.getElem?_append_left (by rw [List.length_take,kTo_len];omega),List.getElem?_take_of_lt h]
   · rw [List.getElem?_append_right (by rw [List.length_take,kTo_len];omega),List.getElem?_eq_none (by rw [List.length_replicate,List.length_take,kTo_len];omega),List.getElem?_eq_none (by rw [kTo_len];omega)]
 · rw [if_neg h]
   by_cases hn:i < ops.length
   · rw [if_pos hn,List.getElem?_append_right (by rw [List.length_take,kTo_len];omega),List.getElem?_replicate,if_pos (by rw [List.length_take,kTo_len];omega)]
   · rw [if_neg hn,List.getElem?_append_right (by rw [List.length_take,kTo_len];omega),List.getElem?_eq_none (by rw [List.length_replicate,List.length_take,kTo_len];omega)]
theorem kTo_rest (ops:List KOp):∀ j i,j≤i→i < ops.length→(kTo ops j).1[i]? = some (-1):=by
 intro j
 induction j with
 | zero=>intro i _ hi;show (List.replicate ops.length (-1:Int))[i]? = _;rw [List.getElem?_replicate,if_pos hi]
 | succ j ih =>
   intro i hji hi
   have h0:=ih i (by omega) hi
   have hlt:=kS_lt ops j
   cases ho:ops[j]? with
   | none=>simp only [kTo,ho];exact h0
   | some o =>
     rw [kTo_next ho]
     unfold kStep
     split
     · exact h0
     · split
       · split
         · rename_i m r hs
           have hm:m < j:=hlt m (by unfold kS;rw [hs];simp)
           simp only
           rw [List.getElem?_set_ne (by omega),List.getElem?_set_ne (by omega)]
           exact h0
         · exact h0
       · exact h0
theorem out_same {ops:List KOp} {j:Nat} {o:KOp} (ho:ops[j]? = some o) (h16:o.kind≠16):outR ops (j+1)=(outR ops j).set j (-1):=by
 have hj:=(List.getElem?_eq_some_iff.1 ho).1
 have hk:(kTo ops (j+1)).1=(kTo ops j).1:=by
   rw [kTo_next ho]
   unfold kStep
   rw [if_neg h16]
   split <;> rfl
 refine List.ext_getElem? fun i=>?_
 rw [List.getElem?_set,outR_get,outR_get,outR_len ops (by omega),hk]
 by_cases h1:j=i
 · subst h1
   have h:=kTo_rest ops j j (Nat.le_refl _) hj
   simp [h,hj]
 · rw [if_neg h1]
   by_cases h2:i < j
   · rw [if_pos h2,if_pos (by omega)]
   · rw [if_neg h2,if_neg (by omega)]
theorem out_close {ops:List KOp} {j q:Nat} {st:List Nat} {o:KOp} (ho:ops[j]? = some o) (h16:o.kind=16) (hs:(kTo ops j).2=q :: st):outR ops (j+1)=(((outR ops j).set j (-1)).set j (q:Int)).set q (j:Int):=by
 have hj:=(List.getElem?_eq_some_iff.1 ho).1
 have hq:q < j:=kS_lt ops j q (by unfold kS;rw [hs];simp)
 have hk:(kTo ops (j+1)).1=((kTo ops j).1.set q (j:Int)).set j (q:Int):=by
   rw [kTo_next ho]
   unfold kStep
   rw [if_neg (by omega),if_pos h16,hs]
 refine List.ext_getElem? fun i=>?_
 rw [List.getElem?_set,List.getElem?_set,List.getElem?_set,outR_get,outR_get,List.length_set,List.length_set,outR_len ops (by omega),hk,List.getElem?_set,List.getElem?_set,List.length_set,kTo_len]
 by_cases h1:q=i
 · subst h1
   have h2:¬ j=q:=by omega
   have h3:q < ops.length:=by omega
   have h4:q < j+1:=by omega
   simp [h2,h3,h4]
 · by_cases h2:j=i
   · subst h2
     simp [hj,h1]
   · rw [if_neg h2,if_neg h1,if_neg h1,if_neg h2,if_neg h2]
     by_cases h3:i < j
     · rw [if_pos (by omega),if_pos h3]
     · rw [if_neg (by omega),if_neg h3]
end Go.Proofs.YtjbabpnepjhllaaGreat
namespace Go.Proofs.YtjbabpnepjhllaaGreat
open Go.RowKit
set_option maxRecDepth 100000
theorem make_ints (n:Nat) (hn:n≤65536) (w:World):(Instr.makeSlice 50 (.int .i64 n) (.int .i64 n)).run Tryz.prog w=.ok (.slice (some ⟨w.heap.size,0,none⟩) n n) (w.alloc (.cells (intV (List.replicate n 0)).toArray 3)):=by
 obtain ⟨i0,hi,hz0,hz1,hz2⟩:=info_parts infoI
 have h:=run_make (P:=Tryz.prog) w 50 3 i0 (.int .i64 0) Tryz.underlying50 hi hz0 .i64 .i64 n n (by omega) (by omega) (by rw [hz2];omega) (by omega)
 rw [hz1] at h
 have e:(Value.int .i64 0).cells=#[.int .i64 0]:=rfl
 have e2:madeCells #[.int .i64 0] n=(intV (List.replicate n 0)).toArray:=by
   refine Array.ext (by simp [size_madeCells,intV]) fun i h1 h2=>?_
   simp [madeCells,Nat.mod_one,intV]
 rw [e] at h
 simp only [Int.toNat_natCast,Nat.mul_one,e2] at h
 exact h
def NumsNu (l:List Int) (w:World) (e:Ending) (w':World):Prop:=∃ A n c,e=.returned (.slice A n c)∧NumsAt w' (fun k=>w.heap.size≤k∧k < w'.heap.size) (.slice A n c) l∧Below w.heap.size w w'
set_option maxHeartbeats 20000000 in
theorem rends_new (Av Ao Ar:Option Addr) (nv cv no co nr cr:Nat) (k:Krn) (w:World) (F:Nat→Prop) (hk:KernAt w F [.slice Av nv cv,.slice Ao no co,.slice Ar nr cr] k) (hF:∀ k,F k→k < w.heap.size) (hvn:k.vars.length≤100000) (hc:checkK k=true) :
   Calls Tryz.prog 20 #[.agg #[.slice Av nv cv,.slice Ao no co,.slice Ar nr cr]] w (NumsNu (kEnds k.ops) w):=by
 obtain ⟨W,hW⟩:∃ W,W=w.alloc (.cells #[.slice Av nv cv,.slice Ao no co,.slice Ar nr cr] 25):=⟨_,rfl⟩
 have hb:Below w.heap.size w W:=by rw [hW];exact (Below.refl _ _).alloc (Nat.le_refl _) _
 have hz:W.heap.size=w.heap.size+1:=by rw [hW];simp
 have hbox:W.heap[w.heap.size]? = some (.cells #[.slice Av nv cv,.slice Ao no co,.slice Ar nr cr] 25 (0,0)):=by rw [hW];exact heap_alloc_new w _
 have hk2:KernAt W (fun k=>k < W.heap.size) [.slice Av nv cv,.slice Ao no co,.slice Ar nr cr] k:=(hk.keep (SameOn.of_below hb hF)).mono fun j hj=>by have:=hF j hj;omega
 have hkb:=kbox_of hbox hk2
 have hchk:=rcheck_any Av Ao Ar nv cv no co nr cr k W _ hk2 (fun k hk=>hk) hvn
 rw [show errK k=0 by unfold errK;rw [hc];rfl] at hchk
 have HW:=Lh hW
 have HB:=Lh hb
 have HK:=Lh hkb
 have HCH:=Lh hchk
 have HNO:=Lh hkb.nv.2.1
 have HBAL:=Lh (check_bal hc)
 have n6:no≤4096:=by have:=hkb.nv;have:=(checkK_parts hc).2.1;omega
 have c0:=hkb.c0
 have c1:=hkb.c1
 have c2:=hkb.c2
 clear hW hb hz hbox hk2 hkb hk hF hc hchk
 obtain ⟨i0,hi,hz0,hz1,hz2⟩:=info_parts infoI
 go_enter Tryz.func20,Tryz.ntmps20
 go_upto_region 1 with (first | go_in)
 rw [←HW.out]
 clear HW
 go_upto_region 3 with (first | ((with_reducible refine HCH.out.mono ?_);rintro e w1 ⟨rfl,hb1⟩;have HK1:=Lh (HK.out.next hb1);have HB1:=Lh (HB.out.trans (hb1.mono HB.out.size));clear hb1) | go_in)
 clear c0 c1 c2 HCH
 have c0:=HK1.out.c0
 have c1:=HK1.out.c1
 have c2:=HK1.out.c2
 have hmk:=make_ints no (by omega)
 go_upto_region 4 with (first | go_in)
 obtain ⟨w2,hw2⟩:∃ W,W=w1.alloc (.cells (intV (List.replicate no 0)).toArray 3):=⟨_,rfl⟩
 rw [show w1.alloc (.cells (intV (List.replicate no 0)).toArray 3)=w2 from hw2.symm]
 obtain ⟨g,hg⟩:∃ g,g=w1.heap.size:=⟨_,rfl⟩
 have HST:=Lh (show EndAt w1 w2 g (outR k.ops 0) (kTo k.ops 0).2 (.slice none 0 0) 0 from ⟨by rw [hw2];exact (Below.refl _ _).alloc (Nat.le_refl _) _,by omega,by
   rw [outR_zero,←HNO.out,hw2,hg]
   exact heap_alloc_new w1 _,World.ownsRow_nil _ _ _ _,by simp [Value.ownBlock]⟩)
 rw [←hg]
 clear c0 c1 c2 hmk hw2 hg
 go_wp2
 go_loopw [4,5,6] (fun s4 s5 _ wr=>∃ (j m:Nat) (A:Option Addr) (c:Nat),j≤no∧s5=.int .i64 (j:Nat)∧s4=.slice A m c∧EndAt w1 wr g (outR k.ops j) (kTo k.ops j).2 (.slice A m c) m) (fun _ s5 _ _=>no - (intOf s5).toNat)
 case atStart=>exact ⟨0,0,none,0,by omega,rfl,rfl,HST.out⟩
 case round =>
   obtain ⟨j,m,A,c,hj,rfl,rfl,he⟩:=hrel
   have HER:=Lh he
   have hkr:=HK1.out.next he.below
   have c0:=hkr.c0
   have c1:=hkr.c1
   have c2:=hkr.c2
   by_cases hlt:j < no
   · have d1:decide (j < no)=true:=decide_eq_true hlt
     obtain ⟨o,hx⟩:∃ v,k.ops[j]? = some v:=⟨_,List.getElem?_eq_getElem (by have:=HNO.out;omega)⟩
     obtain ⟨u,hu⟩:∃ u,(outR k.ops j)[j]? = some u:=⟨_,List.getElem?_eq_getElem (by rw [outR_len _ (by have:=HNO.out;omega)];have:=HNO.out;omega)⟩
     have q0:=he.cell hu
     have q1:=he.frozen j
     have HS1:=Lh (he.set j (-1))
     have i0':(0:Int)≤(j:Int):=by omega
     have i1:(j:Int) < (no:Int):=by omega
     have i2:IntKind.i64.wrap (j:Int)=j:=by rw [IntKind.wrap_i64];omega
     have HX:=Lh hx
     clear he hx hu hkr
     go_upto_region 9 with (first | go_in)
     obtain ⟨WO,hWO⟩:∃ q,q=wr.setCell ⟨g,j,none⟩ (.int .i64 (-1)):=⟨_,rfl⟩
     rw [←hWO] at HS1 ⊢
     clear hWO q0 q1 c0 c1 c2
     have hkr:=HK1.out.next HS1.out.below
     have c0:=hkr.c0
     have c1:=hkr.c1
     have c2:=hkr.c2
     obtain ⟨gg,off,hA,hgg,x0,x1,x2,x3,x4,x5,x6⟩:=hkr.ops.at_ HX.out
     subst hA
     have HEO:=Lh HS1.out
     have hsl:m≤j:=by
       have h1:=HS1.out.len
       have h2:∀ i,(kTo k.ops i).2.length≤i:=by
         intro i
         induction i with
         | zero=>simp [kTo]
         | succ i ih =>
           unfold kTo
           split
           · unfold kStep
             split
             · simp only [List.length_cons];omega
             · split
               · split
                 · rename_i h;rw [h] at ih;simp only [List.length_cons] at ih;simp only;omega
                 · omega
               · omega
           · omega
       have:=h2 j
       omega
     clear hkr hgg
     by_cases h15:o.kind=15
     · have e15:(o.kind == 15)=true:=by rw [beq_iff_eq];exact h15
       have HN:=Lh (show outR k.ops (j+1)=(outR k.ops j).set j (-1)∧(kTo k.ops (j+1)).2=j :: (kTo k.ops j).2 from ⟨out_same HX.out (by omega),by rw [kTo_next HX.out];unfold kStep;rw [if_pos h15]⟩)
       clear h15
       go_wp2_with (first
         | (at_builtin;refine wpList_append_own_at _ rfl _ _ 50 rfl w1.heap.size 3 i0 (.int .i64 0) 1 8 Tryz.underlying50 hi hz0 hz1 hz2 rfl (by decide) (.slice A m c) m _ rfl (HEO.out.row.alloc _) ⟨WO.heap.size,0,none⟩ 1 1 [Value.int .i64 (j:Int)] rfl (by rfl) (cells_new_at WO #[Value.int .i64 (j:Int)] 3) (by simp [Value.oneCell']) (by unfold maxLen;omega) (by omega) (by have:=HEO.out.below.size;simp;omega) ?_;intro v' w6 ho6 hg6 _ hw6
            have HO6:=Lh ho6
            have HG6:=Lh hg6
            have HW6:=Lh hw6
            obtain ⟨A6,c6,rfl⟩:=own_form ho6
            clear ho6 hg6 hw6)
         | go_in)
       go_roundw
       case rel =>
         refine ⟨j+1,m+1,A6,c6,hlt,by go_num,rfl,?_⟩
         rw [HN.out.1,HN.out.2]
         have hlt2:=lt_of_block HEO.out.blk
         refine ⟨(HEO.out.below.alloc HEO.out.below.size _).grown HG6.out (by have:=HEO.out.below.size;simp;omega) (fun q e=>(own_lt HEO.out.row q e).2),HEO.out.ge,?_,?_,?_⟩
         · refine (HG6.out.block g (by simp;omega) (fun e=>HEO.out.ne e.symm)).trans ((Below.heap_alloc WO _ g hlt2).trans HEO.out.blk)
         · have:=HO6.out
           simpa [intV] using this
         · rcases HW6.out with h | h
           · rw [h];exact HEO.out.ne
           · rw [h];intro e
             have e2:=Option.some.inj e
             simp at e2
             omega
       case measure=>simp [intOf];omega
     have e15:(o.kind == 15)=false:=beq_eq_false_iff_ne.2 h15
     by_cases h16:o.kind=16
     · have e16:(o.kind == 16)=true:=by rw [beq_iff_eq];exact h16
       obtain ⟨q,st,hst⟩:∃ q st,(kTo k.ops j).2=q :: st:=by
         cases h:(kTo k.ops j).2 with
         | nil=>exact absurd h (HBAL.out.some_ j o HX.out h16)
         | cons q st=>exact ⟨q,st,rfl⟩
       have hqj:q < j:=kS_lt k.ops j q (by unfold kS;rw [hst];exact List.mem_cons_self ..)
       have HN:=Lh (show outR k.ops (j+1)=(((outR k.ops j).set j (-1)).set j (q:Int)).set q (j:Int)∧(kTo k.ops (j+1)).2=st from ⟨out_close HX.out h16 hst,by rw [kTo_next HX.out];unfold kStep;rw [if_neg h15,if_pos h16,hst]⟩)
       have hml:m=st.length+1:=by rw [←HEO.out.len,hst];rfl
       have hol:=outR_len k.ops (j:=j) (by have:=HNO.out;omega)
       obtain ⟨uj,huj⟩:∃ u,((outR k.ops j).set j (-1))[j]? = some u:=⟨_,List.getElem?_eq_getElem (by rw [List.length_set];have:=HNO.out;omega)⟩
       obtain ⟨uq,huq⟩:∃ u,(((outR k.ops j).set j (-1)).set j (q:Int))[q]? = some u:=⟨_,List.getElem?_eq_getElem (by rw [List.length_set,List.length_set];have:=HNO.out;omega)⟩
       have HEO:=Lh (hst▸HEO.out)
       have HS2:=Lh (HEO.out.set j (q:Int))
       have HS3:=Lh (HS2.out.set q (j:Int))
       obtain ⟨gl,cl,hA,hgl,hcl⟩:=own_some HEO.out.row (by omega)
       cases hA
       have f1:WO.cell? ⟨gl,st.length,none⟩=some (.int .i64 (q:Int)):=own_cell HEO.out.row (by simp [intV])
       have f2:=HEO.out.cell huj
       have f3:=HEO.out.frozen j
       have f4:=HS2.out.cell huq
       have f5:=HS2.out.frozen q
       have i4:IntKind.i64.wrap (st.length:Int)=st.length:=by rw [IntKind.wrap_i64];omega
       have i5:(0:Int)≤(q:Int):=by omega
       have i6:(q:Int) < (no:Int):=by omega
       have i7:IntKind.i64.wrap (q:Int)=q:=by rw [IntKind.wrap_i64];omega
       have i9:(m:Int) - 1=(st.length:Int):=by omega
       have j2:(0:Int)≤(st.length:Int):=by omega
       have j3:(st.length:Int) < (m:Int):=by omega
       obtain ⟨sl,hsl2⟩:∃ n,n=st.length:=⟨_,rfl⟩
       rw [←hsl2] at i4 i9 j2 j3 f1 hml
       have hcl2:sl≤c:=by omega
       have HML:=Lh hml
       have HSL:=Lh hsl2
       clear h15 h16 hst hqj hol huj huq hml hsl2 hgl hcl
       go_wp2
       go_roundw
       case rel =>
         refine ⟨j+1,sl,_,c,hlt,by go_num,rfl,?_⟩
         rw [HN.out.1,HN.out.2]
         refine ⟨HS3.out.below,HS3.out.ge,HS3.out.blk,?_,HS3.out.ne⟩
         have h2:=own_cut HS3.out.row (m:=sl) (by have:=HML.out;omega)
         rw [HSL.out] at h2 ⊢
         simpa [intV] using h2
       case measure=>simp [intOf];omega
     · have e16:(o.kind == 16)=false:=beq_eq_false_iff_ne.2 h16
       have HN:=Lh (show outR k.ops (j+1)=(outR k.ops j).set j (-1)∧(kTo k.ops (j+1)).2=(kTo k.ops j).2 from ⟨out_same HX.out h16,by rw [kTo_next HX.out];unfold kStep;rw [if_neg h15,if_neg h16]⟩)
       clear h15 h16
       go_wp2
       go_roundw
       case rel=>exact ⟨j+1,m,A,c,hlt,by go_num,rfl,by rw [HN.out.1,HN.out.2];exact HEO.out⟩
       case measure=>simp [intOf];omega
   · have d1:decide (j < no)=false:=decide_eq_false hlt
     have e:j=no:=by omega
     subst e
     have HL:=Lh (show outR k.ops j=kEnds k.ops by rw [←outR_end,←HNO.out])
     have hlen:(kEnds k.ops).length=j:=by unfold kEnds;rw [kTo_len,←HNO.out]
     have HLN:=Lh hlen
     clear he hlen hkr
     go_wp2
     go_ret
     have hblk:=HER.out.blk
     rw [HL.out] at hblk
     have hn:=nums_blk hblk
     rw [HLN.out] at hn
     exact ⟨_,_,_,rfl,Rows.mono hn (fun q hq=>by subst hq;exact ⟨by have:=HER.out.ge;have:=HB1.out.size;omega,lt_of_block hblk⟩),HB1.out.trans (HER.out.below.mono HB1.out.size)⟩
theorem rends_any (Av Ao Ar:Option Addr) (nv cv no co nr cr:Nat) (k:Krn) (w:World) (F:Nat→Prop) (hk:KernAt w F [.slice Av nv cv,.slice Ao no co,.slice Ar nr cr] k) (hF:∀ k,F k→k < w.heap.size) (hvn:k.vars.length≤100000) (hc:checkK k=true) :
   Calls Tryz.prog 20 #[.agg #[.slice Av nv cv,.slice Ao no co,.slice Ar nr cr]] w (NumsSay (kEnds k.ops) w) :=
 (rends_new Av Ao Ar nv cv no co nr cr k w F hk hF hvn hc).mono fun _ _ ⟨A,n,c,h1,h2,h3⟩=>⟨A,n,c,h1,Rows.mono h2 fun _ h=>h.2,h3⟩
end Go.Proofs.YtjbabpnepjhllaaGreat
namespace Go.Proofs.YtjbabpnepjhllaaGreat
open Go.RowKit
set_option maxRecDepth 100000
def pickTo (p:KVar→Bool) (vs:List KVar) (j:Nat):List Int:=((List.range j).filter fun i=>p (vs.getD i ⟨0,false,0⟩)).map fun i:Nat=>(i:Int)
theorem pickTo_next {p:KVar→Bool} {vs:List KVar} {j:Nat} {v:KVar} (hv:vs[j]? = some v):pickTo p vs (j+1)=pickTo p vs j++(if p v then [(j:Int)] else []):=by
 unfold pickTo
 rw [List.range_succ,List.filter_append,List.map_append]
 congr 1
 have e:vs.getD j ⟨0,false,0⟩=v:=by rw [List.getD_eq_getElem?_getD,hv];rfl
 simp only [List.filter_cons,List.filter_nil,e]
 split <;> rfl
theorem pickTo_len (p:KVar→Bool) (vs:List KVar) (j:Nat):(pickTo p vs j).length≤j:=by
 unfold pickTo
 rw [List.length_map]
 have:=List.length_filter_le (fun i=>p (vs.getD i ⟨0,false,0⟩)) (List.range j)
 rw [List.length_range] at this
 exact this
theorem pickTo_mem {p:KVar→Bool} {vs:List KVar} {j:Nat} {x:Int} (h:x∈pickTo p vs j):0≤x∧x < j∧p (vs.getD x.toNat ⟨0,false,0⟩)=true:=by
 unfold pickTo at h
 obtain ⟨i,hi,rfl⟩:=List.mem_map.1 h
 obtain ⟨h1,h2⟩:=List.mem_filter.1 hi
 rw [List.mem_range] at h1
 exact ⟨by omega,by omega,by simpa using h2⟩
def isOut (v:KVar):Bool:=v.mode == 3
def inK (vs:List KVar):List Int:=pickTo givenK vs vs.length
def outsK (vs:List KVar):List Int:=pickTo isOut vs vs.length
def IntsTold (l:List Int) (w:World) (e:Ending) (w':World):Prop:=∃ A n c,e=.returned (.slice A n c)∧w'.ownsRow w.heap.size 3 1 (.slice A n c) n (intV l)∧n=l.length∧Below w.heap.size w w'
set_option maxHeartbeats 4000000 in
theorem In_any (Av Ao Ar:Option Addr) (nv cv no co nr cr:Nat) (k:Krn) (w:World) (hk:KernAt w (fun q=>q < w.heap.size) [.slice Av nv cv,.slice Ao no co,.slice Ar nr cr] k) (hc:checkK k=true) :
   Calls Tryz.prog 70 #[.agg #[.slice Av nv cv,.slice Ao no co,.slice Ar nr cr]] w (IntsTold (pickTo givenK k.vars k.vars.length) w):=by
 obtain ⟨W,hW⟩:∃ W,W=w.alloc (.cells #[.slice Av nv cv,.slice Ao no co,.slice Ar nr cr] 25):=⟨_,rfl⟩
 have hb:Below w.heap.size w W:=by rw [hW];exact (Below.refl _ _).alloc (Nat.le_refl _) _
 have hbox:W.heap[w.heap.size]? = some (.cells #[.slice Av nv cv,.slice Ao no co,.slice Ar nr cr] 25 (0,0)):=by rw [hW];exact heap_alloc_new w _
 have hk2:KernAt W (fun k=>k < W.heap.size) [.slice Av nv cv,.slice Ao no co,.slice Ar nr cr] k:=kern_next hk hb
 have hkb:=kbox_of hbox hk2
 have HW:=Lh hW
 have HB:=Lh hb
 have HK:=Lh hkb
 have hv256:=(varsK_len (checkK_parts hc).1).2
 have HCK:=Lh (fun (w1:World) (h1:Below W.heap.size W w1)=>rcheck_any Av Ao Ar nv cv no co nr cr k w1 _ (kern_next hk2 h1) (fun k hk=>hk) (by omega))
 rw [show errK k=0 by unfold errK;rw [hc];rfl] at HCK
 have hnv:=hkb.nv.1
 have HNV:=Lh hnv
 have hn256:nv≤256:=by omega
 obtain ⟨i0,hi,hz0,hz1,hz2⟩:=info_parts infoI
 have HI:=Lh (And.intro hi (And.intro hz0 (And.intro hz1 hz2)))
 clear hW hb hbox hk2 hkb hk hc hv256 hnv hz0 hz1 hz2
 go_enter Tryz.func70,Tryz.ntmps70
 go_upto_region 1 with go_in
 rw [←HW.out]
 clear HW
 go_wp2
 go_loopw [3,4] (fun s3 s4 wr=>∃ (j:Nat) (A:Option Addr) (m c:Nat),j≤nv∧s4=.int .i64 j∧s3=.slice A m c∧wr.ownsRow W.heap.size 3 1 (.slice A m c) m (intV (pickTo givenK k.vars j))∧m=(pickTo givenK k.vars j).length∧Below W.heap.size W wr) (fun _ s4 _=>nv - (intOf s4).toNat)
 case atStart=>exact ⟨0,none,0,0,Nat.zero_le _,rfl,rfl,World.ownsRow_nil _ _ _ _,rfl,Below.refl _ _⟩
 case round =>
   obtain ⟨j,A,m,c,hj,rfl,rfl,ho,hm,hbr⟩:=hrel
   have HO:=Lh ho
   have HM:=Lh hm
   have HBR:=Lh hbr
   have c0:=(HK.out.next hbr).c0
   have c1:=(HK.out.next hbr).c1
   have c2:=(HK.out.next hbr).c2
   have hm256:m≤256:=by have:=pickTo_len givenK k.vars j;omega
   clear ho hm hbr
   by_cases hlt:j < nv
   · have d1:decide (j < nv)=true:=decide_eq_true hlt
     obtain ⟨v,hv⟩:∃ v,k.vars[j]? = some v:=⟨_,List.getElem?_eq_getElem (by have:=HNV.out;omega)⟩
     obtain ⟨bv,ov,hAv,hbv,v0,v1,v2⟩:=HK.out.vars.at_ hv
     subst hAv
     have HVC:=Lh (show ∀ w_,Below W.heap.size W w_→w_.cell? ⟨bv,ov+j*3+2,none⟩=some (.int .i64 v.mode)∧w_.cell? ⟨w.heap.size,0,none⟩=some (.slice (some ⟨bv,ov,none⟩) nv cv) from fun w_ h=>⟨(h.cell (p:=⟨bv,_,none⟩) hbv).trans v2,(HK.out.next h).c0⟩)
     have HPN:=Lh (pickTo_next (p:=givenK) hv)
     have i1:(0:Int)≤(j:Int):=by omega
     have i2:(j:Int) < (nv:Int):=by omega
     have i3:IntKind.i64.wrap (j:Int)=j:=by rw [IntKind.wrap_i64];omega
     have i4:IntKind.i64.wrap ((j:Int)+1)=((j+1:Nat):Int):=by rw [IntKind.wrap_i64];omega
     clear v0 v1 v2 hbv hv
     cases m1:(v.mode == 1)
     · cases m2:(v.mode == 2)
       · have HPN2:=Lh (show pickTo givenK k.vars (j+1)=pickTo givenK k.vars j by rw [HPN.out];simp only [givenK,m1,m2];simp)
         go_wp2_with (first | ((with_reducible refine (HCK.out _ HBR.out).mono ?_);rintro e w3 ⟨rfl,hb3⟩;have HB3:=Lh (HBR.out.trans (hb3.mono HBR.out.size));have HB3r:=Lh hb3;obtain ⟨f0_,f1_⟩:=HVC.out _ HB3.out;clear hb3 c0 c1 c2) | go_in)
         go_roundw
         case rel=>exact ⟨j+1,A,m,c,hlt,by go_num,rfl,by rw [HPN2.out];exact HO.out.kept (grownBy_of_below HB3r.out) (by cases hh:(Value.slice A m c).ownBlock <;> simp),by rw [HPN2.out];exact HM.out,HB3.out⟩
         case measure=>simp [intOf];omega
       · have HPN2:=Lh (show pickTo givenK k.vars (j+1)=pickTo givenK k.vars j++[(j:Int)] by rw [HPN.out];simp only [givenK,m1,m2];simp)
         go_wp2_with (first | ((with_reducible refine (HCK.out _ HBR.out).mono ?_);rintro e w3 ⟨rfl,hb3⟩;have HB3:=Lh (HBR.out.trans (hb3.mono HBR.out.size));have HB3r:=Lh hb3;obtain ⟨f0_,f1_⟩:=HVC.out _ HB3.out;clear hb3 c0 c1 c2) | (at_builtin;refine wpList_append_own_at _ rfl _ _ 50 rfl W.heap.size 3 i0 (.int .i64 0) 1 8 Tryz.underlying50 HI.out.1 HI.out.2.1 HI.out.2.2.1 HI.out.2.2.2 rfl (by decide) (.slice A m c) m _ rfl ((HO.out.kept (grownBy_of_below HB3r.out) (by cases hh:(Value.slice A m c).ownBlock <;> simp)).alloc _) ⟨w3.heap.size,0,none⟩ 1 1 [Value.int .i64 (j:Int)] rfl (by rfl) (World.news_of_block (cs:=#[.int .i64 (j:Int)]) (t:=3) (fr:=(0,0)) (heap_alloc_new w3 _)) (by simp [Value.oneCell']) (by unfold maxLen;omega) (by omega) (by have:=HB3.out.size;simp;omega) ?_;intro v' w6 ho6 hg6 _ _;obtain ⟨A6,c6,rfl⟩:=own_form ho6;have HO6:=Lh ho6;have HG6:=Lh hg6;clear ho6 hg6) | go_in)
         go_roundw
         case rel =>
           refine ⟨j+1,A6,m+1,c6,hlt,by go_num,rfl,by rw [HPN2.out];simpa [intV] using HO6.out,by rw [HPN2.out,List.length_append,←HM.out];rfl,?_⟩
           exact Below.grown (HB3.out.alloc HB3.out.size _) HG6.out (by have:=HB3.out.size;simp;omega) fun k hk=>(own_lt HO.out k hk).2
         case measure=>simp [intOf];omega
     · have HPN2:=Lh (show pickTo givenK k.vars (j+1)=pickTo givenK k.vars j++[(j:Int)] by rw [HPN.out];simp only [givenK,m1];simp)
       go_wp2_with (first | ((with_reducible refine (HCK.out _ HBR.out).mono ?_);rintro e w3 ⟨rfl,hb3⟩;have HB3:=Lh (HBR.out.trans (hb3.mono HBR.out.size));have HB3r:=Lh hb3;obtain ⟨f0_,f1_⟩:=HVC.out _ HB3.out;clear hb3 c0 c1 c2) | (at_builtin;refine wpList_append_own_at _ rfl _ _ 50 rfl W.heap.size 3 i0 (.int .i64 0) 1 8 Tryz.underlying50 HI.out.1 HI.out.2.1 HI.out.2.2.1 HI.out.2.2.2 rfl (by decide) (.slice A m c) m _ rfl ((HO.out.kept (grownBy_of_below HB3r.out) (by cases hh:(Value.slice A m c).ownBlock <;> simp)).alloc _) ⟨w3.heap.size,0,none⟩ 1 1 [Value.int .i64 (j:Int)] rfl (by rfl) (World.news_of_block (cs:=#[.int .i64 (j:Int)]) (t:=3) (fr:=(0,0)) (heap_alloc_new w3 _)) (by simp [Value.oneCell']) (by unfold maxLen;omega) (by omega) (by have:=HB3.out.size;simp;omega) ?_;intro v' w6 ho6 hg6 _ _;obtain ⟨A6,c6,rfl⟩:=own_form ho6;have HO6:=Lh ho6;have HG6:=Lh hg6;clear ho6 hg6) | go_in)
       go_roundw
       case rel =>
         refine ⟨j+1,A6,m+1,c6,hlt,by go_num,rfl,by rw [HPN2.out];simpa [intV] using HO6.out,by rw [HPN2.out,List.length_append,←HM.out];rfl,?_⟩
         exact Below.grown (HB3.out.alloc HB3.out.size _) HG6.out (by have:=HB3.out.size;simp;omega) fun k hk=>(own_lt HO.out k hk).2
       case measure=>simp [intOf];omega
   · have d1:decide (j < nv)=false:=decide_eq_false hlt
     have hjn:j=nv:=by omega
     have HE:=Lh (show pickTo givenK k.vars j=pickTo givenK k.vars k.vars.length by rw [hjn,HNV.out])
     clear hjn
     go_wp2
     go_ret
     rw [←HE.out]
     exact ⟨A,m,c,rfl,ownsRow_base HO.out HB.out.size,HM.out,HB.out.trans (HBR.out.mono HB.out.size)⟩
set_option maxHeartbeats 4000000 in
theorem Out_any (Av Ao Ar:Option Addr) (nv cv no co nr cr:Nat) (k:Krn) (w:World) (hk:KernAt w (fun q=>q < w.heap.size) [.slice Av nv cv,.slice Ao no co,.slice Ar nr cr] k) (hc:checkK k=true) :
   Calls Tryz.prog 44 #[.agg #[.slice Av nv cv,.slice Ao no co,.slice Ar nr cr]] w (IntsTold (pickTo isOut k.vars k.vars.length) w):=by
 obtain ⟨W,hW⟩:∃ W,W=w.alloc (.cells #[.slice Av nv cv,.slice Ao no co,.slice Ar nr cr] 25):=⟨_,rfl⟩
 have hb:Below w.heap.size w W:=by rw [hW];exact (Below.refl _ _).alloc (Nat.le_refl _) _
 have hbox:W.heap[w.heap.size]? = some (.cells #[.slice Av nv cv,.slice Ao no co,.slice Ar nr cr] 25 (0,0)):=by rw [hW];exact heap_alloc_new w _
 have hk2:KernAt W (fun k=>k < W.heap.size) [.slice Av nv cv,.slice Ao no co,.slice Ar nr cr] k:=kern_next hk hb
 have hkb:=kbox_of hbox hk2
 have HW:=Lh hW
 have HB:=Lh hb
 have HK:=Lh hkb
 have hv256:=(varsK_len (checkK_parts hc).1).2
 have HCK:=Lh (fun (w1:World) (h1:Below W.heap.size W w1)=>rcheck_any Av Ao Ar nv cv no co nr cr k w1 _ (kern_next hk2 h1) (fun k hk=>hk) (by omega))
 rw [show errK k=0 by unfold errK;rw [hc];rfl] at HCK
 have hnv:=hkb.nv.1
 have HNV:=Lh hnv
 have hn256:nv≤256:=by omega
 obtain ⟨i0,hi,hz0,hz1,hz2⟩:=info_parts infoI
 have HI:=Lh (And.intro hi (And.intro hz0 (And.intro hz1 hz2)))
 clear hW hb hbox hk2 hkb hk hc hv256 hnv hz0 hz1 hz2
 go_enter Tryz.func44,Tryz.ntmps44
 go_upto_region 1 with go_in
 rw [←HW.out]
 clear HW
 go_wp2
 go_loopw [3,4] (fun s3 s4 wr=>∃ (j:Nat) (A:Option Addr) (m c:Nat),j≤nv∧s4=.int .i64 j∧s3=.slice A m c∧wr.ownsRow W.heap.size 3 1 (.slice A m c) m (intV (pickTo isOut k.vars j))∧m=(pickTo isOut k.vars j).length∧Below W.heap.size W wr) (fun _ s4 _=>nv - (intOf s4).toNat)
 case atStart=>exact ⟨0,none,0,0,Nat.zero_le _,rfl,rfl,World.ownsRow_nil _ _ _ _,rfl,Below.refl _ _⟩
 case round =>
   obtain ⟨j,A,m,c,hj,rfl,rfl,ho,hm,hbr⟩:=hrel
   have HO:=Lh ho
   have HM:=Lh hm
   have HBR:=Lh hbr
   have c0:=(HK.out.next hbr).c0
   have c1:=(HK.out.next hbr).c1
   have c2:=(HK.out.next hbr).c2
   have hm256:m≤256:=by have:=pickTo_len isOut k.vars j;omega
   clear ho hm hbr
   by_cases hlt:j < nv
   · have d1:decide (j < nv)=true:=decide_eq_true hlt
     obtain ⟨v,hv⟩:∃ v,k.vars[j]? = some v:=⟨_,List.getElem?_eq_getElem (by have:=HNV.out;omega)⟩
     obtain ⟨bv,ov,hAv,hbv,v0,v1,v2⟩:=HK.out.vars.at_ hv
     subst hAv
     have HVC:=Lh (show ∀ w_,Below W.heap.size W w_→w_.cell? ⟨bv,ov+j*3+2,none⟩=some (.int .i64 v.mode)∧w_.cell? ⟨w.heap.size,0,none⟩=some (.slice (some ⟨bv,ov,none⟩) nv cv) from fun w_ h=>⟨(h.cell (p:=⟨bv,_,none⟩) hbv).trans v2,(HK.out.next h).c0⟩)
     have HPN:=Lh (pickTo_next (p:=isOut) hv)
     have i1:(0:Int)≤(j:Int):=by omega
     have i2:(j:Int) < (nv:Int):=by omega
     have i3:IntKind.i64.wrap (j:Int)=j:=by rw [IntKind.wrap_i64];omega
     have i4:IntKind.i64.wrap ((j:Int)+1)=((j+1:Nat):Int):=by rw [IntKind.wrap_i64];omega
     clear v0 v1 v2 hbv hv
     cases m1:(v.mode == 3)
     · have HPN2:=Lh (show pickTo isOut k.vars (j+1)=pickTo isOut k.vars j by rw [HPN.out];simp only [isOut,m1];simp)
       go_wp2_with (first | ((with_reducible refine (HCK.out _ HBR.out).mono ?_);rintro e w3 ⟨rfl,hb3⟩;have HB3:=Lh (HBR.out.trans (hb3.mono HBR.out.size));have HB3r:=Lh hb3;obtain ⟨f0_,f1_⟩:=HVC.out _ HB3.out;clear hb3 c0 c1 c2) | go_in)
       go_roundw
       case rel=>exact ⟨j+1,A,m,c,hlt,by go_num,rfl,by rw [HPN2.out];exact HO.out.kept (grownBy_of_below HB3r.out) (by cases hh:(Value.slice A m c).ownBlock <;> simp),by rw [HPN2.out];exact HM.out,HB3.out⟩
       case measure=>simp [intOf];omega
     · have HPN2:=Lh (show pickTo isOut k.vars (j+1)=pickTo isOut k.vars j++[(j:Int)] by rw [HPN.out];simp only [isOut,m1];simp)
       go_wp2_with (first | ((with_reducible refine (HCK.out _ HBR.out).mono ?_);rintro e w3 ⟨rfl,hb3⟩;have HB3:=Lh (HBR.out.trans (hb3.mono HBR.out.size));have HB3r:=Lh hb3;obtain ⟨f0_,f1_⟩:=HVC.out _ HB3.out;clear hb3 c0 c1 c2) | (at_builtin;refine wpList_append_own_at _ rfl _ _ 50 rfl W.heap.size 3 i0 (.int .i64 0) 1 8 Tryz.underlying50 HI.out.1 HI.out.2.1 HI.out.2.2.1 HI.out.2.2.2 rfl (by decide) (.slice A m c) m _ rfl ((HO.out.kept (grownBy_of_below HB3r.out) (by cases hh:(Value.slice A m c).ownBlock <;> simp)).alloc _) ⟨w3.heap.size,0,none⟩ 1 1 [Value.int .i64 (j:Int)] rfl (by rfl) (World.news_of_block (cs:=#[.int .i64 (j:Int)]) (t:=3) (fr:=(0,0)) (heap_alloc_new w3 _)) (by simp [Value.oneCell']) (by unfold maxLen;omega) (by omega) (by have:=HB3.out.size;simp;omega) ?_;intro v' w6 ho6 hg6 _ _;obtain ⟨A6,c6,rfl⟩:=own_form ho6;have HO6:=Lh ho6;have HG6:=Lh hg6;clear ho6 hg6) | go_in)
       go_roundw
       case rel =>
         refine ⟨j+1,A6,m+1,c6,hlt,by go_num,rfl,by rw [HPN2.out];simpa [intV] using HO6.out,by rw [HPN2.out,List.length_append,←HM.out];rfl,?_⟩
         exact Below.grown (HB3.out.alloc HB3.out.size _) HG6.out (by have:=HB3.out.size;simp;omega) fun k hk=>(own_lt HO.out k hk).2
       case measure=>simp [intOf];omega
   · have d1:decide (j < nv)=false:=decide_eq_false hlt
     have hjn:j=nv:=by omega
     have HE:=Lh (show pickTo isOut k.vars j=pickTo isOut k.vars k.vars.length by rw [hjn,HNV.out])
     clear hjn
     go_wp2
     go_ret
     rw [←HE.out]
     exact ⟨A,m,c,rfl,ownsRow_base HO.out HB.out.size,HM.out,HB.out.trans (HBR.out.mono HB.out.size)⟩
end Go.Proofs.YtjbabpnepjhllaaGreat
