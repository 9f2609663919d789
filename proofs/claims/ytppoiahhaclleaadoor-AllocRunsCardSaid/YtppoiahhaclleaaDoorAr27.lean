/- Part 27 of a claim; what it proves stands in its last text. -/
import Derived.Test.YtppoiahhaclleaaDoorAr26
import Derived.Test.YtppoiahhaclleaaDoorAr20
namespace Go.Proofs.YtppoiahhaclleaaDoor
open Go.RowKit
set_option maxRecDepth 100000
variable {aB kV kW aC aD kX kY kZ lA lB lC aE aF aG aH aI aJ aK aL aM aN aO aP aQ aR aS aT aU aV aW aX aY aZ a8 bA bB bC bD bE bF bG bH bI bJ bK bL bM bN bO bP bQ bS bT bU bV bW bX bY bZ b4 b6 cA cC cD cE cF cG cH cI cJ cK cL cM cN cO cP cQ cR cT cU cV cW cX cY cZ c8 dA dB dC dD dE dF dG dH dI dJ dK dL dM dN dO dP dQ dR dS dT dU dV dW dX dY dZ d7 eA eB eC eD eE eF eG eH eI eJ eK eL eM eN eO eP eQ eR eS eT eU eV eW eX eY eZ fA fB fC fD fE fF fG fH fI fJ fK fL fM fN fO fP fQ fR fS fT fU fV fW fX fY fZ gA gC gD gE : Value}
set_option maxHeartbeats 4000000 in
theorem rl_r13 {bp g off no co k:Nat} {o:LOp} {ops:List LOp} (w:World) (Q:Exit→Act→World→Prop) (hO:OpsAt w (fun j=>j < w.heap.size) (.slice (some ⟨g,off,none⟩) no co) ops) (ho:ops[k]? = some o) (hlo:ops.length=no) (hno:no≤65536) (hb2:w.cell? ⟨bp,2,none⟩=some (.slice (some ⟨g,off,none⟩) no co)) (hbp:bp < w.heap.size) (hk1:1≤o.kind) (hk2:o.kind≤17)
   (kk:∀ (mM mN lL lM lN lO lP lQ lR lS lT lU lV lW:Value) (w':World),Below w.heap.size w w'∧NumsAt w' (New w w') mM (takesF o)∧NumsAt w' (New w w') mN (makesF o)→Q .normal ⟨#[aB,.pointer (some ⟨bp,0,none⟩),kV,kW,aC,aD,kX,kY,.int .i64 (k:Nat),mM,mN,lC,aE,aF,aG,aH,aI,aJ,aK,aL,aM,aN,aO,aP,aQ,aR,aS,aT,aU,aV,aW,aX,aY,aZ,a8,bA,bB,bC,bD,bE,bF,bG,bH,bI,bJ,lL,lM,lN,lO,lP,lQ,lR,lS,lT,lU,lV,lW,bX,bY,bZ,b4,b6,cA,cC,cD,cE,cF,cG,cH,cI,cJ,cK,cL,cM,cN,cO,cP,cQ,cR,cT,cU,cV,cW,cX,cY,cZ,c8,dA,dB,dC,dD,dE,dF,dG,dH,dI,dJ,dK,dL,dM,dN,dO,dP,dQ,dR,dS,dT,dU,dV,dW,dX,dY,dZ,d7,eA,eB,eC,eD,eE,eF,eG,eH,eI,eJ,eK,eL,eM,eN,eO,eP,eQ,eR,eS,eT,eU,eV,eW,eX,eY,eZ,fA,fB,fC,fD,fE,fF,fG,fH,fI,fJ,fK,fL,fM,fN,fO,fP,fQ,fR,fS,fT,fU,fV,fW,fX,fY,fZ,gA,gC,gD,gE],[]⟩ w'):(partR Tryd.f15 13).wp Tryd.prog Q ⟨#[aB,.pointer (some ⟨bp,0,none⟩),kV,kW,aC,aD,kX,kY,.int .i64 (k:Nat),lA,lB,lC,aE,aF,aG,aH,aI,aJ,aK,aL,aM,aN,aO,aP,aQ,aR,aS,aT,aU,aV,aW,aX,aY,aZ,a8,bA,bB,bC,bD,bE,bF,bG,bH,bI,bJ,bK,bL,bM,bN,bO,bP,bQ,bS,bT,bU,bV,bW,bX,bY,bZ,b4,b6,cA,cC,cD,cE,cF,cG,cH,cI,cJ,cK,cL,cM,cN,cO,cP,cQ,cR,cT,cU,cV,cW,cX,cY,cZ,c8,dA,dB,dC,dD,dE,dF,dG,dH,dI,dJ,dK,dL,dM,dN,dO,dP,dQ,dR,dS,dT,dU,dV,dW,dX,dY,dZ,d7,eA,eB,eC,eD,eE,eF,eG,eH,eI,eJ,eK,eL,eM,eN,eO,eP,eQ,eR,eS,eT,eU,eV,eW,eX,eY,eZ,fA,fB,fC,fD,fE,fF,fG,fH,fI,fJ,fK,fL,fM,fN,fO,fP,fQ,fR,fS,fT,fU,fV,fW,fX,fY,fZ,gA,gC,gD,gE],[]⟩ w:=by
 have hlt:=(List.getElem?_eq_some_iff.1 ho).1
 have HOP:=Lh (fun wr (hb:Below w.heap.size w wr)=>(show OpsAt wr (fun j=>j < w.heap.size) (.slice (some ⟨g,off,none⟩) no co) ops from Rows.keep hO (SameOn.of_below hb fun _ h=>h)).at_ ho)
 have HB2:=Lh (fun wr (hb:Below w.heap.size w wr)=>(hb.cell (p:=⟨bp,2,none⟩) hbp).trans hb2)
 have HTK:=Lh (fun wr=>show Calls Tryd.prog 29 #[.agg #[.int .i64 o.kind,.int .i64 o.d,.int .i64 o.e,.int .i64 o.a,.int .i64 o.b,.int .i64 o.c,.int .i64 o.buf,.int .u64 o.imm]] wr _ from Takes_any o wr hk1 hk2)
 have HMK:=Lh (fun wr=>show Calls Tryd.prog 28 #[.agg #[.int .i64 o.kind,.int .i64 o.d,.int .i64 o.e,.int .i64 o.a,.int .i64 o.b,.int .i64 o.c,.int .i64 o.buf,.int .u64 o.imm]] wr _ from Makes_any o wr hk1 hk2)
 have i0:(0:Int)≤(k:Int):=by omega
 have i1:(k:Int) < (no:Int):=by omega
 have q1:IntKind.i64.wrap (k:Int)=k:=by rw [IntKind.wrap_i64];omega
 have HK:=Lh kk
 clear hO ho hb2 hbp hk1 hk2 kk hlt hlo
 conv=>arg 2;whnf
 go_wp2_with fail
 have hS:Below w.heap.size w w.drew:=(Below.refl _ _).drew
 (refine wp_region_lines (Below w.heap.size w) (by kernel_rfl) (by kernel_rfl) (Below.refl w.heap.size w).drew ?_)
 (try simp only [])
 repeat (first | (refine runL_no (by rfl) ?_;(try simp only [Act.put,List.setIfInBounds_toArray,List.set_cons_zero,List.set_cons_succ])) | (refine runL_val (v:=?_) (by rfl) ?_ ?_;rotate_left;(focus (intro w_ hw_;have f0_:=HB2.out w_ hw_;obtain ⟨gg_,oo_,hgo_,hF_,c0_,c1_,c2_,c3_,c4_,c5_,c6_,c7_⟩:=HOP.out w_ hw_;cases hgo_;go_simp;(try with_reducible rfl);done));(try simp only [Act.put,List.setIfInBounds_toArray,List.set_cons_zero,List.set_cons_succ])) | (refine runL_call (f:=?_) (args:=?_) (w1:=?_) (by rfl) (by rfl) ?_ ?_;rotate_left 3;(focus (go_simp;refine ⟨⟨?_,?_⟩,?_⟩ <;> with_reducible rfl));(with_reducible refine (HTK.out _).mono ?_);rintro e w1 ⟨vt,rfl,hnt⟩;have HNT:=Lh hnt;replace hS:=hS.trans (hnt.1.mono hS.size);have HS1:=Lh hS;clear hnt;refine ⟨_,rfl,.inr hS,?_⟩;(try simp only [Act.put,List.setIfInBounds_toArray,List.set_cons_zero,List.set_cons_succ])) | (refine runL_call (f:=?_) (args:=?_) (w1:=?_) (by rfl) (by rfl) ?_ ?_;rotate_left 3;(focus (go_simp;refine ⟨⟨?_,?_⟩,?_⟩ <;> with_reducible rfl));(with_reducible refine (HMK.out _).mono ?_);rintro e w2 ⟨vm,rfl,hnm⟩;have HNM:=Lh hnm;replace hS:=hS.trans (hnm.1.mono hS.size);clear hnm;refine ⟨_,rfl,.inr hS,?_⟩;(try simp only [Act.put,List.setIfInBounds_toArray,List.set_cons_zero,List.set_cons_succ])))
 (refine runL_nil ?_)
 exact HK.out _ _ _ _ _ _ _ _ _ _ _ _ _ _ _ ⟨hS,(Rows.keep HNT.out.2 (SameOn.of_below HNM.out.1 fun j hj=>hj.2)).mono fun j hj=>⟨hj.1,Nat.lt_of_lt_of_le hj.2 HNM.out.1.size⟩,HNM.out.2.mono fun j hj=>⟨Nat.le_trans HS1.out.size hj.1,hj.2⟩⟩
set_option maxHeartbeats 4000000 in
theorem rl_r23 {bp g off no co k m q gs ge n:Nat} {s:Int×Int} {sp:List (Int×Int)} (w:World) (Q:Exit→Act→World→Prop) (hg:SpansR w gs sp) (hs:sp[q]? = some s) (hn:sp.length=n) (hb2:w.cell? ⟨bp,2,none⟩=some (.slice (some ⟨g,off,none⟩) no co)) (he:w.cell? ⟨ge,k,none⟩=some (.int .i64 (m:Nat))) (hd:w.cell? ⟨g,off+m*8+1,none⟩=some (.int .i64 (q:Nat))) (hk:k < no) (hm:m < no) (hno:no≤65536) (hqn:(bp < w.heap.size∧bp≠gs)∧(ge < w.heap.size∧ge≠gs)∧(g < w.heap.size∧g≠gs))
   (kk:∀ (jD jE jF jG jH jI jJ jK jL jM jO jP:Value) (w':World),SpansR w' gs (sp.set q (rnoteF s k))∧Chg (fun k=>k=gs) w w'→Q .normal ⟨#[aB,.pointer (some ⟨bp,0,none⟩),kV,kW,aC,.slice (some ⟨ge,0,none⟩) no no,.slice (some ⟨gs,0,none⟩) n n,kY,.int .i64 (k:Nat),lA,lB,lC,aE,aF,aG,aH,aI,aJ,aK,aL,aM,aN,aO,aP,aQ,aR,aS,aT,aU,aV,aW,aX,aY,aZ,a8,bA,bB,bC,bD,bE,bF,bG,bH,bI,bJ,bK,bL,bM,bN,bO,bP,bQ,bS,bT,bU,bV,bW,bX,bY,bZ,b4,b6,cA,cC,cD,cE,cF,cG,cH,cI,cJ,cK,cL,cM,cN,cO,cP,cQ,cR,cT,cU,cV,cW,cX,cY,cZ,c8,dA,dB,dC,jD,jE,jF,jG,jH,jI,jJ,jK,jL,jM,jO,jP,dP,dQ,dR,dS,dT,dU,dV,dW,dX,dY,dZ,d7,eA,eB,eC,eD,eE,eF,eG,eH,eI,eJ,eK,eL,eM,eN,eO,eP,eQ,eR,eS,eT,eU,eV,eW,eX,eY,eZ,fA,fB,fC,fD,fE,fF,fG,fH,fI,fJ,fK,fL,fM,fN,fO,fP,fQ,fR,fS,fT,fU,fV,fW,fX,fY,fZ,gA,gC,gD,gE],[]⟩ w'):(partR Tryd.f15 23).wp Tryd.prog Q ⟨#[aB,.pointer (some ⟨bp,0,none⟩),kV,kW,aC,.slice (some ⟨ge,0,none⟩) no no,.slice (some ⟨gs,0,none⟩) n n,kY,.int .i64 (k:Nat),lA,lB,lC,aE,aF,aG,aH,aI,aJ,aK,aL,aM,aN,aO,aP,aQ,aR,aS,aT,aU,aV,aW,aX,aY,aZ,a8,bA,bB,bC,bD,bE,bF,bG,bH,bI,bJ,bK,bL,bM,bN,bO,bP,bQ,bS,bT,bU,bV,bW,bX,bY,bZ,b4,b6,cA,cC,cD,cE,cF,cG,cH,cI,cJ,cK,cL,cM,cN,cO,cP,cQ,cR,cT,cU,cV,cW,cX,cY,cZ,c8,dA,dB,dC,dD,dE,dF,dG,dH,dI,dJ,dK,dL,dM,dN,dO,dP,dQ,dR,dS,dT,dU,dV,dW,dX,dY,dZ,d7,eA,eB,eC,eD,eE,eF,eG,eH,eI,eJ,eK,eL,eM,eN,eO,eP,eQ,eR,eS,eT,eU,eV,eW,eX,eY,eZ,fA,fB,fC,fD,fE,fF,fG,fH,fI,fJ,fK,fL,fM,fN,fO,fP,fQ,fR,fS,fT,fU,fV,fW,fX,fY,fZ,gA,gC,gD,gE],[]⟩ w:=by
 have HNT:=Lh (rnote_any gs q n sp s (k:Int) w.drew (hg.next (Below.refl _ _).drew) hs hn)
 have HC:=Lh (And.intro hb2 (And.intro he hd))
 have HQ:=Lh (And.intro (by have:=(List.getElem?_eq_some_iff.1 hs).1;omega:q < n) hqn)
 have i0:(0:Int)≤(k:Int):=by omega
 have i1:(k:Int) < (no:Int):=by omega
 have i2:(0:Int)≤(m:Int):=by omega
 have i3:(m:Int) < (no:Int):=by omega
 have q1:IntKind.i64.wrap (k:Int)=k:=by rw [IntKind.wrap_i64];omega
 have q2:IntKind.i64.wrap (m:Int)=m:=by rw [IntKind.wrap_i64];omega
 have HK:=Lh kk
 clear hg hs hn hb2 he hd kk hk hm hqn
 conv=>arg 2;whnf
 go_wp2_with fail
 (refine wp_region_lines (fun w_=>w_.cell? ⟨bp,2,none⟩=some (.slice (some ⟨g,off,none⟩) no co)∧w_.cell? ⟨ge,k,none⟩=some (.int .i64 (m:Nat))∧w_.cell? ⟨g,off+m*8+1,none⟩=some (.int .i64 (q:Nat))) (by kernel_rfl) (by kernel_rfl) HC.out ?_)
 (try simp only [])
 repeat (first | (refine runL_no (by rfl) ?_;(try simp only [Act.put,List.setIfInBounds_toArray,List.set_cons_zero,List.set_cons_succ])) | (refine runL_val (v:=?_) (by rfl) ?_ ?_;rotate_left;(focus (intro w_ hw_;obtain ⟨f1_,f2_,f3_⟩:=hw_;go_simp;(try with_reducible rfl);done));(try simp only [Act.put,List.setIfInBounds_toArray,List.set_cons_zero,List.set_cons_succ])) | (refine runL_call (f:=?_) (args:=?_) (w1:=?_) (by rfl) (by rfl) ?_ ?_;rotate_left 3;(focus (go_simp;refine ⟨⟨?_,?_⟩,?_⟩ <;> with_reducible rfl));(with_reducible refine (HNT.out).mono ?_);rintro e w1 ⟨rfl,hch,hsp⟩;have H1:=Lh (And.intro hch hsp);refine ⟨_,rfl,.inr ⟨(World.cell?_of_block (w:=w) (a:=⟨bp,2,none⟩) (hch.block bp HQ.out.2.1.1 HQ.out.2.1.2)).trans HC.out.1,(World.cell?_of_block (w:=w) (a:=⟨ge,k,none⟩) (hch.block ge HQ.out.2.2.1.1 HQ.out.2.2.1.2)).trans HC.out.2.1,(World.cell?_of_block (w:=w) (a:=⟨g,off+m*8+1,none⟩) (hch.block g HQ.out.2.2.2.1 HQ.out.2.2.2.2)).trans HC.out.2.2⟩,?_⟩;clear hch hsp;(try simp only [Act.put,List.setIfInBounds_toArray,List.set_cons_zero,List.set_cons_succ])))
 (refine runL_nil ?_)
 exact HK.out _ _ _ _ _ _ _ _ _ _ _ _ _ ⟨H1.out.2,(Chg.refl (fun k=>k=gs) w).drew.trans H1.out.1⟩
set_option maxHeartbeats 8000000 in
theorem rl_l10 {Ao:Option Addr} {bp gs ge n no co:Nat} {sp:List (Int×Int)} {E:List Int} {ops:List LOp} {G:Nat→Prop} (w:World) (Q:Exit→Act→World→Prop) (hg:SpansR w gs sp) (hn:sp.length=n) (hE:EndsAt w ge E) (hle:E.length=no) (hO:OpsAt w G (.slice Ao no co) ops) (hlo:ops.length=no) (hF:∀ k,G k→k < w.heap.size∧k≠gs) (hgg:gs≠ge) (hn3:n≤1000) (hn4:no≤65536)
   (hb0:w.cell? ⟨bp,0,none⟩=some (.int .i64 (n:Nat))) (hb2:w.cell? ⟨bp,2,none⟩=some (.slice Ao no co)) (hbp:bp < w.heap.size∧bp≠gs)
   (k1:∀ (nQ pQ jR jS jT jU jV jW jX jY jZ j5 j6 j7 j8 j9 kF kG kH kI kJ kK kL kN kO kP kQ kR kS kT kU m5 m6 m7 m8 oB oC oD oE oF oG oH oI oJ oK oL oM oN oO oP oQ oS oT oU oV nB nC nD nE nF nG nH nI nJ nK nL nM nN:Value) (w':World),Chg (fun k=>k=gs) w w'∧SpansR w' gs (passF ops E sp).1→Q (.exit 10) ⟨#[aB,.pointer (some ⟨bp,0,none⟩),kV,kW,aC,.slice (some ⟨ge,0,none⟩) no no,.slice (some ⟨gs,0,none⟩) n n,kY,kZ,lA,lB,lC,aE,.bool (passF ops E sp).2,nQ,pQ,aI,aJ,aK,aL,aM,aN,aO,aP,aQ,aR,aS,aT,aU,aV,aW,aX,aY,aZ,a8,bA,bB,bC,bD,bE,bF,bG,bH,bI,bJ,bK,bL,bM,bN,bO,bP,bQ,bS,bT,bU,bV,bW,bX,bY,bZ,b4,b6,cA,cC,cD,cE,cF,cG,cH,cI,cJ,cK,cL,cM,cN,cO,cP,cQ,cR,cT,cU,cV,cW,cX,cY,cZ,c8,dA,dB,dC,dD,dE,dF,dG,dH,dI,dJ,dK,dL,dM,dN,dO,dP,jR,jS,jT,jU,jV,jW,jX,jY,jZ,j5,j6,j7,j8,j9,kF,kG,kH,kI,kJ,kK,kL,kN,kO,kP,kQ,kR,kS,kT,kU,m5,m6,m7,m8,oB,oC,oD,oE,oF,oG,oH,oI,oJ,oK,oL,oM,oN,oO,oP,oQ,oS,oT,oU,oV,nB,nC,nD,nE,nF,nG,nH,nI,nJ,nK,nL,nM,nN,gE],[]⟩ w'):(partL Tryd.f15 10).wp Tryd.prog Q ⟨#[aB,.pointer (some ⟨bp,0,none⟩),kV,kW,aC,.slice (some ⟨ge,0,none⟩) no no,.slice (some ⟨gs,0,none⟩) n n,kY,kZ,lA,lB,lC,aE,.bool false,.int .i64 0,aH,aI,aJ,aK,aL,aM,aN,aO,aP,aQ,aR,aS,aT,aU,aV,aW,aX,aY,aZ,a8,bA,bB,bC,bD,bE,bF,bG,bH,bI,bJ,bK,bL,bM,bN,bO,bP,bQ,bS,bT,bU,bV,bW,bX,bY,bZ,b4,b6,cA,cC,cD,cE,cF,cG,cH,cI,cJ,cK,cL,cM,cN,cO,cP,cQ,cR,cT,cU,cV,cW,cX,cY,cZ,c8,dA,dB,dC,dD,dE,dF,dG,dH,dI,dJ,dK,dL,dM,dN,dO,dP,dQ,dR,dS,dT,dU,dV,dW,dX,dY,dZ,d7,eA,eB,eC,eD,eE,eF,eG,eH,eI,eJ,eK,eL,eM,eN,eO,eP,eQ,eR,eS,eT,eU,eV,eW,eX,eY,eZ,fA,fB,fC,fD,fE,fF,fG,fH,fI,fJ,fK,fL,fM,fN,fO,fP,fQ,fR,fS,fT,fU,fV,fW,fX,fY,fZ,gA,gC,gD,gE],[]⟩ w:=by
 have HG:=Lh hg
 have HN:=Lh hn
 have HE0:=Lh hE
 have HOPS:=Lh hO
 have HL:=Lh (And.intro hlo hle)
 have HGG:=Lh (And.intro hgg (lt_of_block hE))
 have HF:=Lh hF
 have HB:=Lh (And.intro hb0 hb2)
 have HBP:=Lh hbp
 have K1:=Lh k1
 clear hg hn hE hO hlo hle hgg k1 hF hb0 hb2 hbp
 conv=>arg 2;whnf
 go_wp2
 go_loopw [13,14] (fun bv j wr=>∃ (k:Nat) (bb:Bool),k≤no∧j=.int .i64 k∧bv=.bool bb∧Hid (bb=(passTo ops E sp k).2∧Chg (fun k=>k=gs) w wr∧SpansR wr gs (passTo ops E sp k).1)) (fun _ j _=>no - (intOf j).toNat)
 case atStart=>exact ⟨0,false,by omega,rfl,rfl,Lh ⟨rfl,Chg.refl _ _,HG.out⟩⟩
 case round =>
   obtain ⟨k,bb,hk,rfl,rfl,HJ⟩:=hrel
   have HEW:=Lh (show EndsAt wr ge E from (HJ.out.2.1.block ge HGG.out.2 (fun e=>HGG.out.1 e.symm)).trans HE0.out)
   have b0:=(World.cell?_of_block (w:=w) (w':=wr) (a:=⟨bp,0,none⟩) (HJ.out.2.1.block bp HBP.out.1 HBP.out.2)).trans HB.out.1
   have b2:=(World.cell?_of_block (w:=w) (w':=wr) (a:=⟨bp,2,none⟩) (HJ.out.2.1.block bp HBP.out.1 HBP.out.2)).trans HB.out.2
   by_cases hlt:k < no
   · obtain ⟨o,ho⟩:∃ o,ops[k]? = some o:=⟨_,List.getElem?_eq_getElem (by have:=HL.out.1;omega)⟩
     obtain ⟨e,he⟩:∃ e,E[k]? = some e:=⟨_,List.getElem?_eq_getElem (by have:=HL.out.2;omega)⟩
     obtain ⟨g,off,hA,hFg,x0,x1,x2,x3,x4,x5,x6,x7⟩:=HOPS.out.at_ ho
     subst hA
     have y0:=(World.cell?_of_block (w:=w) (w':=wr) (a:=⟨g,off+k*8,none⟩) (HJ.out.2.1.block g (HF.out g hFg).1 (HF.out g hFg).2)).trans x0
     have HNX:=Lh (pass_next (E:=E) (sp:=sp) ho)
     have HEK:=Lh he
     have HEG:=Lh (getD_of he)
     have i0:(0:Int)≤(k:Int):=by omega
     have i1:(k:Int) < (no:Int):=by omega
     have hkd1:decide (k < no)=true:=decide_eq_true hlt
     obtain ⟨kd,hkd⟩:∃ q,o.kind=q:=⟨_,rfl⟩
     have HKD:=Lh hkd
     rw [hkd] at y0
     have HGP:=Lh (HF.out g hFg)
     clear x0 x1 x2 x3 x4 x5 x6 x7 hFg ho he hkd
     by_cases h16:kd=16
     · subst h16
       have HN2:=Lh (HNX.out.trans (if_pos HKD.out))
       have HY:=Lh (And.intro b0 (And.intro b2 y0))
       go_wp2
       refine wp_code (c:=partL Tryd.f15 12) (by kernel_rfl) ?_
       refine rl_l12 (gs:=gs) (ge:=ge) (n:=n) (no:=no) (k:=k) (e:=e) (b:=bb) (sp:=(passTo ops E sp k).1) (E:=E) (g:=g) (off:=off) (co:=co) _ _ HJ.out.2.2 (by rw [pass_len];exact HN.out) HEW.out HEK.out hlt hn4 HGG.out.1 hn3 HY.out.1 HY.out.2.1 HY.out.2.2 ⟨Nat.lt_of_lt_of_le HBP.out.1 HJ.out.2.1.size,HBP.out.2⟩ ⟨Nat.lt_of_lt_of_le HGP.out.1 HJ.out.2.1.size,HGP.out.2⟩ ?_
       intro pQ jY jZ j5 j6 j7 j8 j9 kF kG kH kI kJ kK kL kN kO kP kQ kR kS kT kU m5 m6 m7 m8 oB oC oD oE oF oG oH oI oJ oK oL oM oN oO oP oQ oS oT oU oV nB nC nD nE nF nG nH nI nJ nK nL nM nN w8 h8
       have H8:=Lh h8
       clear h8 b0 b2 y0
       go_wp2
       go_roundw
       case rel=>exact ⟨k+1,_,by omega,by go_num,rfl,Lh ⟨by rw [HN2.out,HEG.out,HJ.out.1],HJ.out.2.1.trans H8.out.1,by rw [HN2.out,HEG.out];exact H8.out.2⟩⟩
       case measure=>simp [intOf];omega
     · have e16:(kd == 16)=false:=by simpa using h16
       have HN2:=Lh (HNX.out.trans (if_neg (by rw [HKD.out];exact h16)))
       clear h16
       by_cases h0:0 < n
       · have hd0:decide (0 < n)=true:=decide_eq_true h0
         have hd0':decide ((0:Int) < (n:Int))=true:=decide_eq_true (by omega)
         clear h0
         go_wp2
         refine wp_loop_rounds 1 ?_
         rw [rounds_succ]
         go_wp2
         go_roundw
         case rel=>exact ⟨k+1,bb,by omega,by go_num,rfl,Lh ⟨by rw [HN2.out];exact HJ.out.1,HJ.out.2.1,by rw [HN2.out];exact HJ.out.2.2⟩⟩
         case measure=>simp [intOf];omega
       · have hd0:decide (0 < n)=false:=decide_eq_false h0
         have hd0':decide ((0:Int) < (n:Int))=false:=decide_eq_false (by omega)
         clear h0
         go_wp2
         refine wp_loop_rounds 1 ?_
         rw [rounds_succ]
         go_wp2
         go_roundw
         case rel=>exact ⟨k+1,bb,by omega,by go_num,rfl,Lh ⟨by rw [HN2.out];exact HJ.out.1,HJ.out.2.1,by rw [HN2.out];exact HJ.out.2.2⟩⟩
         case measure=>simp [intOf];omega
   · have hkd1:decide (k < no)=false:=decide_eq_false hlt
     have HY:=Lh (show passTo ops E sp k=passF ops E sp by unfold passF;rw [show k=ops.length by have:=HL.out.1;omega])
     have HZ:=HJ.out.2.2
     rw [HY.out] at HZ
     have HZ:=Lh HZ
     have HBB:=Lh (show bb=(passF ops E sp).2 by rw [←HY.out];exact HJ.out.1)
     go_wp2
     rw [HBB.out]
     exact K1.out _ _ _ _ _ _ _ _ _ _ _ _ _ _ _ _ _ _ _ _ _ _ _ _ _ _ _ _ _ _ _ _ _ _ _ _ _ _ _ _ _ _ _ _ _ _ _ _ _ _ _ _ _ _ _ _ _ _ _ _ _ _ _ _ _ _ _ _ _ ⟨HJ.out.2.1,HZ.out⟩
end Go.Proofs.YtppoiahhaclleaaDoor
namespace Go.Proofs.YtppoiahhaclleaaDoor
open Go.RowKit
set_option maxRecDepth 100000
theorem make_spans (n:Nat) (hn:n≤65536) (w:World):(Instr.makeSlice 39 (.int .i64 n) (.int .i64 n)).run Tryd.prog w=.ok (.slice (some ⟨w.heap.size,0,none⟩) n n) (w.alloc (.cells (spV (List.replicate n (0,0))).toArray 43)):=by
 obtain ⟨i0,hi,hz0,hz1,hz2⟩:=info_parts info2
 have h:=run_make (P:=Tryd.prog) w 39 43 i0 (.agg #[.int .i64 0,.int .i64 0]) Tryd.underlying39 hi hz0 .i64 .i64 n n (by omega) (by omega) (by rw [hz2];omega) (by omega)
 rw [hz1] at h
 have e:(Value.agg #[.int .i64 0,.int .i64 0]).cells=#[.int .i64 0,.int .i64 0]:=rfl
 have e2:madeCells #[.int .i64 0,.int .i64 0] (n*2)=(spV (List.replicate n (0,0))).toArray:=by
   refine Array.ext (by simp [size_madeCells,spV_len]) fun i h1 h2=>?_
   have hi2:i < n*2:=by simpa [size_madeCells] using h1
   have hr:(List.replicate n ((0:Int),(0:Int)))[i / 2]? = some (0,0):=by rw [List.getElem?_replicate,if_pos (by omega)]
   have hg:=spV_get hr
   have hm:(spV (List.replicate n (0,0)))[i]? = some (.int .i64 0):=by
     rcases Nat.mod_two_eq_zero_or_one i with h | h
     · rw [show i=i / 2*2 by omega];exact hg.1
     · rw [show i=i / 2*2+1 by omega];exact hg.2
   have h3:(spV (List.replicate n (0,0))).toArray[i]=.int .i64 0:=by rw [List.getElem_toArray];exact (List.getElem?_eq_some_iff.1 hm).2
   rw [h3]
   simp only [madeCells,Array.getElem_map,Array.getElem_range]
   rcases Nat.mod_two_eq_zero_or_one i with h | h <;> simp [h]
 rw [e] at h
 simp only [Int.toNat_natCast,e2] at h
 exact h
def begS (n r:Nat):List (Int×Int):=List.replicate r (-1,-1)++List.replicate (n - r) (0,0)
theorem begS_get {n r:Nat} (h:r < n):(begS n r)[r]? = some (0,0):=by
 unfold begS
 rw [List.getElem?_append_right (by simp),List.length_replicate,Nat.sub_self,List.getElem?_replicate,if_pos (by omega)]
theorem begS_next {n r:Nat} (h:r < n):(begS n r).set r (-1,-1)=begS n (r+1):=by
 unfold begS
 rw [List.set_append_right _ _ (by simp),List.length_replicate,Nat.sub_self,show n - r=(n - (r+1))+1 by omega,List.replicate_succ,List.set_cons_zero,List.replicate_succ',List.append_assoc]
 rfl
theorem rnote_op {p:LP} {o:LOp} {E:List Int} {sp:List (Int×Int)} {k:Nat} {ext:List Int} (hf:fieldsF p o=true) (hsp:∀ s∈sp,s.2≤(k:Int)) (hext:regsOf p.ops E o k=[o.a,o.b,o.c,o.d,o.e]++ext) (h0:∀ r∈ext,0≤r) :
   (takesF o++makesF o++ext).foldl (fun sp r=>rnoteL sp r k) sp=noteOp p.ops E sp o k:=by
 obtain ⟨h1,h2⟩:=regs_same hf
 rw [rfold_eq hsp (fun r hr=>by
   rcases List.mem_append.1 hr with h | h
   · exact (h2 r h).1
   · exact h0 r h)]
 unfold noteOp
 rw [hext]
 refine fold_mem (fun j=>?_) _ _
 have:=h1 j
 constructor
 · intro h
   rcases List.mem_append.1 h with h | h
   · exact List.mem_append_left _ (this.1 h)
   · exact List.mem_append_right _ h
 · intro h
   rcases List.mem_append.1 h with h | h
   · exact List.mem_append_left _ (this.2 h)
   · exact List.mem_append_right _ h
theorem notes_le {p:LP} {E:List Int} {k:Nat} (hk:k≤p.ops.length):∀ s∈notesTo p E k,s.2≤(k:Int):=fun s hs=>by
 obtain ⟨r,hr⟩:=List.getElem?_of_mem hs
 have:=(notes_inv p E k hk r s hr).lt
 omega
set_option maxHeartbeats 16000000 in
theorem RLive_ok (p:LP) (Ab Ao:Option Addr) (nb cb no co n:Nat) (w:World) (hp:ProgAt w (fun k=>k < w.heap.size) [.int .i64 p.regs,.slice Ab nb cb,.slice Ao no co] p) (h0:(checkF p 64).2=0) (hn:p.regs=n) :
   Calls Tryd.prog 15 #[.agg #[.int .i64 p.regs,.slice Ab nb cb,.slice Ao no co]] w fun e w'=>∃ gs,e=.returned (.slice (some ⟨gs,0,none⟩) n n)∧w.heap.size≤gs∧SpansR w' gs (spansF p)∧Below w.heap.size w w':=by
 obtain ⟨W,hW,hbW,hzW,hl_,hr_⟩:=boxed w #[.int .i64 p.regs,.slice Ab nb cb,.slice Ao no co] 25
 have c0:W.cell? ⟨w.heap.size,0,none⟩=some (.int .i64 p.regs):=by rw [hl_];rfl
 have c1:W.cell? ⟨w.heap.size,1,none⟩=some (.slice Ab nb cb):=by rw [hl_];rfl
 have c2:W.cell? ⟨w.heap.size,2,none⟩=some (.slice Ao no co):=by rw [hl_];rfl
 have hlt:w.heap.size < W.heap.size:=by omega
 have hp1:=prog_next hp hbW
 have HC:=Lh (Rcheck_any p Ab Ao nb cb no co W hp1)
 rw [check_same] at HC
 have HW:=Lh hW
 have HB:=Lh hbW
 obtain ⟨x,hx⟩:∃ x,(checkF p 64).1=x:=⟨_,rfl⟩
 rw [hx,h0] at HC
 have hOps:OpsAt w (fun k=>k < w.heap.size) (.slice Ao no co) p.ops:=by
   obtain ⟨vb,vo,h,h1,h2⟩:=hp.row
   simp only [List.cons.injEq] at h
   rw [h.2.2.1];exact h2
 have hno:p.ops.length=no:=by obtain ⟨A,c,hv,_⟩:=rows_form hOps;cases hv;rfl
 have hhd:=head_ok (check_run h0).1
 have hno6:no≤65536:=by omega
 have hn64:n≤64:=by omega
 have HENDS:Hid (∀ wr,Below W.heap.size W wr→Calls Tryd.prog 21 #[.agg #[.int .i64 p.regs,.slice Ab nb cb,.slice Ao no co]] wr fun e w'=>∃ g,e=.returned (.slice (some ⟨g,0,none⟩) no no)∧wr.heap.size≤g∧w'.heap[g]? = some (.cells (intV (endsF p.ops)).toArray 3 (0,0))∧Below wr.heap.size wr w'):=Lh (by
   intro wr hb
   have h:=Rends_any p Ab Ao nb cb no co wr (prog_next hp1 hb) (by rw [check_same];exact h0)
   rw [hno] at h
   exact h)
 have HOPS:=Lh hOps
 have HNO:=Lh hno
 have HBAL:=Lh (check_bal h0)
 have HN:=Lh hn
 have HCF:=Lh (fun (k:Nat) (o:LOp) (ho:p.ops[k]? = some o)=>check_fields h0 ho)
 have HCS:=Lh (fun wr (hb:Below W.heap.size W wr)=>And.intro ((hb.cell (p:=⟨w.heap.size,0,none⟩) hlt).trans c0) (And.intro ((hb.cell (p:=⟨w.heap.size,1,none⟩) hlt).trans c1) ((hb.cell (p:=⟨w.heap.size,2,none⟩) hlt).trans c2)))
 have HLT:=Lh hlt
 clear hW hbW hzW hl_ hr_ hp hp1 hOps hno hhd h0 hx hlt
 rw [hn] at c0 HC HENDS HCS ⊢
 clear hn
 go_enter Tryd.func15,Tryd.ntmps15
 go_upto_region 1 with fail
 (first | rw [←HW.out] | rw [←HN.out,←HW.out,HN.out])
 go_upto_region 4 with ((with_reducible refine (HC.out).mono ?_);rintro e w1 ⟨rfl,hb1⟩;have H1:=Lh hb1;clear hb1)
 clear c0 c1 c2
 have HE:=Lh (HENDS.out w1 H1.out)
 have c0:w1.cell? ⟨w.heap.size,0,none⟩=some (.int .i64 n):=(HCS.out w1 H1.out).1
 have c1:w1.cell? ⟨w.heap.size,1,none⟩=some (.slice Ab nb cb):=(HCS.out w1 H1.out).2.1
 have c2:w1.cell? ⟨w.heap.size,2,none⟩=some (.slice Ao no co):=(HCS.out w1 H1.out).2.2
 go_upto_region 5 with ((with_reducible refine (HE.out).mono ?_);rintro e w2 ⟨ge,rfl,hge,hge2,hb3⟩;have H2:=Lh (And.intro (H1.out.trans (hb3.mono H1.out.size)) (And.intro hge hge2));clear hge hge2 hb3)
 have HEL:=Lh (show (endsF p.ops).length=no by rw [ends_len HBAL.out,HNO.out])
 have c3:w2.cell? ⟨w.heap.size,0,none⟩=some (.int .i64 n):=(HCS.out w2 H2.out.1).1
 have hmk:=make_spans n (by omega) w2
 obtain ⟨W3,hW3⟩:∃ q,q=w2.alloc (.cells (spV (List.replicate n (0,0))).toArray 43):=⟨_,rfl⟩
 obtain ⟨gs,hgs⟩:∃ g,w2.heap.size=g:=⟨_,rfl⟩
 have hb3:Below w2.heap.size w2 W3:=by rw [hW3];exact (Below.refl _ _).alloc (Nat.le_refl _) _
 have h3:SpansR W3 gs (begS n 0):=by rw [hW3,←hgs];exact heap_alloc_new w2 _
 rw [←hW3,hgs] at hmk
 have HBW3:=Lh (show Below W.heap.size W W3 from H2.out.1.trans (hb3.mono H2.out.1.size))
 have HE3:=Lh (show EndsAt W3 ge (endsF p.ops) from (hb3.block ge (lt_of_block H2.out.2.2)).trans H2.out.2.2)
 have HSP3:=Lh h3
 have HLL:=Lh (show w.heap.size < W.heap.size∧W.heap.size≤ge∧ge < gs from ⟨HLT.out,by have:=H2.out.2.1;have:=H1.out.size;omega,by rw [←hgs];exact lt_of_block H2.out.2.2⟩)
 clear c0 c1 c2 hW3 hgs hb3 h3
 go_upto_region 6 with fail
 clear hmk c3
 go_wp2
 go_loopw [7] (fun i wr=>∃ k:Nat,k≤n∧i=.int .i64 k∧Hid (Chg (fun k=>k=gs) W3 wr∧SpansR wr gs (begS n k))) (fun i _=>n - (intOf i).toNat)
 case atStart=>exact ⟨0,by omega,rfl,Lh ⟨Chg.refl _ _,HSP3.out⟩⟩
 case round =>
   obtain ⟨k,hk,rfl,HJ⟩:=hrel
   have b0:wr.cell? ⟨w.heap.size,0,none⟩=some (.int .i64 n):=(World.cell?_of_block (w:=W3) (w':=wr) (a:=⟨w.heap.size,0,none⟩) (HJ.out.1.block w.heap.size (by have:=HLL.out;have:=HBW3.out.size;omega) (by have:=HLL.out;omega))).trans (HCS.out W3 HBW3.out).1
   have b2:wr.cell? ⟨w.heap.size,2,none⟩=some (.slice Ao no co):=(World.cell?_of_block (w:=W3) (w':=wr) (a:=⟨w.heap.size,2,none⟩) (HJ.out.1.block w.heap.size (by have:=HLL.out;have:=HBW3.out.size;omega) (by have:=HLL.out;omega))).trans (HCS.out W3 HBW3.out).2.2
   by_cases hlt:k < n
   · have i0:(0:Int)≤(k:Int):=by omega
     have i1:(k:Int) < (n:Int):=by omega
     have hkd1:decide (k < n)=true:=decide_eq_true hlt
     have hr:=begS_get hlt
     have hcc:=HJ.out.2.cells hr
     have hc1:=hcc.1
     have hc2:=hcc.2
     have hff:∀ j,wr.frozen? ⟨gs,j,none⟩=false:=fun j=>frozen_row HJ.out.2 j
     have hf1:=hff (k*2)
     have hS1:=setCell_row HJ.out.2 (k*2) (.int .i64 (-1))
     have hS2:=setCell_row hS1 (k*2+1) (.int .i64 (-1))
     have hc3:(wr.setCell ⟨gs,k*2,none⟩ (.int .i64 (-1))).cell? ⟨gs,k*2+1,none⟩=some (.int .i64 0):=cell_row hS1 (by rw [List.getElem?_set_ne (by omega)];exact (spV_get hr).2)
     have hf2:(wr.setCell ⟨gs,k*2,none⟩ (.int .i64 (-1))).frozen? ⟨gs,k*2+1,none⟩=false:=frozen_row hS1 _
     rw [spV_set hr (-1) (-1),begS_next hlt] at hS2
     have HS2:=Lh hS2
     clear hr hcc hff hS1 hS2 b2
     go_wp2
     go_roundw
     case rel=>exact ⟨k+1,by omega,by go_num,Lh ⟨((HJ.out.1).setCell (.inl rfl) _).setCell (.inl rfl) _,HS2.out⟩⟩
     case measure=>simp [intOf];omega
   · have HB0:=Lh (show Below w.heap.size w wr from HB.out.trans ((below_chg HBW3.out HJ.out.1 (fun j hj=>by have:=HLL.out;omega)).mono HB.out.size))
     have HSN:=Lh (show SpansR wr gs (notesTo p (endsF p.ops) 0) by
       have h:notesTo p (endsF p.ops) 0=begS n k:=by
         show List.replicate p.regs.toNat (-1,-1)=_
         rw [HN.out,show k=n by omega];unfold begS;simp
       rw [h];exact HJ.out.2)
     have HEN:=Lh (show EndsAt wr ge (endsF p.ops) from (HJ.out.1.block ge (lt_of_block HE3.out) (by have:=HLL.out;omega)).trans HE3.out)
     have hkd1:decide (k < n)=false:=decide_eq_false hlt
     have B2:=Lh b2
     have B0:=Lh b0
     obtain ⟨wz,hwz⟩:∃ q,q=wr:=⟨_,rfl⟩
     go_wp2
     clear b0 b2 hlt hkd1 hk
     rw [←hwz] at HJ HB0 HSN HEN B2 B0 ⊢
     clear hwz HJ
     go_loopw [8] (fun i wr=>∃ k:Nat,k≤no∧i=.int .i64 k∧Hid (Below w.heap.size w wr∧SpansR wr gs (notesTo p (endsF p.ops) k)∧EndsAt wr ge (endsF p.ops)∧wr.cell? ⟨w.heap.size,2,none⟩=some (.slice Ao no co)∧wr.cell? ⟨w.heap.size,0,none⟩=some (.int .i64 n))) (fun i _=>no - (intOf i).toNat)
     case atStart=>exact ⟨0,by omega,rfl,Lh ⟨HB0.out,HSN.out,HEN.out,B2.out,B0.out⟩⟩
     case round =>
       obtain ⟨k,hk,rfl,HJ⟩:=hrel
       have b2:=HJ.out.2.2.2.1
       by_cases hlt:k < no
       · have hkd1:decide (k < no)=true:=decide_eq_true hlt
         obtain ⟨o,ho⟩:∃ o,p.ops[k]? = some o:=⟨_,List.getElem?_eq_getElem (by rw [HNO.out];omega)⟩
         obtain ⟨g,off,hA,hFg,x0,x1,x2,x3,x4,x5,x6,x7⟩:=HOPS.out.at_ ho
         subst hA
         have HX0:=Lh x0
         have HNX:=Lh (notes_next (E:=endsF p.ops) ho)
         have HO:=Lh ho
         have HRG:=Lh (regs_same (HCF.out k o ho))
         have HRI:=Lh (regs_is (HCF.out k o ho))
         have HGW:=Lh (show g < w.heap.size from hFg)
         have HGSL:=Lh (lt_of_block HJ.out.2.1)
         have HGEL:=Lh (lt_of_block HJ.out.2.2.1)
         have HNL:=Lh (show (notesTo p (endsF p.ops) k).length=n by rw [notes_len,HN.out];rfl)
         have i0:(0:Int)≤(k:Int):=by omega
         have i1:(k:Int) < (no:Int):=by omega
         clear x0 x1 x2 x3 x4 x5 x6 x7 hFg ho
         go_wp2
         refine wp_code (c:=partR Tryd.f15 13) (by kernel_rfl) ?_
         refine rl_r13 (g:=g) (off:=off) (co:=co) (no:=no) (k:=k) (o:=o) (ops:=p.ops) _ _ ((Rows.keep HOPS.out (SameOn.of_below HJ.out.1 fun _ h=>h)).mono fun j hj=>Nat.lt_of_lt_of_le hj HJ.out.1.size) HO.out HNO.out hno6 HJ.out.2.2.2.1 (by have:=HLL.out;have:=HGSL.out;omega) HRI.out.1 HRI.out.2.1 ?_
         intro mM mN lL lM lN lO lP lQ lR lS lT lU lV lW w5 h5
         obtain ⟨At,ct,rfl,_⟩:=rows_form h5.2.1
         obtain ⟨Am,cm,rfl,_⟩:=rows_form h5.2.2
         have H5:=Lh h5
         clear h5 b2
         have HTL:=Lh (show (takesF o).length≤1000∧(makesF o).length≤1000 by
           constructor
           · unfold takesF;split <;> (try split) <;> (try split) <;> (try split) <;> (try split) <;> (try split) <;> simp
           · unfold makesF;split <;> (try split) <;> simp)
         have HR1:=Lh (show ∀ r∈takesF o,0≤r∧r < (n:Int) from fun r hr=>by have:=HRG.out.2 r (List.mem_append_left _ hr);have:=HN.out;omega)
         have HR2:=Lh (show ∀ r∈makesF o,0≤r∧r < (n:Int) from fun r hr=>by have:=HRG.out.2 r (List.mem_append_right _ hr);have:=HN.out;omega)
         go_wp2
         refine wp_code (c:=partL Tryd.f15 4) (by kernel_rfl) ?_
         refine rl_l4 (gs:=gs) (n:=n) (i:=(k:Int)) (sp:=notesTo p (endsF p.ops) k) (l:=takesF o) (G:=New wr w5) _ _ (HJ.out.2.1.next H5.out.1) HNL.out H5.out.2.1 (fun j hj=>⟨by have h:wr.heap.size≤j:=hj.1;have:=HGSL.out;omega,hj.2⟩) (by simp) (by have:=HTL.out.1;simpa using this) HR1.out ?_
         intro mO lX lY lZ l5 l6 l7 l8 l9 mA mB mC mD mE w6 h6
         have H6:=Lh h6
         clear h6
         go_wp2
         refine wp_code (c:=partL Tryd.f15 6) (by kernel_rfl) ?_
         refine rl_l6 (gs:=gs) (n:=n) (i:=(k:Int)) (sp:=(takesF o).foldl (fun sp r=>rnoteL sp r k) (notesTo p (endsF p.ops) k)) (l:=makesF o) (G:=New wr w5) _ _ H6.out.2 (by rw [rfold_len];exact HNL.out) (Rows.keep H5.out.2.2 (H6.out.1.same fun j hj=>⟨hj.2,by have h:wr.heap.size≤j:=hj.1;have:=HGSL.out;omega⟩)) (fun j hj=>⟨by have h:wr.heap.size≤j:=hj.1;have:=HGSL.out;omega,Nat.lt_of_lt_of_le hj.2 H6.out.1.size⟩) (by simp) (by have:=HTL.out.2;simpa using this) HR2.out ?_
         intro mP mF mG mH mI mJ mY iS iT iU iV iW iX iY w7 h7
         have H7:=Lh h7
         clear h7
         have HCH:=Lh (show Chg (fun k=>k=gs) wr w7 from ((Chg.of_below H5.out.1).trans H6.out.1).trans H7.out.1)
         have HBW7:=Lh (below_chg HJ.out.1 HCH.out (fun j hj=>by have:=HLL.out;omega))
         have b7:∀ j,w7.cell? ⟨w.heap.size,j,none⟩=wr.cell? ⟨w.heap.size,j,none⟩:=fun j=>World.cell?_of_block (w:=wr) (w':=w7) (a:=⟨w.heap.size,j,none⟩) (HCH.out.block w.heap.size (by have:=HLL.out;have:=HGSL.out;omega) (by have:=HLL.out;omega))
         have d2:=(b7 2).trans HJ.out.2.2.2.1
         have D0:=Lh ((b7 0).trans HJ.out.2.2.2.2)
         have D2:=Lh d2
         have HE7:=Lh (show EndsAt w7 ge (endsF p.ops) from (HCH.out.block ge HGEL.out (by have:=HLL.out;omega)).trans HJ.out.2.2.1)
         obtain ⟨kd,hkd⟩:∃ q,o.kind=q:=⟨_,rfl⟩
         have HKD:=Lh hkd
         have y0:=(HBW7.out.cell (p:=⟨g,off+k*8,none⟩) HGW.out).trans HX0.out
         rw [hkd] at y0
         have HS7:=Lh (show SpansR w7 gs ((takesF o++makesF o).foldl (fun sp r=>rnoteL sp r k) (notesTo p (endsF p.ops) k)) by rw [List.foldl_append];exact H7.out.2)
         have HLE:=Lh (notes_le (p:=p) (E:=endsF p.ops) (k:=k) (by rw [HNO.out];omega))
         clear b7 hkd
         by_cases h17:kd=17
         · obtain ⟨m,q,hmk,hem,hq,hq16⟩:=ends_end HBAL.out HO.out (by rw [HKD.out];exact h17)
           obtain ⟨g',off',hA',hFg',_,z1,_⟩:=HOPS.out.at_ hq
           cases hA'
           have hek:(endsF p.ops)[k]? = some (m:Int):=by
             have h1:k < (endsF p.ops).length:=by rw [HEL.out];exact hlt
             rw [List.getD_eq_getElem?_getD,List.getElem?_eq_getElem h1] at hem
             rw [List.getElem?_eq_getElem h1]
             exact congrArg some hem
           have hqd:0≤q.d∧q.d < (n:Int):=by
             have h:=(regs_same (HCF.out m q hq)).2 q.d (List.mem_append_right _ (by unfold makesF;rw [hq16];simp))
             have:=HN.out
             omega
           obtain ⟨qd,hqd2⟩:∃ x:Nat,q.d=x:=⟨q.d.toNat,by omega⟩
           have HRO:=Lh (show regsOf p.ops (endsF p.ops) o k=[o.a,o.b,o.c,o.d,o.e]++[(qd:Int)] by unfold regsOf;rw [if_pos (by rw [HKD.out];exact h17),hem,Int.toNat_natCast,hq,←hqd2];rfl)
           have HOP:=Lh (rnote_op (p:=p) (o:=o) (E:=endsF p.ops) (sp:=notesTo p (endsF p.ops) k) (k:=k) (HCF.out k o HO.out) HLE.out HRO.out (by simp))
           have hlen:((takesF o++makesF o).foldl (fun sp r=>rnoteL sp r k) (notesTo p (endsF p.ops) k)).length=n:=by rw [rfold_len];exact HNL.out
           obtain ⟨s,hs⟩:∃ s,((takesF o++makesF o).foldl (fun sp r=>rnoteL sp r k) (notesTo p (endsF p.ops) k))[qd]? = some s:=⟨_,List.getElem?_eq_getElem (by omega)⟩
           have HSS:=Lh (And.intro hs hlen)
           have HPOS:=Lh (rnoteL_pos (i:=(k:Int)) hs)
           have z2:=(HBW7.out.cell (p:=⟨g,off+m*8+1,none⟩) hFg').trans z1
           rw [hqd2] at z2
           have HZ:=Lh (And.intro (HE7.out.cell hek) z2)
           have HMK:=Lh hmk
           have e17:(kd == 17)=true:=by simpa using h17
           clear h17 hmk hem hq hq16 hFg' z1 hek hqd hqd2 hlen hs z2
           go_wp2
           refine wp_code (c:=partR Tryd.f15 23) (by kernel_rfl) ?_
           refine rl_r23 (g:=g) (off:=off) (co:=co) (no:=no) (k:=k) (m:=m) (q:=qd) (gs:=gs) (ge:=ge) (n:=n) (s:=s) _ _ HS7.out HSS.out.1 HSS.out.2 D2.out HZ.out.1 HZ.out.2 hlt (by have:=HMK.out;omega) hno6 (by have:=HLL.out;have:=HGW.out;have:=HBW7.out.size;have:=HGSL.out;have:=HCH.out.size;omega) ?_
           intro jD jE jF jG jH jI jJ jK jL jM jO jP w8 h8
           have H8:=Lh h8
           have HC8:=Lh (HCH.out.trans h8.2)
           clear h8 d2 y0
           have b8:∀ j,w8.cell? ⟨w.heap.size,j,none⟩=wr.cell? ⟨w.heap.size,j,none⟩:=fun j=>World.cell?_of_block (w:=wr) (w':=w8) (a:=⟨w.heap.size,j,none⟩) (HC8.out.block w.heap.size (by have:=HLL.out;have:=HGSL.out;omega) (by have:=HLL.out;omega))
           have HB8:=Lh b8
           clear b8
           go_wp2
           go_roundw
           case rel =>
             refine ⟨k+1,by omega,by go_num,Lh ⟨below_chg HJ.out.1 HC8.out (fun j hj=>by have:=HLL.out;omega),?_,(HC8.out.block ge HGEL.out (by have:=HLL.out;omega)).trans HJ.out.2.2.1,(HB8.out 2).trans HJ.out.2.2.2.1,(HB8.out 0).trans HJ.out.2.2.2.2⟩⟩
             rw [HNX.out]
             have h:=HOP.out
             rw [List.foldl_append] at h
             have h9:=H8.out.1
             rw [←HPOS.out] at h9
             show SpansR w8 gs (noteOp p.ops (endsF p.ops) (notesTo p (endsF p.ops) k) o k)
             rw [←h]
             exact h9
           case measure=>simp [intOf];omega
         · have e17:(kd == 17)=false:=by simpa using h17
           have HRO:=Lh (show regsOf p.ops (endsF p.ops) o k=[o.a,o.b,o.c,o.d,o.e]++[] by unfold regsOf;rw [if_neg (by rw [HKD.out];exact h17)])
           have HOP:=Lh (rnote_op (p:=p) (o:=o) (E:=endsF p.ops) (sp:=notesTo p (endsF p.ops) k) (k:=k) (HCF.out k o HO.out) HLE.out HRO.out (by simp))
           clear h17
           go_wp2
           go_roundw
           case rel =>
             refine ⟨k+1,by omega,by go_num,Lh ⟨HBW7.out,?_,HE7.out,D2.out,D0.out⟩⟩
             rw [HNX.out]
             have h:=HOP.out
             rw [List.append_nil] at h
             show SpansR w7 gs (noteOp p.ops (endsF p.ops) (notesTo p (endsF p.ops) k) o k)
             rw [←h]
             exact HS7.out
           case measure=>simp [intOf];omega
       · have hkd1:decide (k < no)=false:=decide_eq_false hlt
         have hkno:k=p.ops.length:=by rw [HNO.out];omega
         have HSN2:=Lh (show SpansR wr gs (notesTo p (endsF p.ops) p.ops.length) by rw [←hkno];exact HJ.out.2.1)
         have HNL:=Lh (show (notesTo p (endsF p.ops) p.ops.length).length=n by rw [notes_len,HN.out];rfl)
         have HEB:=Lh (show ∀ (k:Nat) (o:LOp),p.ops[k]? = some o→o.kind=16→(endsF p.ops).getD k 0≤p.ops.length from fun k o ho hk=>by obtain ⟨i,_,h1,h2⟩:=ends_loop HBAL.out ho hk;rw [h2];omega)
         clear hkno
         go_wp2
         clear b2 hlt hkd1
         go_loopg [13] (leftF p.ops.length (notesTo p (endsF p.ops) p.ops.length)+1) (fun gk bv wr=>∃ (b:Bool) (sp:List (Int×Int)),bv=.bool b∧Hid ((SpansR wr gs sp∧sp.length=n∧EndsAt wr ge (endsF p.ops)∧Below w.heap.size w wr)∧(wr.cell? ⟨w.heap.size,2,none⟩=some (.slice Ao no co)∧wr.cell? ⟨w.heap.size,0,none⟩=some (.int .i64 n)) ∧
           ((b=true→moreF p.ops (endsF p.ops) gk sp=spansF p∧leftF p.ops.length sp < gk)∧(b=false→sp=spansF p))))
         case atStart=>exact ⟨true,_,rfl,Lh ⟨⟨HSN2.out,HNL.out,HJ.out.2.2.1,HJ.out.1⟩,⟨HJ.out.2.2.2.1,HJ.out.2.2.2.2⟩,⟨fun _=>⟨rfl,Nat.lt_succ_self _⟩,fun h=>by cases h⟩⟩⟩
         case round =>
           obtain ⟨b,sp,rfl,HH⟩:=hrel
           cases b
           · have HY:=Lh (HH.out.2.2.2 rfl)
             go_wp2
             go_ret
             exact ⟨gs,rfl,by have:=HLL.out;omega,by rw [←HY.out];exact HH.out.1.1,HH.out.1.2.2.2⟩
           · have HY:=Lh (HH.out.2.2.1 rfl)
             obtain ⟨f,hf⟩:∃ f,gk=f+1:=⟨gk - 1,by have:=HY.out.2;omega⟩
             have HFF:=Lh hf
             have HP:=Lh (pass_left (n:=p.ops.length) HEB.out p.ops.length (sp:=sp))
             have HGG:=Lh (lt_of_block HH.out.1.1)
             have HGE2:=Lh (lt_of_block HH.out.1.2.2.1)
             clear hf
             go_wp2
             refine wp_code (c:=partL Tryd.f15 10) (by kernel_rfl) ?_
             refine rl_l10 (gs:=gs) (ge:=ge) (n:=n) (no:=no) (sp:=sp) (E:=endsF p.ops) (ops:=p.ops) (Ao:=Ao) (co:=co) _ _ HH.out.1.1 HH.out.1.2.1 HH.out.1.2.2.1 HEL.out (Rows.keep HOPS.out (SameOn.of_below HH.out.1.2.2.2 fun _ h=>h)) HNO.out (fun j hj=>by have h:j < w.heap.size:=hj;have:=HLL.out;have:=HH.out.1.2.2.2.size;omega) (by have:=HLL.out;omega) (by omega) hno6 HH.out.2.1.2 HH.out.2.1.1 (by have:=HLL.out;have:=HGG.out;omega) ?_
             intro nQ pQ jR jS jT jU jV jW jX jY jZ j5 j6 j7 j8 j9 kF kG kH kI kJ kK kL kN kO kP kQ kR kS kT kU m5 m6 m7 m8 oB oC oD oE oF oG oH oI oJ oK oL oM oN oO oP oQ oS oT oU oV nB nC nD nE nF nG nH nI nJ nK nL nM nN w9 h9
             have H9:=Lh h9
             have b9:∀ j,w9.cell? ⟨w.heap.size,j,none⟩=wr.cell? ⟨w.heap.size,j,none⟩:=fun j=>World.cell?_of_block (w:=wr) (w':=w9) (a:=⟨w.heap.size,j,none⟩) (h9.1.block w.heap.size (by have:=HLL.out;have:=HGG.out;omega) (by have:=HLL.out;omega))
             have HB9:=Lh b9
             have HE9:=Lh (show EndsAt w9 ge (endsF p.ops) from (h9.1.block ge HGE2.out (by have:=HLL.out;omega)).trans HH.out.1.2.2.1)
             have HM:=Lh (show moreF p.ops (endsF p.ops) (f+1) sp=spansF p by rw [←HFF.out];exact HY.out.1)
             have HLE:=Lh (show leftF p.ops.length sp < f+1 by rw [←HFF.out];exact HY.out.2)
             have HL9:=Lh (show (passF p.ops (endsF p.ops) sp).1.length=n by unfold passF;rw [pass_len];exact HH.out.1.2.1)
             obtain ⟨bb,hbb⟩:∃ x,(passF p.ops (endsF p.ops) sp).2=x:=⟨_,rfl⟩
             rw [hbb]
             have HBB:=Lh hbb
             clear h9 b9 hbb
             go_wp2
             go_roundg f
             case measure=>have:=HFF.out;omega
             case rel =>
               refine ⟨bb,(passF p.ops (endsF p.ops) sp).1,rfl,Lh ⟨⟨H9.out.2,HL9.out,HE9.out,below_chg HH.out.1.2.2.2 H9.out.1 (fun j hj=>by have:=HLL.out;omega)⟩,⟨(HB9.out 2).trans HH.out.2.1.1,(HB9.out 0).trans HH.out.2.1.2⟩,⟨fun h=>?_,fun h=>?_⟩⟩⟩
               · have h1:=HM.out
                 simp only [moreF] at h1
                 rw [if_pos (by rw [HBB.out];exact h)] at h1
                 have h2:=HP.out.2 (show (passTo p.ops (endsF p.ops) sp p.ops.length).2=true by have:=HBB.out;unfold passF at this;rw [this];exact h)
                 have h3:=HLE.out
                 exact ⟨h1,by unfold passF;omega⟩
               · have h1:=HM.out
                 simp only [moreF] at h1
                 rwa [if_neg (by rw [HBB.out,h];decide)] at h1
end Go.Proofs.YtppoiahhaclleaaDoor
