/- Part 22 of a claim; what it proves stands in its last text. -/
import Derived.Test.YtppoiahhaclleaaDoorAr21
import Derived.Test.YtppoiahhaclleaaDoorAr20
import Derived.Test.YtppoiahhaclleaaDoorAr5
namespace Go.Proofs.YtppoiahhaclleaaDoor
open Go.RowKit
set_option maxRecDepth 100000
variable {aA kV kW aC aD kX kY kZ lA lB lC aE aF aG aH aI aJ aK aL aM aN aO aP aQ aR aS aT aU aV aW aX aY aZ a8 bA bB bC bD bE bF bG bH bI bJ bK bL bM bN bO bP bQ bS bT bU bV bW bX bY bZ b4 b6 cA cC cD cE cF cG cH cI cJ cK cL cM cN cO cP cQ cR cT cU cV cW cX cY cZ c8 dA dB dC dD dE dF dG dH dI dJ dK dL dM dN dO dP dQ dR dS dT dU dV dW dX dY dZ d7 eA eB eC eD eE eF eG eH eI eJ eK eL eM eN eO eP eQ eR eS eT eU eV eW eX eY eZ fA fB fC fD fE fF fG fH fI fJ fK fL fM fN fO fP fQ fR fS fT fU fV fW fX fY fZ gA gC gD gE gF gG gH gI gJ gK gL gM gN gO gP gQ gR gS gT gU gV gW gX gY gZ g9 hJ hY hZ iA iB iC iD iE iF iG : Value}
structure DoAt (B:Nat) (w0:World) (F0:Nat→Prop) (w:World) (bx gr bo:Nat) (o:LOp) (regs:Int) (vb vo vB:Value) (gs:List Nat) (vl:Value) (r:List Nat) (bufs:List (List Nat)) (l:List (Int×Int)):Prop where
 run:RunAt B w0 F0 w bx gr regs vb vo vB gs vl r bufs l
 op:OpAt w bo o
 ap:bx≠bo∧gr≠bo∧∀ g∈gs,g≠bo
section
variable {B:Nat} {F0:Nat→Prop} {w0 w w':World} {bx gr bo:Nat} {o:LOp} {regs:Int} {vb vo vB vl:Value} {gs:List Nat} {r:List Nat} {bufs:List (List Nat)} {l:List (Int×Int)}
theorem DoAt.next (h:DoAt B w0 F0 w bx gr bo o regs vb vo vB gs vl r bufs l) (hb:Below w.heap.size w w'):DoAt B w0 F0 w' bx gr bo o regs vb vo vB gs vl r bufs l:=⟨h.run.next hb,op_next h.op hb,h.ap⟩
theorem DoAt.drew (h:DoAt B w0 F0 w bx gr bo o regs vb vo vB gs vl r bufs l):DoAt B w0 F0 w.drew bx gr bo o regs vb vo vB gs vl r bufs l:=h.next (Below.refl _ _).drew
theorem DoAt.setReg (h:DoAt B w0 F0 w bx gr bo o regs vb vo vB gs vl r bufs l) (k x:Nat):DoAt B w0 F0 (w.setCell ⟨gr,k,none⟩ (.int .u64 (x:Nat))) bx gr bo o regs vb vo vB gs vl (r.set k x) bufs l :=
 ⟨h.run.setReg k x,(Below.heap_setCell _ _ _ _ (fun e=>h.ap.2.1 e.symm)).trans h.op,h.ap⟩
theorem DoAt.setLimb (h:DoAt B w0 F0 w bx gr bo o regs vb vo vB gs vl r bufs l) {k g:Nat} {row:List Nat} (hx:bufs[k]? = some row) (hg:gs[k]? = some g) (j x:Nat):DoAt B w0 F0 (w.setCell ⟨g,j,none⟩ (.int .u64 (x:Nat))) bx gr bo o regs vb vo vB gs vl r (bufs.set k (row.set j x)) l :=
 ⟨h.run.setLimb hx hg j x,(Below.heap_setCell _ _ _ _ (fun e=>h.ap.2.2 g (List.mem_of_getElem? hg) e.symm)).trans h.op,h.ap⟩
theorem RunAt.frozen_reg (h:RunAt B w0 F0 w bx gr regs vb vo vB gs vl r bufs l) (k:Nat):w.frozen? ⟨gr,k,none⟩=false:=h.sep.frozen 1 k rfl
theorem RunAt.frozen_limb (h:RunAt B w0 F0 w bx gr regs vb vo vB gs vl r bufs l) {k g:Nat} {row:List Nat} (hx:bufs[k]? = some row) (hg:gs[k]? = some g) (j:Nat):w.frozen? ⟨g,j,none⟩=false:=h.sep.frozen (k+4) j (h.buf hx hg)
theorem atR_lt {r:List Nat} (h:∀ x∈r,x < 18446744073709551616) (k:Int):atR r k < 18446744073709551616:=by
 unfold atR
 split
 · decide
 · rw [List.getD_eq_getElem?_getD]
   cases hx:r[k.toNat]? with
   | none=>decide
   | some x=>exact h x (List.mem_of_getElem? hx)
end
set_option maxHeartbeats 4000000 in
theorem do_r2 {B:Nat} {F0:Nat→Prop} {w0:World} {bx gr bo:Nat} {o:LOp} {regs:Int} {vb vo vB vl:Value} {gs r:List Nat} {bufs:List (List Nat)} {l:List (Int×Int)} (w:World) (Q:Exit→Act→World→Prop) (h:DoAt B w0 F0 w bx gr bo o regs vb vo vB gs vl r bufs l) (ha:o.a < r.length∧o.b < r.length∧o.c < r.length)
   (k:∀ (pL pM pN pO mQ mR mS mT mU mV mW mX lD lE:Value) (w':World),DoAt B w0 F0 w' bx gr bo o regs vb vo vB gs vl r bufs l→Q .normal ⟨#[.pointer (some ⟨bx,0,none⟩),aA,kV,kW,aC,.pointer (some ⟨bo,0,none⟩),.int .u64 (atR r o.a:Nat),.int .u64 (atR r o.b:Nat),.bool (atR r o.c % 2 == 1),lA,lB,lC,aE,aF,aG,aH,aI,aJ,aK,aL,aM,aN,aO,aP,aQ,pL,pM,pN,pO,mQ,mR,mS,mT,mU,mV,mW,mX,lD,lE,bE,bF,bG,bH,bI,bJ,bK,bL,bM,bN,bO,bP,bQ,bS,bT,bU,bV,bW,bX,bY,bZ,b4,b6,cA,cC,cD,cE,cF,cG,cH,cI,cJ,cK,cL,cM,cN,cO,cP,cQ,cR,cT,cU,cV,cW,cX,cY,cZ,c8,dA,dB,dC,dD,dE,dF,dG,dH,dI,dJ,dK,dL,dM,dN,dO,dP,dQ,dR,dS,dT,dU,dV,dW,dX,dY,dZ,d7,eA,eB,eC,eD,eE,eF,eG,eH,eI,eJ,eK,eL,eM,eN,eO,eP,eQ,eR,eS,eT,eU,eV,eW,eX,eY,eZ,fA,fB,fC,fD,fE,fF,fG,fH,fI,fJ,fK,fL,fM,fN,fO,fP,fQ,fR,fS,fT,fU,fV,fW,fX,fY,fZ,gA,gC,gD,gE,gF,gG,gH,gI,gJ,gK,gL,gM,gN,gO,gP,gQ,gR,gS,gT,gU,gV,gW,gX,gY,gZ,g9,hJ,hY,hZ,iA,iB,iC,iD,iE,iF,iG],[]⟩ w'):(partR Tryd.f43 2).wp Tryd.prog Q ⟨#[.pointer (some ⟨bx,0,none⟩),aA,kV,kW,aC,.pointer (some ⟨bo,0,none⟩),kX,kY,kZ,lA,lB,lC,aE,aF,aG,aH,aI,aJ,aK,aL,aM,aN,aO,aP,aQ,aR,aS,aT,aU,aV,aW,aX,aY,aZ,a8,bA,bB,bC,bD,bE,bF,bG,bH,bI,bJ,bK,bL,bM,bN,bO,bP,bQ,bS,bT,bU,bV,bW,bX,bY,bZ,b4,b6,cA,cC,cD,cE,cF,cG,cH,cI,cJ,cK,cL,cM,cN,cO,cP,cQ,cR,cT,cU,cV,cW,cX,cY,cZ,c8,dA,dB,dC,dD,dE,dF,dG,dH,dI,dJ,dK,dL,dM,dN,dO,dP,dQ,dR,dS,dT,dU,dV,dW,dX,dY,dZ,d7,eA,eB,eC,eD,eE,eF,eG,eH,eI,eJ,eK,eL,eM,eN,eO,eP,eQ,eR,eS,eT,eU,eV,eW,eX,eY,eZ,fA,fB,fC,fD,fE,fF,fG,fH,fI,fJ,fK,fL,fM,fN,fO,fP,fQ,fR,fS,fT,fU,fV,fW,fX,fY,fZ,gA,gC,gD,gE,gF,gG,gH,gI,gJ,gK,gL,gM,gN,gO,gP,gQ,gR,gS,gT,gU,gV,gW,gX,gY,gZ,g9,hJ,hY,hZ,iA,iB,iC,iD,iE,iF,iG],[]⟩ w:=by
 have HD:=Lh h
 have HAT:=Lh (fun (k:Int) (hk:k < r.length) (W:World) (hW:DoAt B w0 F0 W bx gr bo o regs vb vo vB gs vl r bufs l)=>at_run k W hW.run hk)
 have HKS:=Lh ha
 obtain ⟨a,ea⟩:∃ q,atR r o.a=q:=⟨_,rfl⟩
 obtain ⟨b,eb⟩:∃ q,atR r o.b=q:=⟨_,rfl⟩
 obtain ⟨c,ec⟩:∃ q,atR r o.c=q:=⟨_,rfl⟩
 rw [ea,eb,ec] at k
 have HQ:=Lh k
 have HE:=Lh (And.intro ea (And.intro eb ec))
 have q1:(c:Int) % 2=((c % 2:Nat):Int):=by simp
 have q2:((c:Int) % 2 == 1)=(c % 2 == 1):=by rw [q1,Bool.eq_iff_iff];simp;omega
 have q3:(Int.tmod (c:Int) 2 == 1)=(c % 2 == 1):=by rw [Int.tmod_eq_emod_of_nonneg (by omega)];exact q2
 clear h ha k ea eb ec q1
 conv=>arg 2;whnf
 (refine wp_region_lines (fun w_=>DoAt B w0 F0 w_ bx gr bo o regs vb vo vB gs vl r bufs l) (by kernel_rfl) (by kernel_rfl) HD.out.drew ?_)
 (try simp only [])
 repeat (first | (refine runL_no (by rfl) ?_;(try simp only [Act.put,List.setIfInBounds_toArray,List.set_cons_zero,List.set_cons_succ])) | (refine runL_val (v:=?_) (by rfl) ?_ ?_;rotate_left;(focus (intro w_ hw_;have o3_:=cell_row hw_.op (k:=3) (v:=.int .i64 o.a) rfl;have o4_:=cell_row hw_.op (k:=4) (v:=.int .i64 o.b) rfl;have o5_:=cell_row hw_.op (k:=5) (v:=.int .i64 o.c) rfl;go_simp;(try with_reducible rfl);done));(try simp only [Act.put,List.setIfInBounds_toArray,List.set_cons_zero,List.set_cons_succ])) | (refine runL_call (f:=?_) (args:=?_) (w1:=?_) (by rfl) (by rfl) ?_ ?_;rotate_left 3;(focus (go_simp;refine ⟨⟨?_,?_⟩,?_⟩ <;> with_reducible rfl));(with_reducible refine (HAT.out o.a HKS.out.1 _ HD.out.drew).mono ?_);rintro e w1 ⟨rfl,rfl⟩;rw [HE.out.1];refine ⟨_,rfl,.inr HD.out.drew,?_⟩;(try simp only [Act.put,List.setIfInBounds_toArray,List.set_cons_zero,List.set_cons_succ])) | (refine runL_call (f:=?_) (args:=?_) (w1:=?_) (by rfl) (by rfl) ?_ ?_;rotate_left 3;(focus (go_simp;refine ⟨⟨?_,?_⟩,?_⟩ <;> with_reducible rfl));(with_reducible refine (HAT.out o.b HKS.out.2.1 _ HD.out.drew).mono ?_);rintro e w1 ⟨rfl,rfl⟩;rw [HE.out.2.1];refine ⟨_,rfl,.inr HD.out.drew,?_⟩;(try simp only [Act.put,List.setIfInBounds_toArray,List.set_cons_zero,List.set_cons_succ])) | (refine runL_call (f:=?_) (args:=?_) (w1:=?_) (by rfl) (by rfl) ?_ ?_;rotate_left 3;(focus (go_simp;refine ⟨⟨?_,?_⟩,?_⟩ <;> with_reducible rfl));(with_reducible refine (HAT.out o.c HKS.out.2.2 _ HD.out.drew).mono ?_);rintro e w1 ⟨rfl,rfl⟩;rw [HE.out.2.2];refine ⟨_,rfl,.inr HD.out.drew,?_⟩;(try simp only [Act.put,List.setIfInBounds_toArray,List.set_cons_zero,List.set_cons_succ])))
 (refine runL_nil ?_)
 exact HQ.out _ _ _ _ _ _ _ _ _ _ _ _ _ _ _ HD.out.drew
set_option maxHeartbeats 4000000 in
theorem do_r46 {B:Nat} {F0:Nat→Prop} {w0:World} {bx gr bo:Nat} {o:LOp} {regs:Int} {vb vo vB vl:Value} {gs r:List Nat} {bufs:List (List Nat)} {l:List (Int×Int)} {dn x:Nat} (w:World) (Q:Exit→Act→World→Prop) (h:DoAt B w0 F0 w bx gr bo o regs vb vo vB gs vl r bufs l) (hd:o.d=(dn:Nat)) (hn:dn < r.length)
   (k:∀ (nR nS nT nU nV nW nX nY:Value) (w':World),DoAt B w0 F0 w' bx gr bo o regs vb vo vB gs vl (r.set dn x) bufs l→Q .normal ⟨#[.pointer (some ⟨bx,0,none⟩),aA,kV,kW,aC,.pointer (some ⟨bo,0,none⟩),kX,kY,kZ,lA,.int .u64 (x:Nat),lC,aE,aF,aG,aH,aI,aJ,aK,aL,aM,aN,aO,aP,aQ,aR,aS,aT,aU,aV,aW,aX,aY,aZ,a8,bA,bB,bC,bD,bE,bF,bG,bH,bI,bJ,bK,bL,bM,bN,bO,bP,bQ,bS,bT,bU,bV,bW,bX,bY,bZ,b4,b6,cA,cC,cD,cE,cF,cG,cH,cI,cJ,cK,cL,cM,cN,cO,cP,cQ,cR,cT,cU,cV,cW,cX,cY,cZ,c8,dA,dB,dC,dD,dE,dF,dG,dH,dI,dJ,dK,dL,dM,dN,dO,dP,dQ,dR,dS,dT,dU,dV,dW,dX,dY,dZ,d7,eA,eB,eC,eD,eE,eF,eG,eH,eI,eJ,eK,eL,eM,eN,eO,eP,eQ,eR,eS,eT,eU,eV,eW,eX,eY,eZ,fA,fB,fC,fD,fE,fF,fG,fH,fI,fJ,fK,fL,fM,fN,fO,fP,fQ,fR,fS,fT,fU,fV,fW,fX,fY,fZ,gA,gC,gD,gE,gF,nR,nS,nT,nU,nV,nW,nX,nY,gO,gP,gQ,gR,gS,gT,gU,gV,gW,gX,gY,gZ,g9,hJ,hY,hZ,iA,iB,iC,iD,iE,iF,iG],[]⟩ w'):(partR Tryd.f43 46).wp Tryd.prog Q ⟨#[.pointer (some ⟨bx,0,none⟩),aA,kV,kW,aC,.pointer (some ⟨bo,0,none⟩),kX,kY,kZ,lA,.int .u64 (x:Nat),lC,aE,aF,aG,aH,aI,aJ,aK,aL,aM,aN,aO,aP,aQ,aR,aS,aT,aU,aV,aW,aX,aY,aZ,a8,bA,bB,bC,bD,bE,bF,bG,bH,bI,bJ,bK,bL,bM,bN,bO,bP,bQ,bS,bT,bU,bV,bW,bX,bY,bZ,b4,b6,cA,cC,cD,cE,cF,cG,cH,cI,cJ,cK,cL,cM,cN,cO,cP,cQ,cR,cT,cU,cV,cW,cX,cY,cZ,c8,dA,dB,dC,dD,dE,dF,dG,dH,dI,dJ,dK,dL,dM,dN,dO,dP,dQ,dR,dS,dT,dU,dV,dW,dX,dY,dZ,d7,eA,eB,eC,eD,eE,eF,eG,eH,eI,eJ,eK,eL,eM,eN,eO,eP,eQ,eR,eS,eT,eU,eV,eW,eX,eY,eZ,fA,fB,fC,fD,fE,fF,fG,fH,fI,fJ,fK,fL,fM,fN,fO,fP,fQ,fR,fS,fT,fU,fV,fW,fX,fY,fZ,gA,gC,gD,gE,gF,gG,gH,gI,gJ,gK,gL,gM,gN,gO,gP,gQ,gR,gS,gT,gU,gV,gW,gX,gY,gZ,g9,hJ,hY,hZ,iA,iB,iC,iD,iE,iF,iG],[]⟩ w:=by
 have HD:=Lh h
 have HQ:=Lh k
 obtain ⟨y,hy⟩:∃ y,r[dn]? = some y:=⟨_,List.getElem?_eq_getElem hn⟩
 have HY:=Lh hy
 have HO:=Lh hd
 have c3:w.drew.cell? ⟨bx,3,none⟩=some (.slice (some ⟨gr,0,none⟩) r.length r.length):=h.drew.run.box 3 rfl
 have c1:w.drew.cell? ⟨bo,1,none⟩=some (.int .i64 (dn:Nat)):=by have:=cell_row h.drew.op (k:=1) (v:=.int .i64 o.d) rfl;rw [hd] at this;exact this
 have HC:=Lh (And.intro c3 c1)
 have hc3:=c3
 obtain ⟨rl,hrl⟩:∃ q,r.length=q:=⟨_,rfl⟩
 rw [hrl] at HC hn
 have i0:(0:Int)≤(dn:Int):=by omega
 have i1:(dn:Int) < (rl:Int):=by omega
 clear h k hy hd c3 c1 hc3 hn hrl
 conv=>arg 2;whnf
 (refine wp_region_lines (fun w_=>w_.cell? ⟨bx,3,none⟩=some (.slice (some ⟨gr,0,none⟩) rl rl)∧w_.cell? ⟨bo,1,none⟩=some (.int .i64 (dn:Nat))) (by kernel_rfl) (by kernel_rfl) HC.out ?_)
 (try simp only [])
 repeat (first | (refine runL_no (by rfl) ?_;(try simp only [Act.put,List.setIfInBounds_toArray,List.set_cons_zero,List.set_cons_succ])) | (refine runL_val (v:=?_) (by rfl) ?_ ?_;rotate_left;(focus (intro w_ hw_;obtain ⟨f1_,f2_⟩:=hw_;go_simp;(try with_reducible rfl);done));(try simp only [Act.put,List.setIfInBounds_toArray,List.set_cons_zero,List.set_cons_succ])) | (refine runL_skip (w1:=w.drew.setCell ⟨gr,dn,none⟩ (.int .u64 (x:Nat))) (by rfl) (by rfl) (exec_store1 45 _ _ rfl gr dn _ (by go_simp) rfl (by kernel_rfl) (by rw [HD.out.drew.run.reg HY.out];rfl) (HD.out.drew.run.frozen_reg dn) rfl) (.inl ⟨rfl,by kernel_rfl⟩) ?_;(try simp only [Act.put])))
 (refine runL_nil ?_)
 exact HQ.out _ _ _ _ _ _ _ _ _ (HD.out.drew.setReg dn x)
set_option maxHeartbeats 4000000 in
theorem do_r48 {B:Nat} {F0:Nat→Prop} {w0:World} {bx gr bo:Nat} {o:LOp} {regs:Int} {vb vo vB vl:Value} {gs r:List Nat} {bufs:List (List Nat)} {l:List (Int×Int)} {dn x:Nat} (w:World) (Q:Exit→Act→World→Prop) (h:DoAt B w0 F0 w bx gr bo o regs vb vo vB gs vl r bufs l) (hd:o.e=(dn:Nat)) (hn:dn < r.length)
   (k:∀ (oA oW oX oY oZ o8 o9 pA:Value) (w':World),DoAt B w0 F0 w' bx gr bo o regs vb vo vB gs vl (r.set dn x) bufs l→Q .normal ⟨#[.pointer (some ⟨bx,0,none⟩),aA,kV,kW,aC,.pointer (some ⟨bo,0,none⟩),kX,kY,kZ,lA,lB,.int .u64 (x:Nat),aE,aF,aG,aH,aI,aJ,aK,aL,aM,aN,aO,aP,aQ,aR,aS,aT,aU,aV,aW,aX,aY,aZ,a8,bA,bB,bC,bD,bE,bF,bG,bH,bI,bJ,bK,bL,bM,bN,bO,bP,bQ,bS,bT,bU,bV,bW,bX,bY,bZ,b4,b6,cA,cC,cD,cE,cF,cG,cH,cI,cJ,cK,cL,cM,cN,cO,cP,cQ,cR,cT,cU,cV,cW,cX,cY,cZ,c8,dA,dB,dC,dD,dE,dF,dG,dH,dI,dJ,dK,dL,dM,dN,dO,dP,dQ,dR,dS,dT,dU,dV,dW,dX,dY,dZ,d7,eA,eB,eC,eD,eE,eF,eG,eH,eI,eJ,eK,eL,eM,eN,eO,eP,eQ,eR,eS,eT,eU,eV,eW,eX,eY,eZ,fA,fB,fC,fD,fE,fF,fG,fH,fI,fJ,fK,fL,fM,fN,fO,fP,fQ,fR,fS,fT,fU,fV,fW,fX,fY,fZ,gA,gC,gD,gE,gF,gG,gH,gI,gJ,gK,gL,gM,gN,gO,gP,gQ,oA,oW,oX,oY,oZ,o8,o9,pA,gZ,g9,hJ,hY,hZ,iA,iB,iC,iD,iE,iF,iG],[]⟩ w'):(partR Tryd.f43 48).wp Tryd.prog Q ⟨#[.pointer (some ⟨bx,0,none⟩),aA,kV,kW,aC,.pointer (some ⟨bo,0,none⟩),kX,kY,kZ,lA,lB,.int .u64 (x:Nat),aE,aF,aG,aH,aI,aJ,aK,aL,aM,aN,aO,aP,aQ,aR,aS,aT,aU,aV,aW,aX,aY,aZ,a8,bA,bB,bC,bD,bE,bF,bG,bH,bI,bJ,bK,bL,bM,bN,bO,bP,bQ,bS,bT,bU,bV,bW,bX,bY,bZ,b4,b6,cA,cC,cD,cE,cF,cG,cH,cI,cJ,cK,cL,cM,cN,cO,cP,cQ,cR,cT,cU,cV,cW,cX,cY,cZ,c8,dA,dB,dC,dD,dE,dF,dG,dH,dI,dJ,dK,dL,dM,dN,dO,dP,dQ,dR,dS,dT,dU,dV,dW,dX,dY,dZ,d7,eA,eB,eC,eD,eE,eF,eG,eH,eI,eJ,eK,eL,eM,eN,eO,eP,eQ,eR,eS,eT,eU,eV,eW,eX,eY,eZ,fA,fB,fC,fD,fE,fF,fG,fH,fI,fJ,fK,fL,fM,fN,fO,fP,fQ,fR,fS,fT,fU,fV,fW,fX,fY,fZ,gA,gC,gD,gE,gF,gG,gH,gI,gJ,gK,gL,gM,gN,gO,gP,gQ,gR,gS,gT,gU,gV,gW,gX,gY,gZ,g9,hJ,hY,hZ,iA,iB,iC,iD,iE,iF,iG],[]⟩ w:=by
 have HD:=Lh h
 have HQ:=Lh k
 obtain ⟨y,hy⟩:∃ y,r[dn]? = some y:=⟨_,List.getElem?_eq_getElem hn⟩
 have HY:=Lh hy
 have HO:=Lh hd
 have c3:w.drew.cell? ⟨bx,3,none⟩=some (.slice (some ⟨gr,0,none⟩) r.length r.length):=h.drew.run.box 3 rfl
 have c1:w.drew.cell? ⟨bo,2,none⟩=some (.int .i64 (dn:Nat)):=by have:=cell_row h.drew.op (k:=2) (v:=.int .i64 o.e) rfl;rw [hd] at this;exact this
 have HC:=Lh (And.intro c3 c1)
 have hc3:=c3
 obtain ⟨rl,hrl⟩:∃ q,r.length=q:=⟨_,rfl⟩
 rw [hrl] at HC hn
 have i0:(0:Int)≤(dn:Int):=by omega
 have i1:(dn:Int) < (rl:Int):=by omega
 clear h k hy hd c3 c1 hc3 hn hrl
 conv=>arg 2;whnf
 (refine wp_region_lines (fun w_=>w_.cell? ⟨bx,3,none⟩=some (.slice (some ⟨gr,0,none⟩) rl rl)∧w_.cell? ⟨bo,2,none⟩=some (.int .i64 (dn:Nat))) (by kernel_rfl) (by kernel_rfl) HC.out ?_)
 (try simp only [])
 repeat (first | (refine runL_no (by rfl) ?_;(try simp only [Act.put,List.setIfInBounds_toArray,List.set_cons_zero,List.set_cons_succ])) | (refine runL_val (v:=?_) (by rfl) ?_ ?_;rotate_left;(focus (intro w_ hw_;obtain ⟨f1_,f2_⟩:=hw_;go_simp;(try with_reducible rfl);done));(try simp only [Act.put,List.setIfInBounds_toArray,List.set_cons_zero,List.set_cons_succ])) | (refine runL_skip (w1:=w.drew.setCell ⟨gr,dn,none⟩ (.int .u64 (x:Nat))) (by rfl) (by rfl) (exec_store1 45 _ _ rfl gr dn _ (by go_simp) rfl (by kernel_rfl) (by rw [HD.out.drew.run.reg HY.out];rfl) (HD.out.drew.run.frozen_reg dn) rfl) (.inl ⟨rfl,by kernel_rfl⟩) ?_;(try simp only [Act.put])))
 (refine runL_nil ?_)
 exact HQ.out _ _ _ _ _ _ _ _ _ (HD.out.drew.setReg dn x)
theorem infoEv:(Tryd.prog.info? 84).map (fun i=>(i.zero,i.size,i.bytes))=some (some (.agg #[.int .i64 0,.int .i64 0]),2,16):=by kernel_rfl
theorem event_box {B:Nat} {F0:Nat→Prop} {w0 w w':World} {bx gr:Nat} {regs:Int} {vb vo vB:Value} {A:Option Addr} {n c:Nat} {gs:List Nat} {r:List Nat} {bufs:List (List Nat)} {l:List (Int×Int)} (h:RunAt B w0 F0 w bx gr regs vb vo vB gs (.slice A n c) r bufs l) (hg:w.grownBy w' (Value.slice A n c).ownBlock) :
   w'.cell? ⟨bx,5,none⟩=some (.slice A n c)∧w'.frozen? ⟨bx,5,none⟩=false:=by
 have h1:=h.sep.at_ 0 rfl
 have hne:∀ g,(Value.slice A n c).ownBlock=some g→g≠bx:=fun g hg' e=>by
   subst e
   exact pair_apart h.sep.dis (i:=0) (j:=3) rfl rfl (by decide) _ rfl hg'
 have h2:=(hg.block bx h.lt.1 (fun e=>hne bx e.symm rfl)).trans h1
 exact ⟨cell_row h2 rfl,frozen_row h2 5⟩
set_option maxHeartbeats 4000000 in
theorem do_r49 {B:Nat} {F0:Nat→Prop} {w0:World} {bx gr:Nat} {regs:Int} {vb vo vB vl:Value} {gs r:List Nat} {bufs:List (List Nat)} {l:List (Int×Int)} {i pl:Int} (w:World) (Q:Exit→Act→World→Prop) (h:RunAt B w0 F0 w bx gr regs vb vo vB gs vl r bufs l) (h5:l.length≤5000)
   (k:∀ (vl_:Value) (pB p5 p6 p7 p8 p9 qA qB qC qD qE qF:Value) (w':World),RunAt B w0 F0 w' bx gr regs vb vo vB gs vl_ r bufs (l++[(i,pl)])→Q .normal ⟨#[.pointer (some ⟨bx,0,none⟩),.int .i64 i,kV,kW,aC,aD,kX,kY,kZ,.int .i64 pl,lB,lC,aE,aF,aG,aH,aI,aJ,aK,aL,aM,aN,aO,aP,aQ,aR,aS,aT,aU,aV,aW,aX,aY,aZ,a8,bA,bB,bC,bD,bE,bF,bG,bH,bI,bJ,bK,bL,bM,bN,bO,bP,bQ,bS,bT,bU,bV,bW,bX,bY,bZ,b4,b6,cA,cC,cD,cE,cF,cG,cH,cI,cJ,cK,cL,cM,cN,cO,cP,cQ,cR,cT,cU,cV,cW,cX,cY,cZ,c8,dA,dB,dC,dD,dE,dF,dG,dH,dI,dJ,dK,dL,dM,dN,dO,dP,dQ,dR,dS,dT,dU,dV,dW,dX,dY,dZ,d7,eA,eB,eC,eD,eE,eF,eG,eH,eI,eJ,eK,eL,eM,eN,eO,eP,eQ,eR,eS,eT,eU,eV,eW,eX,eY,eZ,fA,fB,fC,fD,fE,fF,fG,fH,fI,fJ,fK,fL,fM,fN,fO,fP,fQ,fR,fS,fT,fU,fV,fW,fX,fY,fZ,gA,gC,gD,gE,gF,gG,gH,gI,gJ,gK,gL,gM,gN,gO,gP,gQ,gR,gS,gT,gU,gV,gW,gX,gY,pB,p5,p6,p7,p8,p9,qA,qB,qC,qD,qE,qF],[]⟩ w'):(partR Tryd.f43 49).wp Tryd.prog Q ⟨#[.pointer (some ⟨bx,0,none⟩),.int .i64 i,kV,kW,aC,aD,kX,kY,kZ,.int .i64 pl,lB,lC,aE,aF,aG,aH,aI,aJ,aK,aL,aM,aN,aO,aP,aQ,aR,aS,aT,aU,aV,aW,aX,aY,aZ,a8,bA,bB,bC,bD,bE,bF,bG,bH,bI,bJ,bK,bL,bM,bN,bO,bP,bQ,bS,bT,bU,bV,bW,bX,bY,bZ,b4,b6,cA,cC,cD,cE,cF,cG,cH,cI,cJ,cK,cL,cM,cN,cO,cP,cQ,cR,cT,cU,cV,cW,cX,cY,cZ,c8,dA,dB,dC,dD,dE,dF,dG,dH,dI,dJ,dK,dL,dM,dN,dO,dP,dQ,dR,dS,dT,dU,dV,dW,dX,dY,dZ,d7,eA,eB,eC,eD,eE,eF,eG,eH,eI,eJ,eK,eL,eM,eN,eO,eP,eQ,eR,eS,eT,eU,eV,eW,eX,eY,eZ,fA,fB,fC,fD,fE,fF,fG,fH,fI,fJ,fK,fL,fM,fN,fO,fP,fQ,fR,fS,fT,fU,fV,fW,fX,fY,fZ,gA,gC,gD,gE,gF,gG,gH,gI,gJ,gK,gL,gM,gN,gO,gP,gQ,gR,gS,gT,gU,gV,gW,gX,gY,gZ,g9,hJ,hY,hZ,iA,iB,iC,iD,iE,iF,iG],[]⟩ w:=by
 have HQ:=Lh k
 have ho:w.ownsRow B 84 2 vl l.length (evV l):=h.sep.get 3 rfl
 obtain ⟨A,c,rfl⟩:=own_form ho
 have HOWN:=Lh ho
 have HB:=Lh (show B≤w.heap.size from h.size)
 have c5:w.cell? ⟨bx,5,none⟩=some (.slice A l.length c):=h.box 5 rfl
 have c5':(w.alloc (.cells #[.int .i64 i,.int .i64 pl] 84)).cell? ⟨bx,5,none⟩=some (.slice A l.length c):=(h.next ((Below.refl _ _).alloc (Nat.le_refl _) _)).box 5 rfl
 obtain ⟨ln,hln⟩:∃ q,l.length=q:=⟨_,rfl⟩
 have HL:=Lh hln
 have HD:=Lh (show RunAt B w0 F0 w bx gr regs vb vo vB gs (.slice A ln c) r bufs l by rw [←hln];exact h)
 have hbx:=h.lt.1
 rw [hln] at HOWN c5 c5' h5
 obtain ⟨j0,hie,hy0,hy1,hy2⟩:=info_parts infoEv
 clear h k ho hln
 conv=>arg 2;whnf
 go_wp2_with ((at_builtin;refine wpList_append_own_at _ rfl _ _ 49 rfl B 84 j0 (.agg #[.int .i64 0,.int .i64 0]) 2 16 Tryd.underlying49 hie hy0 hy1 hy2 rfl (by decide) (.slice A ln c) ln (evV l) rfl (HOWN.out.alloc _) ⟨w.heap.size,0,none⟩ 1 1 [.int .i64 i,.int .i64 pl] rfl (by simp) (World.news_of_block (cs:=#[.int .i64 i,.int .i64 pl]) (t:=84) (fr:=(0,0)) (heap_alloc_new w _)) (by simp [Value.oneCell']) (by unfold maxLen;omega) (by omega) (by have:=HB.out;simp;omega) ?_);intro pP w6 hown6 hg6 _ hwh6;obtain ⟨A6,c6,rfl⟩:=own_form hown6;have HOWN6:=Lh hown6;have HG6:=Lh hg6;have HWH6:=Lh hwh6;clear hown6 hg6 hwh6;have HR6:=Lh (event_box (HD.out.next ((Below.refl _ _).alloc (Nat.le_refl _) (.cells #[.int .i64 i,.int .i64 pl] 84))) HG6.out);obtain ⟨s2,s3⟩:=HR6.out)
 exact HQ.out _ _ _ _ _ _ _ _ _ _ _ _ _ _ ((HD.out.next ((Below.refl _ _).alloc (Nat.le_refl _) (.cells #[.int .i64 i,.int .i64 pl] 84))).event (x:=(i,pl)) (by rw [HL.out];exact HOWN6.out) HG6.out (fun k hk=>by
   rcases HWH6.out with h | h
   · rw [h] at hk;exact .inl hk
   · rw [h] at hk;exact .inr (by have:=Option.some.inj hk;omega)))
end Go.Proofs.YtppoiahhaclleaaDoor
namespace Go.Proofs.YtppoiahhaclleaaDoor
open Go.RowKit
set_option maxRecDepth 100000
variable {aA kV kW aC kX kY kZ lA lB lC aE aF aG aH aJ aK aL aM aN aO aP aQ aR aS aT aU aV aW aX aY aZ a8 bA bB bC bD bE bF bG bH bI bJ bK bL bM bN bO bP bQ bS bT bU bV bW bX bY bZ b4 b6 cA cC cD cE cF cG cH cI cJ cK cL cM cN cO cP cQ cR cT cU cV cW cX cY cZ c8 dA dB dC dD dE dF dG dH dI dJ dK dL dM dN dO dP dQ dR dS dT dU dV dW dX dY dZ d7 eA eB eC eD eE eF eG eH eI eJ eK eL eM eN eO eP eQ eR eS eT eU eV eW eX eY eZ fA fB fC fD fE fF fG fH fI fJ fK fL fM fN fO fP fQ fR fS fT fU fV fW fX fY fZ gA gC gD gE gF gG gH gI gJ gK gL gM gN gO gP gQ gR gS gT gU gV gW gX gY gZ g9 hJ hY hZ iA iB iC iD iE iF iG : Value}
set_option maxHeartbeats 4000000 in
theorem do_r39 {B:Nat} {F0:Nat→Prop} {w0:World} {bx gr bo:Nat} {o:LOp} {regs:Int} {vb vo vB vl:Value} {gs r:List Nat} {bufs:List (List Nat)} {l:List (Int×Int)} {j n:Nat} {row:List Nat} {q:Bool} (w:World) (Q:Exit→Act→World→Prop) (h:DoAt B w0 F0 w bx gr bo o regs vb vo vB gs vl r bufs l) (hb:o.buf=(j:Nat)) (hrow:bufs[j]? = some row) (h6:row.length≤1000000) (hq:q=decide (row.length≤n))
   (k:∀ (kS kT kU m5 m6 m7 m8 oB oC oD oE:Value) (w':World),DoAt B w0 F0 w' bx gr bo o regs vb vo vB gs vl r bufs l→Q .normal ⟨#[.pointer (some ⟨bx,0,none⟩),aA,kV,kW,aC,.pointer (some ⟨bo,0,none⟩),kX,kY,kZ,lA,lB,lC,aE,aF,aG,aH,.int .u64 (n:Nat),aJ,aK,aL,aM,aN,aO,aP,aQ,aR,aS,aT,aU,aV,aW,aX,aY,aZ,a8,bA,bB,bC,bD,bE,bF,bG,bH,bI,bJ,bK,bL,bM,bN,bO,bP,bQ,bS,bT,bU,bV,bW,bX,bY,bZ,b4,b6,cA,cC,cD,cE,cF,cG,cH,cI,cJ,cK,cL,cM,cN,cO,cP,cQ,cR,cT,cU,cV,cW,cX,cY,cZ,c8,dA,dB,dC,dD,dE,dF,dG,dH,dI,dJ,dK,dL,dM,dN,dO,dP,dQ,dR,dS,dT,dU,dV,dW,dX,dY,dZ,d7,eA,eB,eC,eD,eE,eF,eG,eH,eI,eJ,eK,eL,eM,eN,eO,kS,kT,kU,m5,m6,m7,m8,oB,oC,oD,oE,.bool q,fB,fC,fD,fE,fF,fG,fH,fI,fJ,fK,fL,fM,fN,fO,fP,fQ,fR,fS,fT,fU,fV,fW,fX,fY,fZ,gA,gC,gD,gE,gF,gG,gH,gI,gJ,gK,gL,gM,gN,gO,gP,gQ,gR,gS,gT,gU,gV,gW,gX,gY,gZ,g9,hJ,hY,hZ,iA,iB,iC,iD,iE,iF,iG],[]⟩ w'):(partR Tryd.f43 39).wp Tryd.prog Q ⟨#[.pointer (some ⟨bx,0,none⟩),aA,kV,kW,aC,.pointer (some ⟨bo,0,none⟩),kX,kY,kZ,lA,lB,lC,aE,aF,aG,aH,.int .u64 (n:Nat),aJ,aK,aL,aM,aN,aO,aP,aQ,aR,aS,aT,aU,aV,aW,aX,aY,aZ,a8,bA,bB,bC,bD,bE,bF,bG,bH,bI,bJ,bK,bL,bM,bN,bO,bP,bQ,bS,bT,bU,bV,bW,bX,bY,bZ,b4,b6,cA,cC,cD,cE,cF,cG,cH,cI,cJ,cK,cL,cM,cN,cO,cP,cQ,cR,cT,cU,cV,cW,cX,cY,cZ,c8,dA,dB,dC,dD,dE,dF,dG,dH,dI,dJ,dK,dL,dM,dN,dO,dP,dQ,dR,dS,dT,dU,dV,dW,dX,dY,dZ,d7,eA,eB,eC,eD,eE,eF,eG,eH,eI,eJ,eK,eL,eM,eN,eO,eP,eQ,eR,eS,eT,eU,eV,eW,eX,eY,eZ,fA,fB,fC,fD,fE,fF,fG,fH,fI,fJ,fK,fL,fM,fN,fO,fP,fQ,fR,fS,fT,fU,fV,fW,fX,fY,fZ,gA,gC,gD,gE,gF,gG,gH,gI,gJ,gK,gL,gM,gN,gO,gP,gQ,gR,gS,gT,gU,gV,gW,gX,gY,gZ,g9,hJ,hY,hZ,iA,iB,iC,iD,iE,iF,iG],[]⟩ w:=by
 obtain ⟨gB,cB,g,hvB,hcB,hg,hcell,_⟩:=h.drew.run.ref hrow
 subst hvB
 have HG:=Lh hg
 have HROW:=Lh hrow
 have HD:=Lh h
 have HQ:=Lh k
 have c4:w.drew.cell? ⟨bx,4,none⟩=some (.slice (some ⟨gB,0,none⟩) bufs.length cB):=h.drew.run.box 4 rfl
 have c6:w.drew.cell? ⟨bo,6,none⟩=some (.int .i64 (j:Nat)):=by have:=cell_row h.drew.op (k:=6) (v:=.int .i64 o.buf) rfl;rw [hb] at this;exact this
 have hj:=(List.getElem?_eq_some_iff.1 hrow).1
 obtain ⟨nb,hnb⟩:∃ q,bufs.length=q:=⟨_,rfl⟩
 obtain ⟨rl,hrl⟩:∃ q,row.length=q:=⟨_,rfl⟩
 rw [hnb] at c4 hj
 rw [hrl] at hcell
 have HC:=Lh (And.intro c4 (And.intro c6 hcell))
 have i0:(0:Int)≤(j:Int):=by omega
 have i1:(j:Int) < (nb:Int):=by omega
 rw [hrl] at h6 hq
 have HL:=Lh (And.intro hnb hrl)
 have q1:IntKind.u64.wrap (rl:Int)=(rl:Int):=by rw [wrapU'];omega
 have q2:decide (rl≤n)=q:=hq.symm
 have q3:decide ((rl:Int)≤(n:Int))=q:=by rw [hq];simp
 clear h k hb hrow hcell c4 c6 hg hnb hrl hq h6 hcB hj
 conv=>arg 2;whnf
 (refine wp_region_lines (fun w_=>w_.cell? ⟨bx,4,none⟩=some (.slice (some ⟨gB,0,none⟩) nb cB)∧w_.cell? ⟨bo,6,none⟩=some (.int .i64 (j:Nat))∧w_.cell? ⟨gB,j,none⟩=some (.slice (some ⟨g,0,none⟩) rl rl)) (by kernel_rfl) (by kernel_rfl) HC.out ?_)
 (try simp only [])
 repeat (first | (refine runL_no (by rfl) ?_;(try simp only [Act.put,List.setIfInBounds_toArray,List.set_cons_zero,List.set_cons_succ])) | (refine runL_val (v:=?_) (by rfl) ?_ ?_;rotate_left;(focus (intro w_ hw_;obtain ⟨f1_,f2_,f3_⟩:=hw_;go_simp;(try with_reducible rfl);done));(try simp only [Act.put,List.setIfInBounds_toArray,List.set_cons_zero,List.set_cons_succ])))
 (refine runL_nil ?_)
 exact HQ.out _ _ _ _ _ _ _ _ _ _ _ _ HD.out.drew
set_option maxHeartbeats 4000000 in
theorem do_r44 {B:Nat} {F0:Nat→Prop} {w0:World} {bx gr bo:Nat} {o:LOp} {regs:Int} {vb vo vB vl:Value} {gs r:List Nat} {bufs:List (List Nat)} {l:List (Int×Int)} {j n x:Nat} {row:List Nat} (w:World) (Q:Exit→Act→World→Prop) (h:DoAt B w0 F0 w bx gr bo o regs vb vo vB gs vl r bufs l) (hb:o.buf=(j:Nat)) (hrow:bufs[j]? = some row) (hx:row[n]? = some x)
   (k:∀ (nC nD nE nF nG nH nI nJ nK nL nM:Value) (w':World),DoAt B w0 F0 w' bx gr bo o regs vb vo vB gs vl r bufs l→Q .normal ⟨#[.pointer (some ⟨bx,0,none⟩),aA,kV,kW,aC,.pointer (some ⟨bo,0,none⟩),kX,kY,kZ,lA,.int .u64 (x:Nat),lC,aE,aF,aG,aH,.int .u64 (n:Nat),aJ,aK,aL,aM,aN,aO,aP,aQ,aR,aS,aT,aU,aV,aW,aX,aY,aZ,a8,bA,bB,bC,bD,bE,bF,bG,bH,bI,bJ,bK,bL,bM,bN,bO,bP,bQ,bS,bT,bU,bV,bW,bX,bY,bZ,b4,b6,cA,cC,cD,cE,cF,cG,cH,cI,cJ,cK,cL,cM,cN,cO,cP,cQ,cR,cT,cU,cV,cW,cX,cY,cZ,c8,dA,dB,dC,dD,dE,dF,dG,dH,dI,dJ,dK,dL,dM,dN,dO,dP,dQ,dR,dS,dT,dU,dV,dW,dX,dY,dZ,d7,eA,eB,eC,eD,eE,eF,eG,eH,eI,eJ,eK,eL,eM,eN,eO,eP,eQ,eR,eS,eT,eU,eV,eW,eX,eY,eZ,fA,fB,fC,fD,fE,fF,fG,fH,fI,fJ,fK,fL,fM,fN,fO,fP,fQ,nC,nD,nE,nF,nG,nH,nI,nJ,nK,nL,nM,gD,gE,gF,gG,gH,gI,gJ,gK,gL,gM,gN,gO,gP,gQ,gR,gS,gT,gU,gV,gW,gX,gY,gZ,g9,hJ,hY,hZ,iA,iB,iC,iD,iE,iF,iG],[]⟩ w'):(partR Tryd.f43 44).wp Tryd.prog Q ⟨#[.pointer (some ⟨bx,0,none⟩),aA,kV,kW,aC,.pointer (some ⟨bo,0,none⟩),kX,kY,kZ,lA,lB,lC,aE,aF,aG,aH,.int .u64 (n:Nat),aJ,aK,aL,aM,aN,aO,aP,aQ,aR,aS,aT,aU,aV,aW,aX,aY,aZ,a8,bA,bB,bC,bD,bE,bF,bG,bH,bI,bJ,bK,bL,bM,bN,bO,bP,bQ,bS,bT,bU,bV,bW,bX,bY,bZ,b4,b6,cA,cC,cD,cE,cF,cG,cH,cI,cJ,cK,cL,cM,cN,cO,cP,cQ,cR,cT,cU,cV,cW,cX,cY,cZ,c8,dA,dB,dC,dD,dE,dF,dG,dH,dI,dJ,dK,dL,dM,dN,dO,dP,dQ,dR,dS,dT,dU,dV,dW,dX,dY,dZ,d7,eA,eB,eC,eD,eE,eF,eG,eH,eI,eJ,eK,eL,eM,eN,eO,eP,eQ,eR,eS,eT,eU,eV,eW,eX,eY,eZ,fA,fB,fC,fD,fE,fF,fG,fH,fI,fJ,fK,fL,fM,fN,fO,fP,fQ,fR,fS,fT,fU,fV,fW,fX,fY,fZ,gA,gC,gD,gE,gF,gG,gH,gI,gJ,gK,gL,gM,gN,gO,gP,gQ,gR,gS,gT,gU,gV,gW,gX,gY,gZ,g9,hJ,hY,hZ,iA,iB,iC,iD,iE,iF,iG],[]⟩ w:=by
 obtain ⟨gB,cB,g,hvB,hcB,hg,hcell,_⟩:=h.drew.run.ref hrow
 subst hvB
 have HG:=Lh hg
 have HROW:=Lh hrow
 have HD:=Lh h
 have HQ:=Lh k
 have c4:w.drew.cell? ⟨bx,4,none⟩=some (.slice (some ⟨gB,0,none⟩) bufs.length cB):=h.drew.run.box 4 rfl
 have c6:w.drew.cell? ⟨bo,6,none⟩=some (.int .i64 (j:Nat)):=by have:=cell_row h.drew.op (k:=6) (v:=.int .i64 o.buf) rfl;rw [hb] at this;exact this
 have hj:=(List.getElem?_eq_some_iff.1 hrow).1
 obtain ⟨nb,hnb⟩:∃ q,bufs.length=q:=⟨_,rfl⟩
 obtain ⟨rl,hrl⟩:∃ q,row.length=q:=⟨_,rfl⟩
 rw [hnb] at c4 hj
 rw [hrl] at hcell
 have HC:=Lh (And.intro c4 (And.intro c6 hcell))
 have i0:(0:Int)≤(j:Int):=by omega
 have i1:(j:Int) < (nb:Int):=by omega
 have hn:=(List.getElem?_eq_some_iff.1 hx).1
 rw [hrl] at hn
 have HX:=Lh (And.intro HC.out (h.drew.run.limb hrow hg hx))
 have n0:(0:Int)≤(n:Int):=by omega
 have n1:(n:Int) < (rl:Int):=by omega
 clear h k hb hrow hcell c4 c6 hg hnb hrl hcB hj hx hn
 conv=>arg 2;whnf
 (refine wp_region_lines (fun w_=>(fun w_=>w_.cell? ⟨bx,4,none⟩=some (.slice (some ⟨gB,0,none⟩) nb cB)∧w_.cell? ⟨bo,6,none⟩=some (.int .i64 (j:Nat))∧w_.cell? ⟨gB,j,none⟩=some (.slice (some ⟨g,0,none⟩) rl rl)) w_∧w_.cell? ⟨g,n,none⟩=some (.int .u64 (x:Nat))) (by kernel_rfl) (by kernel_rfl) HX.out ?_)
 (try simp only [])
 repeat (first | (refine runL_no (by rfl) ?_;(try simp only [Act.put,List.setIfInBounds_toArray,List.set_cons_zero,List.set_cons_succ])) | (refine runL_val (v:=?_) (by rfl) ?_ ?_;rotate_left;(focus (intro w_ hw_;obtain ⟨⟨f1_,f2_,f3_⟩,f4_⟩:=hw_;go_simp;(try with_reducible rfl);done));(try simp only [Act.put,List.setIfInBounds_toArray,List.set_cons_zero,List.set_cons_succ])))
 (refine runL_nil ?_)
 exact HQ.out _ _ _ _ _ _ _ _ _ _ _ _ HD.out.drew
set_option maxHeartbeats 4000000 in
theorem do_r43 {B:Nat} {F0:Nat→Prop} {w0:World} {bx gr bo:Nat} {o:LOp} {regs:Int} {vb vo vB vl:Value} {gs r:List Nat} {bufs:List (List Nat)} {l:List (Int×Int)} {j n x b:Nat} {row:List Nat} (w:World) (Q:Exit→Act→World→Prop) (h:DoAt B w0 F0 w bx gr bo o regs vb vo vB gs vl r bufs l) (hb:o.buf=(j:Nat)) (hrow:bufs[j]? = some row) (hx:row[n]? = some x)
   (k:∀ (oL oM oN oO oP oQ oS oT oU oV nB:Value) (w':World),DoAt B w0 F0 w' bx gr bo o regs vb vo vB gs vl r (bufs.set j (row.set n b)) l→Q .normal ⟨#[.pointer (some ⟨bx,0,none⟩),aA,kV,kW,aC,.pointer (some ⟨bo,0,none⟩),kX,.int .u64 (b:Nat),kZ,lA,lB,lC,aE,aF,aG,aH,.int .u64 (n:Nat),aJ,aK,aL,aM,aN,aO,aP,aQ,aR,aS,aT,aU,aV,aW,aX,aY,aZ,a8,bA,bB,bC,bD,bE,bF,bG,bH,bI,bJ,bK,bL,bM,bN,bO,bP,bQ,bS,bT,bU,bV,bW,bX,bY,bZ,b4,b6,cA,cC,cD,cE,cF,cG,cH,cI,cJ,cK,cL,cM,cN,cO,cP,cQ,cR,cT,cU,cV,cW,cX,cY,cZ,c8,dA,dB,dC,dD,dE,dF,dG,dH,dI,dJ,dK,dL,dM,dN,dO,dP,dQ,dR,dS,dT,dU,dV,dW,dX,dY,dZ,d7,eA,eB,eC,eD,eE,eF,eG,eH,eI,eJ,eK,eL,eM,eN,eO,eP,eQ,eR,eS,eT,eU,eV,eW,eX,eY,eZ,fA,fB,fC,fD,fE,fF,oL,oM,oN,oO,oP,oQ,oS,oT,oU,oV,nB,fR,fS,fT,fU,fV,fW,fX,fY,fZ,gA,gC,gD,gE,gF,gG,gH,gI,gJ,gK,gL,gM,gN,gO,gP,gQ,gR,gS,gT,gU,gV,gW,gX,gY,gZ,g9,hJ,hY,hZ,iA,iB,iC,iD,iE,iF,iG],[]⟩ w'):(partR Tryd.f43 43).wp Tryd.prog Q ⟨#[.pointer (some ⟨bx,0,none⟩),aA,kV,kW,aC,.pointer (some ⟨bo,0,none⟩),kX,.int .u64 (b:Nat),kZ,lA,lB,lC,aE,aF,aG,aH,.int .u64 (n:Nat),aJ,aK,aL,aM,aN,aO,aP,aQ,aR,aS,aT,aU,aV,aW,aX,aY,aZ,a8,bA,bB,bC,bD,bE,bF,bG,bH,bI,bJ,bK,bL,bM,bN,bO,bP,bQ,bS,bT,bU,bV,bW,bX,bY,bZ,b4,b6,cA,cC,cD,cE,cF,cG,cH,cI,cJ,cK,cL,cM,cN,cO,cP,cQ,cR,cT,cU,cV,cW,cX,cY,cZ,c8,dA,dB,dC,dD,dE,dF,dG,dH,dI,dJ,dK,dL,dM,dN,dO,dP,dQ,dR,dS,dT,dU,dV,dW,dX,dY,dZ,d7,eA,eB,eC,eD,eE,eF,eG,eH,eI,eJ,eK,eL,eM,eN,eO,eP,eQ,eR,eS,eT,eU,eV,eW,eX,eY,eZ,fA,fB,fC,fD,fE,fF,fG,fH,fI,fJ,fK,fL,fM,fN,fO,fP,fQ,fR,fS,fT,fU,fV,fW,fX,fY,fZ,gA,gC,gD,gE,gF,gG,gH,gI,gJ,gK,gL,gM,gN,gO,gP,gQ,gR,gS,gT,gU,gV,gW,gX,gY,gZ,g9,hJ,hY,hZ,iA,iB,iC,iD,iE,iF,iG],[]⟩ w:=by
 obtain ⟨gB,cB,g,hvB,hcB,hg,hcell,_⟩:=h.drew.run.ref hrow
 subst hvB
 have HG:=Lh hg
 have HROW:=Lh hrow
 have HD:=Lh h
 have HQ:=Lh k
 have c4:w.drew.cell? ⟨bx,4,none⟩=some (.slice (some ⟨gB,0,none⟩) bufs.length cB):=h.drew.run.box 4 rfl
 have c6:w.drew.cell? ⟨bo,6,none⟩=some (.int .i64 (j:Nat)):=by have:=cell_row h.drew.op (k:=6) (v:=.int .i64 o.buf) rfl;rw [hb] at this;exact this
 have hj:=(List.getElem?_eq_some_iff.1 hrow).1
 obtain ⟨nb,hnb⟩:∃ q,bufs.length=q:=⟨_,rfl⟩
 obtain ⟨rl,hrl⟩:∃ q,row.length=q:=⟨_,rfl⟩
 rw [hnb] at c4 hj
 rw [hrl] at hcell
 have HC:=Lh (And.intro c4 (And.intro c6 hcell))
 have i0:(0:Int)≤(j:Int):=by omega
 have i1:(j:Int) < (nb:Int):=by omega
 have hn:=(List.getElem?_eq_some_iff.1 hx).1
 rw [hrl] at hn
 have HX:=Lh (h.drew.run.limb hrow hg hx)
 have n0:(0:Int)≤(n:Int):=by omega
 have n1:(n:Int) < (rl:Int):=by omega
 clear h k hb hrow hcell c4 c6 hg hnb hrl hcB hj hx hn
 conv=>arg 2;whnf
 (refine wp_region_lines (fun w_=>w_.cell? ⟨bx,4,none⟩=some (.slice (some ⟨gB,0,none⟩) nb cB)∧w_.cell? ⟨bo,6,none⟩=some (.int .i64 (j:Nat))∧w_.cell? ⟨gB,j,none⟩=some (.slice (some ⟨g,0,none⟩) rl rl)) (by kernel_rfl) (by kernel_rfl) HC.out ?_)
 (try simp only [])
 repeat (first | (refine runL_no (by rfl) ?_;(try simp only [Act.put,List.setIfInBounds_toArray,List.set_cons_zero,List.set_cons_succ])) | (refine runL_val (v:=?_) (by rfl) ?_ ?_;rotate_left;(focus (intro w_ hw_;obtain ⟨f1_,f2_,f3_⟩:=hw_;go_simp;(try with_reducible rfl);done));(try simp only [Act.put,List.setIfInBounds_toArray,List.set_cons_zero,List.set_cons_succ])) | (refine runL_skip (w1:=w.drew.setCell ⟨g,n,none⟩ (.int .u64 (b:Nat))) (by rfl) (by rfl) (exec_store1 45 _ _ rfl g n _ (by go_simp) rfl (by kernel_rfl) (by rw [HX.out];rfl) (HD.out.drew.run.frozen_limb HROW.out HG.out n) rfl) (.inl ⟨rfl,by kernel_rfl⟩) ?_;(try simp only [Act.put])))
 (refine runL_nil ?_)
 exact HQ.out _ _ _ _ _ _ _ _ _ _ _ _ (HD.out.drew.setLimb HROW.out HG.out n b)
end Go.Proofs.YtppoiahhaclleaaDoor
namespace Go.Proofs.YtppoiahhaclleaaDoor
open Go.RowKit
set_option maxRecDepth 100000
variable {aA kV kW aC aE aF aG aH aI aJ aK aL aM aN aO aP aQ aR aS aT aU aV aW aX aY aZ a8 bA bB bC bD bE bG bH bI bJ bK bL bM bN bO bP bQ bS bT bU bV bW bX bY bZ b4 b6 cA cC cD cE cF cG cH cI cJ cK cL cM cN cO cP cQ cR cT cU cV cW cX cY cZ c8 dA dB dC dD dE dF dG dH dI dJ dK dL dM dN dO dP dQ dR dS dT dU dV dW dX dY dZ d7 eA eB eC eD eE eF eG eH eI eJ eK eL eM eN eO eP eQ eR eS eT eU eV eW eX eY eZ fA fB fC fD fE fF fG fH fI fJ fK fL fM fN fO fP fQ fR fS fT fU fV fW fX fY fZ gA gC gD gE gF gG gH gI gJ gK gL gM gN gO gP gQ gR gS gT gU gV gW gX gY gZ g9 hJ hY hZ iA iB iC iD iE iF iG : Value}
theorem and64 (d b:Nat) (hd:d < 18446744073709551616) (hb:b < 18446744073709551616):Go.bits .and .u64 (d:Int) (b:Int)=((d &&& b:Nat):Int):=bits_and_u64_nat d b hd hb
theorem or64 (d b:Nat) (hd:d < 18446744073709551616) (hb:b < 18446744073709551616):Go.bits .or .u64 (d:Int) (b:Int)=((d ||| b:Nat):Int):=bits_or_u64_nat d b hd hb
theorem xor64 (d b:Nat) (hd:d < 18446744073709551616) (hb:b < 18446744073709551616):Go.bits .xor .u64 (d:Int) (b:Int)=((d ^^^ b:Nat):Int):=bits_xor_u64_nat d b hd hb
theorem limb_of {p:LP} {o:LOp} (h:fieldsF p o=true) (hk:o.kind=14∨o.kind=15):∃ j:Nat,o.buf=j∧j < p.bufs.length:=by
 unfold fieldsF bufOk at h
 simp only [Bool.and_eq_true] at h
 obtain ⟨_,_,_,_,h⟩:=h
 rw [if_pos (by unfold kM;rcases hk with e | e <;> rw [e] <;> rfl)] at h
 simp only [Bool.and_eq_true,decide_eq_true_eq] at h
 exact ⟨o.buf.toNat,by omega,by omega⟩
theorem shift_imm {p:LP} {o:LOp} (h:fieldsF p o=true) (hk:o.kind=8∨o.kind=9):1≤o.imm∧o.imm≤63:=by
 unfold fieldsF bufOk at h
 simp only [Bool.and_eq_true] at h
 obtain ⟨_,_,_,_,h⟩:=h
 rw [if_neg (by unfold kM;rcases hk with e | e <;> rw [e] <;> decide)] at h
 simp only [Bool.and_eq_true] at h
 have h:=h.2
 unfold numOk at h
 rcases hk with e | e <;> rw [e] at h <;> simpa using h
set_option linter.unusedVariables false in
set_option maxHeartbeats 32000000 in
theorem do_b {B:Nat} {F0:Nat→Prop} {w0:World} {bx gr bo:Nat} {o:LOp} {regs:Int} {vb vo vB vl:Value} {gs r:List Nat} {bufs:List (List Nat)} {l:List (Int×Int)} {a b c:Nat} {q:Bool} {kd:Int} {p:LP} (w:World) (Q:Exit→Act→World→Prop) (h:DoAt B w0 F0 w bx gr bo o regs vb vo vB gs vl r bufs l) (hk:o.kind=kd) (hk2:1≤kd∧kd≤15) (h8:(c % 2 == 1)=q) (hf:fieldsF p o=true) (hbl:bufs.length=p.bufs.length∧∀ row∈bufs,row.length≤1000000) (ha:a < 18446744073709551616) (hb:b < 18446744073709551616)
   (k1:∀ (pl:Int) (d e:Nat) (bufs2:List (List Nat)),doP o.kind o.imm o.buf bufs a b c=some (d,e,pl,bufs2)→∀ (pC mP nA nQ pQ pZ lH lI lJ lK lL lM lN lO lP lQ lR lS lT lU lV lW lX lY lZ l5 l6 l7 l8 l9 mA mB mC mD mE mF mG mH mI mJ mY iS iT iU iV iW iX iY iZ i7 i8 i9 jA jB jC jD jE jF jG jH jI jJ jK jL jM jO jP jQ jR jS jT jU jV jW jX jY jZ j5 j6 j7 j8 j9 kF kG kH kI kJ kK kL kN kO kP kQ kR kS kT kU m5 m6 m7 m8 oB oC oD oE oF oG oH oI oJ oK oL oM oN oO oP oQ oS oT oU oV nB nC nD nE nF nG nH nI nJ nK nL nM:Value) (w':World),DoAt B w0 F0 w' bx gr bo o regs vb vo vB gs vl r bufs2 l→Q (.normal) ⟨#[.pointer (some ⟨bx,0,none⟩),aA,kV,kW,pC,.pointer (some ⟨bo,0,none⟩),.int .u64 (a:Nat),.int .u64 (b:Nat),.bool q,.int .i64 pl,.int .u64 (d:Nat),.int .u64 (e:Nat),mP,nA,nQ,pQ,pZ,aJ,aK,aL,aM,aN,aO,aP,aQ,aR,aS,aT,aU,aV,aW,aX,aY,aZ,a8,bA,bB,bC,bD,bE,.int .i64 kd,lH,lI,lJ,lK,lL,lM,lN,lO,lP,lQ,lR,lS,lT,lU,lV,lW,lX,lY,lZ,l5,l6,l7,l8,l9,mA,mB,mC,mD,mE,mF,mG,mH,mI,mJ,mY,iS,iT,iU,iV,iW,iX,iY,iZ,i7,i8,i9,jA,jB,jC,jD,jE,jF,jG,jH,jI,jJ,jK,jL,jM,jO,jP,jQ,jR,jS,jT,jU,jV,jW,jX,jY,jZ,j5,j6,j7,j8,j9,kF,kG,kH,kI,kJ,kK,kL,kN,kO,kP,kQ,kR,kS,kT,kU,m5,m6,m7,m8,oB,oC,oD,oE,oF,oG,oH,oI,oJ,oK,oL,oM,oN,oO,oP,oQ,oS,oT,oU,oV,nB,nC,nD,nE,nF,nG,nH,nI,nJ,nK,nL,nM,gD,gE,gF,gG,gH,gI,gJ,gK,gL,gM,gN,gO,gP,gQ,gR,gS,gT,gU,gV,gW,gX,gY,gZ,g9,hJ,hY,hZ,iA,iB,iC,iD,iE,iF,iG],[]⟩ w') (k2:doP o.kind o.imm o.buf bufs a b c=none→∀ (mM mN mO mP nA nQ pQ pZ lH lI lJ lK lL lM lN lO lP lQ lR lS lT lU lV lW lX lY lZ l5 l6 l7 l8 l9 mA mB mC mD mE mF mG mH mI mJ mY iS iT iU iV iW iX iY iZ i7 i8 i9 jA jB jC jD jE jF jG jH jI jJ jK jL jM jO jP jQ jR jS jT jU jV jW jX jY jZ j5 j6 j7 j8 j9 kF kG kH kI kJ kK kL kN kO kP kQ kR kS kT kU m5 m6 m7 m8 oB oC oD oE oF oG oH oI oJ oK oL oM oN oO oP oQ oS oT oU oV nB nC nD nE nF nG nH nI nJ nK nL nM:Value) (w':World),DoAt B w0 F0 w' bx gr bo o regs vb vo vB gs vl r bufs l→Q (.ret) ⟨#[.pointer (some ⟨bx,0,none⟩),aA,kV,kW,.bool false,.pointer (some ⟨bo,0,none⟩),.int .u64 (a:Nat),.int .u64 (b:Nat),.bool q,mM,mN,mO,mP,nA,nQ,pQ,pZ,aJ,aK,aL,aM,aN,aO,aP,aQ,aR,aS,aT,aU,aV,aW,aX,aY,aZ,a8,bA,bB,bC,bD,bE,.int .i64 kd,lH,lI,lJ,lK,lL,lM,lN,lO,lP,lQ,lR,lS,lT,lU,lV,lW,lX,lY,lZ,l5,l6,l7,l8,l9,mA,mB,mC,mD,mE,mF,mG,mH,mI,mJ,mY,iS,iT,iU,iV,iW,iX,iY,iZ,i7,i8,i9,jA,jB,jC,jD,jE,jF,jG,jH,jI,jJ,jK,jL,jM,jO,jP,jQ,jR,jS,jT,jU,jV,jW,jX,jY,jZ,j5,j6,j7,j8,j9,kF,kG,kH,kI,kJ,kK,kL,kN,kO,kP,kQ,kR,kS,kT,kU,m5,m6,m7,m8,oB,oC,oD,oE,oF,oG,oH,oI,oJ,oK,oL,oM,oN,oO,oP,oQ,oS,oT,oU,oV,nB,nC,nD,nE,nF,nG,nH,nI,nJ,nK,nL,nM,gD,gE,gF,gG,gH,gI,gJ,gK,gL,gM,gN,gO,gP,gQ,gR,gS,gT,gU,gV,gW,gX,gY,gZ,g9,hJ,hY,hZ,iA,iB,iC,iD,iE,iF,iG],[]⟩ w'):(partL Tryd.f43 0).wp Tryd.prog Q ⟨#[.pointer (some ⟨bx,0,none⟩),aA,kV,kW,aC,.pointer (some ⟨bo,0,none⟩),.int .u64 (a:Nat),.int .u64 (b:Nat),.bool q,.int .i64 (-1),.int .u64 0,.int .u64 0,aE,aF,aG,aH,aI,aJ,aK,aL,aM,aN,aO,aP,aQ,aR,aS,aT,aU,aV,aW,aX,aY,aZ,a8,bA,bB,bC,bD,bE,.int .i64 kd,bG,bH,bI,bJ,bK,bL,bM,bN,bO,bP,bQ,bS,bT,bU,bV,bW,bX,bY,bZ,b4,b6,cA,cC,cD,cE,cF,cG,cH,cI,cJ,cK,cL,cM,cN,cO,cP,cQ,cR,cT,cU,cV,cW,cX,cY,cZ,c8,dA,dB,dC,dD,dE,dF,dG,dH,dI,dJ,dK,dL,dM,dN,dO,dP,dQ,dR,dS,dT,dU,dV,dW,dX,dY,dZ,d7,eA,eB,eC,eD,eE,eF,eG,eH,eI,eJ,eK,eL,eM,eN,eO,eP,eQ,eR,eS,eT,eU,eV,eW,eX,eY,eZ,fA,fB,fC,fD,fE,fF,fG,fH,fI,fJ,fK,fL,fM,fN,fO,fP,fQ,fR,fS,fT,fU,fV,fW,fX,fY,fZ,gA,gC,gD,gE,gF,gG,gH,gI,gJ,gK,gL,gM,gN,gO,gP,gQ,gR,gS,gT,gU,gV,gW,gX,gY,gZ,g9,hJ,hY,hZ,iA,iB,iC,iD,iE,iF,iG],[]⟩ w:=by
 have HQ8:=Lh h8
 have HF:=Lh hf
 have HD:=Lh h
 have HBL:=Lh hbl
 have K1:=Lh k1
 have K2:=Lh k2
 have HKK:=Lh hk
 have hcs:kd=1∨kd=2∨kd=3∨kd=4∨kd=5∨kd=6∨kd=7∨kd=8∨kd=9∨kd=10∨kd=11∨kd=12∨kd=13∨kd=14∨kd=15:=by omega
 clear hk h8 hf h hbl k1 k2 hk2
 conv=>arg 2;whnf
 rcases hcs with rfl | rfl | rfl | rfl | rfl | rfl | rfl | rfl | rfl | rfl | rfl | rfl | rfl | rfl | rfl
 · have HKD:=HKK
   have c7:=cell_row HD.out.op (k:=7) (v:=.int .u64 o.imm) rfl
   obtain ⟨im,him⟩:∃ q,o.imm=q:=⟨_,rfl⟩
   rw [him] at c7
   have HQ:=Lh (K1.out (-1) im 0 bufs (by rw [HKD.out,him];rfl))
   clear him
   go_wp2
   exact HQ.out _ _ _ _ _ _ _ _ _ _ _ _ _ _ _ _ _ _ _ _ _ _ _ _ _ _ _ _ _ _ _ _ _ _ _ _ _ _ _ _ _ _ _ _ _ _ _ _ _ _ _ _ _ _ _ _ _ _ _ _ _ _ _ _ _ _ _ _ _ _ _ _ _ _ _ _ _ _ _ _ _ _ _ _ _ _ _ _ _ _ _ _ _ _ _ _ _ _ _ _ _ _ _ _ _ _ _ _ _ _ _ _ _ _ _ _ _ _ _ _ _ _ _ _ _ _ _ _ _ _ _ _ _ _ HD.out
 · have HKD:=HKK
   have HQ:=Lh (K1.out (-1) a 0 bufs (by rw [HKD.out];rfl))
   go_wp2
   exact HQ.out _ _ _ _ _ _ _ _ _ _ _ _ _ _ _ _ _ _ _ _ _ _ _ _ _ _ _ _ _ _ _ _ _ _ _ _ _ _ _ _ _ _ _ _ _ _ _ _ _ _ _ _ _ _ _ _ _ _ _ _ _ _ _ _ _ _ _ _ _ _ _ _ _ _ _ _ _ _ _ _ _ _ _ _ _ _ _ _ _ _ _ _ _ _ _ _ _ _ _ _ _ _ _ _ _ _ _ _ _ _ _ _ _ _ _ _ _ _ _ _ _ _ _ _ _ _ _ _ _ _ _ _ _ _ HD.out
 · have HKD:=HKK
   obtain ⟨s,hs⟩:∃ s:Nat,s=(a+b) % 18446744073709551616:=⟨_,rfl⟩
   have d3:IntKind.u64.wrap ((a:Int)+(b:Int))=(s:Int):=by rw [wrapU'];omega
   have HQ:=Lh (K1.out (-1) s 0 bufs (by rw [hs,HKD.out];rfl))
   clear hs
   go_wp2
   exact HQ.out _ _ _ _ _ _ _ _ _ _ _ _ _ _ _ _ _ _ _ _ _ _ _ _ _ _ _ _ _ _ _ _ _ _ _ _ _ _ _ _ _ _ _ _ _ _ _ _ _ _ _ _ _ _ _ _ _ _ _ _ _ _ _ _ _ _ _ _ _ _ _ _ _ _ _ _ _ _ _ _ _ _ _ _ _ _ _ _ _ _ _ _ _ _ _ _ _ _ _ _ _ _ _ _ _ _ _ _ _ _ _ _ _ _ _ _ _ _ _ _ _ _ _ _ _ _ _ _ _ _ _ _ _ _ HD.out
 · have HKD:=HKK
   obtain ⟨s,hs⟩:∃ s:Nat,s=(18446744073709551616+a - b) % 18446744073709551616:=⟨_,rfl⟩
   have d3:IntKind.u64.wrap ((a:Int) - (b:Int))=(s:Int):=by rw [wrapU'];omega
   have HQ:=Lh (K1.out (-1) s 0 bufs (by rw [hs,HKD.out];rfl))
   clear hs
   go_wp2
   exact HQ.out _ _ _ _ _ _ _ _ _ _ _ _ _ _ _ _ _ _ _ _ _ _ _ _ _ _ _ _ _ _ _ _ _ _ _ _ _ _ _ _ _ _ _ _ _ _ _ _ _ _ _ _ _ _ _ _ _ _ _ _ _ _ _ _ _ _ _ _ _ _ _ _ _ _ _ _ _ _ _ _ _ _ _ _ _ _ _ _ _ _ _ _ _ _ _ _ _ _ _ _ _ _ _ _ _ _ _ _ _ _ _ _ _ _ _ _ _ _ _ _ _ _ _ _ _ _ _ _ _ _ _ _ _ _ HD.out
 · have HKD:=HKK
   obtain ⟨s,hs⟩:∃ s:Nat,s=a &&& b:=⟨_,rfl⟩
   have d3:Go.bits .and .u64 (a:Int) (b:Int)=(s:Int):=by rw [hs];exact and64 a b ha hb
   have HQ:=Lh (K1.out (-1) s 0 bufs (by rw [hs,HKD.out];rfl))
   clear hs
   go_wp2
   exact HQ.out _ _ _ _ _ _ _ _ _ _ _ _ _ _ _ _ _ _ _ _ _ _ _ _ _ _ _ _ _ _ _ _ _ _ _ _ _ _ _ _ _ _ _ _ _ _ _ _ _ _ _ _ _ _ _ _ _ _ _ _ _ _ _ _ _ _ _ _ _ _ _ _ _ _ _ _ _ _ _ _ _ _ _ _ _ _ _ _ _ _ _ _ _ _ _ _ _ _ _ _ _ _ _ _ _ _ _ _ _ _ _ _ _ _ _ _ _ _ _ _ _ _ _ _ _ _ _ _ _ _ _ _ _ _ HD.out
 · have HKD:=HKK
   obtain ⟨s,hs⟩:∃ s:Nat,s=a ||| b:=⟨_,rfl⟩
   have d3:Go.bits .or .u64 (a:Int) (b:Int)=(s:Int):=by rw [hs];exact or64 a b ha hb
   have HQ:=Lh (K1.out (-1) s 0 bufs (by rw [hs,HKD.out];rfl))
   clear hs
   go_wp2
   exact HQ.out _ _ _ _ _ _ _ _ _ _ _ _ _ _ _ _ _ _ _ _ _ _ _ _ _ _ _ _ _ _ _ _ _ _ _ _ _ _ _ _ _ _ _ _ _ _ _ _ _ _ _ _ _ _ _ _ _ _ _ _ _ _ _ _ _ _ _ _ _ _ _ _ _ _ _ _ _ _ _ _ _ _ _ _ _ _ _ _ _ _ _ _ _ _ _ _ _ _ _ _ _ _ _ _ _ _ _ _ _ _ _ _ _ _ _ _ _ _ _ _ _ _ _ _ _ _ _ _ _ _ _ _ _ _ HD.out
 · have HKD:=HKK
   obtain ⟨s,hs⟩:∃ s:Nat,s=a ^^^ b:=⟨_,rfl⟩
   have d3:Go.bits .xor .u64 (a:Int) (b:Int)=(s:Int):=by rw [hs];exact xor64 a b ha hb
   have HQ:=Lh (K1.out (-1) s 0 bufs (by rw [hs,HKD.out];rfl))
   clear hs
   go_wp2
   exact HQ.out _ _ _ _ _ _ _ _ _ _ _ _ _ _ _ _ _ _ _ _ _ _ _ _ _ _ _ _ _ _ _ _ _ _ _ _ _ _ _ _ _ _ _ _ _ _ _ _ _ _ _ _ _ _ _ _ _ _ _ _ _ _ _ _ _ _ _ _ _ _ _ _ _ _ _ _ _ _ _ _ _ _ _ _ _ _ _ _ _ _ _ _ _ _ _ _ _ _ _ _ _ _ _ _ _ _ _ _ _ _ _ _ _ _ _ _ _ _ _ _ _ _ _ _ _ _ _ _ _ _ _ _ _ _ HD.out
 · have HKD:=HKK
   have c7:=cell_row HD.out.op (k:=7) (v:=.int .u64 o.imm) rfl
   obtain ⟨im,him⟩:∃ q,o.imm=q:=⟨_,rfl⟩
   rw [him] at c7
   have him2:=shift_imm HF.out (.inl HKD.out)
   rw [him] at him2
   obtain ⟨hi1,hi2⟩:=him2
   have j0:(0:Int)≤(im:Int):=by omega
   have j1:(im:Int)≤64:=by omega
   obtain ⟨s,hs⟩:∃ s:Nat,s=(a*2 ^ im) % 18446744073709551616:=⟨_,rfl⟩
   have d3:IntKind.u64.wrap ((a:Int)*2 ^ im)=(s:Int):=by rw [hs,wrapU'];simp
   have HQ:=Lh (K1.out (-1) s 0 bufs (by rw [hs,HKD.out,him];rfl))
   clear hs him
   go_wp2
   exact HQ.out _ _ _ _ _ _ _ _ _ _ _ _ _ _ _ _ _ _ _ _ _ _ _ _ _ _ _ _ _ _ _ _ _ _ _ _ _ _ _ _ _ _ _ _ _ _ _ _ _ _ _ _ _ _ _ _ _ _ _ _ _ _ _ _ _ _ _ _ _ _ _ _ _ _ _ _ _ _ _ _ _ _ _ _ _ _ _ _ _ _ _ _ _ _ _ _ _ _ _ _ _ _ _ _ _ _ _ _ _ _ _ _ _ _ _ _ _ _ _ _ _ _ _ _ _ _ _ _ _ _ _ _ _ _ HD.out
 · have HKD:=HKK
   have c7:=cell_row HD.out.op (k:=7) (v:=.int .u64 o.imm) rfl
   obtain ⟨im,him⟩:∃ q,o.imm=q:=⟨_,rfl⟩
   rw [him] at c7
   have him2:=shift_imm HF.out (.inr HKD.out)
   rw [him] at him2
   obtain ⟨hi1,hi2⟩:=him2
   have j0:(0:Int)≤(im:Int):=by omega
   have j1:(im:Int)≤64:=by omega
   obtain ⟨s,hs⟩:∃ s:Nat,s=a / 2 ^ im:=⟨_,rfl⟩
   have d3:(a:Int) / 2 ^ im=(s:Int):=by rw [hs];simp
   have HQ:=Lh (K1.out (-1) s 0 bufs (by rw [hs,HKD.out,him];rfl))
   clear hs him
   go_wp2
   exact HQ.out _ _ _ _ _ _ _ _ _ _ _ _ _ _ _ _ _ _ _ _ _ _ _ _ _ _ _ _ _ _ _ _ _ _ _ _ _ _ _ _ _ _ _ _ _ _ _ _ _ _ _ _ _ _ _ _ _ _ _ _ _ _ _ _ _ _ _ _ _ _ _ _ _ _ _ _ _ _ _ _ _ _ _ _ _ _ _ _ _ _ _ _ _ _ _ _ _ _ _ _ _ _ _ _ _ _ _ _ _ _ _ _ _ _ _ _ _ _ _ _ _ _ _ _ _ _ _ _ _ _ _ _ _ _ HD.out
 · have HKD:=HKK
   obtain ⟨m1,hm1⟩:∃ q,(mulF a b).1=q:=⟨_,rfl⟩
   obtain ⟨m2,hm2⟩:∃ q,(mulF a b).2=q:=⟨_,rfl⟩
   have HM:=Lh (RMul_any a b w ha hb)
   rw [hm1,hm2] at HM
   have HQ:=Lh (K1.out (-1) m1 m2 bufs (by rw [HKD.out,←hm1,←hm2];rfl))
   clear hm1 hm2
   go_wp2_with ((with_reducible refine (HM.out).mono ?_);rintro e w1 ⟨rfl,rfl⟩)
   exact HQ.out _ _ _ _ _ _ _ _ _ _ _ _ _ _ _ _ _ _ _ _ _ _ _ _ _ _ _ _ _ _ _ _ _ _ _ _ _ _ _ _ _ _ _ _ _ _ _ _ _ _ _ _ _ _ _ _ _ _ _ _ _ _ _ _ _ _ _ _ _ _ _ _ _ _ _ _ _ _ _ _ _ _ _ _ _ _ _ _ _ _ _ _ _ _ _ _ _ _ _ _ _ _ _ _ _ _ _ _ _ _ _ _ _ _ _ _ _ _ _ _ _ _ _ _ _ _ _ _ _ _ _ _ _ _ HD.out
 · have HKD:=HKK
   obtain ⟨m1,hm1⟩:∃ x,(addF a b q).1=x:=⟨_,rfl⟩
   obtain ⟨m2,hm2⟩:∃ x,(addF a b q).2=x:=⟨_,rfl⟩
   have HM:=Lh (RAdd_any a b q w ha hb)
   rw [hm1,hm2] at HM
   have HBI:=Lh (bit_any m2 w)
   have HQ:=Lh (K1.out (-1) m1 m2.toNat bufs (by rw [HKD.out,←hm1,←hm2,←HQ8.out];rfl))
   clear hm1 hm2
   go_wp2_with (first | ((with_reducible refine (HM.out).mono ?_);rintro e w1 ⟨rfl,rfl⟩) | ((with_reducible refine (HBI.out).mono ?_);rintro e w1 ⟨rfl,rfl⟩))
   exact HQ.out _ _ _ _ _ _ _ _ _ _ _ _ _ _ _ _ _ _ _ _ _ _ _ _ _ _ _ _ _ _ _ _ _ _ _ _ _ _ _ _ _ _ _ _ _ _ _ _ _ _ _ _ _ _ _ _ _ _ _ _ _ _ _ _ _ _ _ _ _ _ _ _ _ _ _ _ _ _ _ _ _ _ _ _ _ _ _ _ _ _ _ _ _ _ _ _ _ _ _ _ _ _ _ _ _ _ _ _ _ _ _ _ _ _ _ _ _ _ _ _ _ _ _ _ _ _ _ _ _ _ _ _ _ _ HD.out
 · have HKD:=HKK
   obtain ⟨m1,hm1⟩:∃ x,(subF a b q).1=x:=⟨_,rfl⟩
   obtain ⟨m2,hm2⟩:∃ x,(subF a b q).2=x:=⟨_,rfl⟩
   have HM:=Lh (RSub_any a b q w ha hb)
   rw [hm1,hm2] at HM
   have HBI:=Lh (bit_any m2 w)
   have HQ:=Lh (K1.out (-1) m1 m2.toNat bufs (by rw [HKD.out,←hm1,←hm2,←HQ8.out];rfl))
   clear hm1 hm2
   go_wp2_with (first | ((with_reducible refine (HM.out).mono ?_);rintro e w1 ⟨rfl,rfl⟩) | ((with_reducible refine (HBI.out).mono ?_);rintro e w1 ⟨rfl,rfl⟩))
   exact HQ.out _ _ _ _ _ _ _ _ _ _ _ _ _ _ _ _ _ _ _ _ _ _ _ _ _ _ _ _ _ _ _ _ _ _ _ _ _ _ _ _ _ _ _ _ _ _ _ _ _ _ _ _ _ _ _ _ _ _ _ _ _ _ _ _ _ _ _ _ _ _ _ _ _ _ _ _ _ _ _ _ _ _ _ _ _ _ _ _ _ _ _ _ _ _ _ _ _ _ _ _ _ _ _ _ _ _ _ _ _ _ _ _ _ _ _ _ _ _ _ _ _ _ _ _ _ _ _ _ _ _ _ _ _ _ HD.out
 · have HKD:=HKK
   cases q
   · have HQ:=Lh (K1.out (-1) b 0 bufs (by rw [HKD.out];show some ((if c % 2 == 1 then a else b),_)=_;rw [HQ8.out];rfl))
     go_wp2
     exact HQ.out _ _ _ _ _ _ _ _ _ _ _ _ _ _ _ _ _ _ _ _ _ _ _ _ _ _ _ _ _ _ _ _ _ _ _ _ _ _ _ _ _ _ _ _ _ _ _ _ _ _ _ _ _ _ _ _ _ _ _ _ _ _ _ _ _ _ _ _ _ _ _ _ _ _ _ _ _ _ _ _ _ _ _ _ _ _ _ _ _ _ _ _ _ _ _ _ _ _ _ _ _ _ _ _ _ _ _ _ _ _ _ _ _ _ _ _ _ _ _ _ _ _ _ _ _ _ _ _ _ _ _ _ _ _ HD.out
   · have HQ:=Lh (K1.out (-1) a 0 bufs (by rw [HKD.out];show some ((if c % 2 == 1 then a else b),_)=_;rw [HQ8.out];rfl))
     go_wp2
     exact HQ.out _ _ _ _ _ _ _ _ _ _ _ _ _ _ _ _ _ _ _ _ _ _ _ _ _ _ _ _ _ _ _ _ _ _ _ _ _ _ _ _ _ _ _ _ _ _ _ _ _ _ _ _ _ _ _ _ _ _ _ _ _ _ _ _ _ _ _ _ _ _ _ _ _ _ _ _ _ _ _ _ _ _ _ _ _ _ _ _ _ _ _ _ _ _ _ _ _ _ _ _ _ _ _ _ _ _ _ _ _ _ _ _ _ _ _ _ _ _ _ _ _ _ _ _ _ _ _ _ _ _ _ _ _ _ HD.out
 · have HKD:=HKK
   have c7:=cell_row HD.out.op (k:=7) (v:=.int .u64 o.imm) rfl
   obtain ⟨im,him⟩:∃ q,o.imm=q:=⟨_,rfl⟩
   rw [him] at c7
   obtain ⟨j,hj,hjp⟩:=limb_of HF.out (.inl HKD.out)
   obtain ⟨row,hrow⟩:∃ row,bufs[j]? = some row:=⟨_,List.getElem?_eq_getElem (by have:=HBL.out.1;omega)⟩
   obtain ⟨n,hn⟩:∃ n:Nat,n=(im+a) % 18446744073709551616:=⟨_,rfl⟩
   have d3:IntKind.u64.wrap ((im:Int)+(a:Int))=(n:Int):=by rw [wrapU'];omega
   have HJ:=Lh hj
   have HROW:=Lh hrow
   have h6:=HBL.out.2 row (List.mem_of_getElem? hrow)
   have hdp:doP o.kind o.imm o.buf bufs a b c=(if row.length≤n then none else some (row.getD n 0,0,(n:Int),bufs)):=by
     rw [HKD.out,him,hj,hn]
     show (match bufs[((j:Nat):Int).toNat]? with | none=>none | some row=>_)=_
     rw [Int.toNat_natCast,hrow];rfl
   have HDP:=Lh hdp
   have HH6:=Lh h6
   clear hj hrow hn him h6 hjp hdp
   go_wp2
   refine wp_code (c:=partR Tryd.f43 39) (by kernel_rfl) ?_
   refine do_r39 (j:=j) (n:=n) (row:=row) _ _ HD.out HJ.out HROW.out HH6.out rfl ?_
   intro kS kT kU m5 m6 m7 m8 oB oC oD oE w2 h2
   have H2:=Lh h2
   clear h2
   cases hq:decide (row.length≤n)
   rotate_left
   · have HQ:=Lh (K2.out (by rw [HDP.out,if_pos (of_decide_eq_true hq)]))
     clear hq c7
     go_wp2
     exact HQ.out _ _ _ _ _ _ _ _ _ _ _ _ _ _ _ _ _ _ _ _ _ _ _ _ _ _ _ _ _ _ _ _ _ _ _ _ _ _ _ _ _ _ _ _ _ _ _ _ _ _ _ _ _ _ _ _ _ _ _ _ _ _ _ _ _ _ _ _ _ _ _ _ _ _ _ _ _ _ _ _ _ _ _ _ _ _ _ _ _ _ _ _ _ _ _ _ _ _ _ _ _ _ _ _ _ _ _ _ _ _ _ _ _ _ _ _ _ _ _ _ _ _ _ _ _ _ _ _ _ _ _ _ _ _ _ _ H2.out
   have hlt:n < row.length:=by have:=of_decide_eq_false hq;omega
   have q9:IntKind.i64.wrap (n:Int)=(n:Int):=by rw [IntKind.wrap_i64];have:=HH6.out;omega
   obtain ⟨x,hx⟩:∃ x,row[n]? = some x:=⟨_,List.getElem?_eq_getElem hlt⟩
   have HX:=Lh hx
   have HQ:=Lh (K1.out (n:Int) x 0 bufs (by rw [HDP.out,if_neg (of_decide_eq_false hq),List.getD_eq_getElem?_getD,hx];rfl))
   have c0:=cell_row H2.out.op (k:=0) (v:=.int .i64 o.kind) rfl
   rw [HKD.out] at c0
   clear hq hx hlt c7
   go_wp2
   refine wp_code (c:=partR Tryd.f43 44) (by kernel_rfl) ?_
   refine do_r44 (j:=j) (n:=n) (row:=row) (x:=x) _ _ H2.out HJ.out HROW.out HX.out ?_
   intro nC nD nE nF nG nH nI nJ nK nL nM w3 h3
   exact HQ.out _ _ _ _ _ _ _ _ _ _ _ _ _ _ _ _ _ _ _ _ _ _ _ _ _ _ _ _ _ _ _ _ _ _ _ _ _ _ _ _ _ _ _ _ _ _ _ _ _ _ _ _ _ _ _ _ _ _ _ _ _ _ _ _ _ _ _ _ _ _ _ _ _ _ _ _ _ _ _ _ _ _ _ _ _ _ _ _ _ _ _ _ _ _ _ _ _ _ _ _ _ _ _ _ _ _ _ _ _ _ _ _ _ _ _ _ _ _ _ _ _ _ _ _ _ _ _ _ _ _ _ _ _ _ h3
 · have HKD:=HKK
   have c7:=cell_row HD.out.op (k:=7) (v:=.int .u64 o.imm) rfl
   obtain ⟨im,him⟩:∃ q,o.imm=q:=⟨_,rfl⟩
   rw [him] at c7
   obtain ⟨j,hj,hjp⟩:=limb_of HF.out (.inr HKD.out)
   obtain ⟨row,hrow⟩:∃ row,bufs[j]? = some row:=⟨_,List.getElem?_eq_getElem (by have:=HBL.out.1;omega)⟩
   obtain ⟨n,hn⟩:∃ n:Nat,n=(im+a) % 18446744073709551616:=⟨_,rfl⟩
   have d3:IntKind.u64.wrap ((im:Int)+(a:Int))=(n:Int):=by rw [wrapU'];omega
   have HJ:=Lh hj
   have HROW:=Lh hrow
   have h6:=HBL.out.2 row (List.mem_of_getElem? hrow)
   have hdp:doP o.kind o.imm o.buf bufs a b c=(if row.length≤n then none else some (0,0,(n:Int),bufs.set j (row.set n b))):=by
     rw [HKD.out,him,hj,hn]
     show (match bufs[((j:Nat):Int).toNat]? with | none=>none | some row=>_)=_
     rw [Int.toNat_natCast,hrow];rfl
   have HDP:=Lh hdp
   have HH6:=Lh h6
   clear hj hrow hn him h6 hjp hdp
   go_wp2
   refine wp_code (c:=partR Tryd.f43 39) (by kernel_rfl) ?_
   refine do_r39 (j:=j) (n:=n) (row:=row) _ _ HD.out HJ.out HROW.out HH6.out rfl ?_
   intro kS kT kU m5 m6 m7 m8 oB oC oD oE w2 h2
   have H2:=Lh h2
   clear h2
   cases hq:decide (row.length≤n)
   rotate_left
   · have HQ:=Lh (K2.out (by rw [HDP.out,if_pos (of_decide_eq_true hq)]))
     clear hq c7
     go_wp2
     exact HQ.out _ _ _ _ _ _ _ _ _ _ _ _ _ _ _ _ _ _ _ _ _ _ _ _ _ _ _ _ _ _ _ _ _ _ _ _ _ _ _ _ _ _ _ _ _ _ _ _ _ _ _ _ _ _ _ _ _ _ _ _ _ _ _ _ _ _ _ _ _ _ _ _ _ _ _ _ _ _ _ _ _ _ _ _ _ _ _ _ _ _ _ _ _ _ _ _ _ _ _ _ _ _ _ _ _ _ _ _ _ _ _ _ _ _ _ _ _ _ _ _ _ _ _ _ _ _ _ _ _ _ _ _ _ _ _ _ H2.out
   have hlt:n < row.length:=by have:=of_decide_eq_false hq;omega
   have q9:IntKind.i64.wrap (n:Int)=(n:Int):=by rw [IntKind.wrap_i64];have:=HH6.out;omega
   obtain ⟨x,hx⟩:∃ x,row[n]? = some x:=⟨_,List.getElem?_eq_getElem hlt⟩
   have HX:=Lh hx
   have HQ:=Lh (K1.out (n:Int) 0 0 (bufs.set j (row.set n b)) (by rw [HDP.out,if_neg (of_decide_eq_false hq)]))
   have c0:=cell_row H2.out.op (k:=0) (v:=.int .i64 o.kind) rfl
   rw [HKD.out] at c0
   clear hq hx hlt c7
   go_wp2
   refine wp_code (c:=partR Tryd.f43 43) (by kernel_rfl) ?_
   refine do_r43 (j:=j) (n:=n) (row:=row) (x:=x) (b:=b) _ _ H2.out HJ.out HROW.out HX.out ?_
   intro oL oM oN oO oP oQ oS oT oU oV nB w3 h3
   exact HQ.out _ _ _ _ _ _ _ _ _ _ _ _ _ _ _ _ _ _ _ _ _ _ _ _ _ _ _ _ _ _ _ _ _ _ _ _ _ _ _ _ _ _ _ _ _ _ _ _ _ _ _ _ _ _ _ _ _ _ _ _ _ _ _ _ _ _ _ _ _ _ _ _ _ _ _ _ _ _ _ _ _ _ _ _ _ _ _ _ _ _ _ _ _ _ _ _ _ _ _ _ _ _ _ _ _ _ _ _ _ _ _ _ _ _ _ _ _ _ _ _ _ _ _ _ _ _ _ _ _ _ _ _ _ _ h3
end Go.Proofs.YtppoiahhaclleaaDoor
