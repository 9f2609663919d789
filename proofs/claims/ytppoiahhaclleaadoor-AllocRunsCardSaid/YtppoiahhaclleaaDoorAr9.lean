/- Part 9 of a claim; what it proves stands in its last text. -/
import Derived.Test.YtppoiahhaclleaaDoorAr8
import Derived.Shelf.Small.Bits
import Derived.Shelf.Small.Wraps
import Derived.Shelf.Strconv.Itoa0
import Derived.Shelf.Bits.Mul64
import Derived.Shelf.Slices.Turned
import Derived.Ground.Names2Prog
import Derived.Shelf.Slices.SearchI
import Derived.Ground.SlsfProg
import Derived.Shelf.SlSortCmp.Insertion
import Derived.Test.YtppoiahhaclleaaDoorProg
namespace Go.Proofs.YtppoiahhaclleaaDoor
open Go.RowKit
set_option maxRecDepth 100000
variable {aB aA kV kW aC aD kX kY kZ lA lB lC aE aF aG aH aI aJ aK aL aM aN aO aP aQ aR aS aT aU aV aW aX aY aZ a8 bA bB bC bD bE bF bG bH bI bJ bK bL bM bN bO bP bQ bS bT bU bV bW bX bY bZ b4 b6 cA cC cD cE cF cG cH cI cJ cK cL cM cN cO cP cQ cR cT cU cV cW cX cY cZ c8 dA dB dC dD dE dF dG dH dI dJ dK dL dM dN dO dP dQ dR dS dT dU dV dW dX dY dZ d7 eA eB eC eD eE eF eG eH eI eJ eK eL eM eN eO eP eQ eR eS eT eU eV eW eX eY eZ fA fB fC fD fE fF fG fH fI fJ fK fL fM fN fO fP fQ fR fS fT fU fV fW fX fY fZ gA gC gD gE gF gG gH gI gJ gK gL gM gN gO gP gQ gR gS gT gU gV gW gX gY gZ g9 hJ hY hZ iA iB iC iD iE : Value}
structure RSt (w:World) (B0 gm nr:Nat) (p:LP) (s:CSt) (A:Option Addr) (c:Nat):Prop where
 made:MadeAt w gm s.made
 len:s.made.length=nr
 own:w.ownsRow B0 3 1 (.slice A s.loops.length c) s.loops.length (intV s.loops)
 ne:(Value.slice A s.loops.length c).ownBlock≠some gm
 few:s.loops.length≤8
 inr:∀ r∈s.loops,0≤r∧r < p.regs
theorem RSt.next {w w':World} {B0 gm nr:Nat} {p:LP} {s:CSt} {A:Option Addr} {c:Nat} (h:RSt w B0 gm nr p s A c) (hb:Below w.heap.size w w'):RSt w' B0 gm nr p s A c :=
 ⟨(hb.block gm (lt_of_block h.made)).trans h.made,h.len,row_keep (fun g hg=>hb.block g (own_lt h.own g hg).1) h.own,h.ne,h.few,h.inr⟩
set_option maxHeartbeats 4000000 in
theorem rchk_r28 {o:LOp} {bo:Nat} (w:World) (Q:Exit→Act→World→Prop) (hO:OpAt w bo o) (h1:1≤o.kind) (h2:o.kind≤17)
   (k1:∀ (Am At:Option Addr) (cm ct:Nat),∀ (kH kI kJ kK:Value) (w':World),Below w.heap.size w w'→NumsAt w' (New w w') (.slice Am (makesF o).length cm) (makesF o)→NumsAt w' (New w w') (.slice At (takesF o).length ct) (takesF o)→Q (.normal) ⟨#[aB,aA,kV,kW,aC,aD,kX,kY,kZ,.pointer (some ⟨bo,0,none⟩),.slice Am (makesF o).length cm,.slice At (takesF o).length ct,aE,aF,aG,aH,aI,aJ,aK,aL,aM,aN,aO,aP,aQ,aR,aS,aT,aU,aV,aW,aX,aY,aZ,a8,bA,bB,bC,bD,bE,bF,bG,bH,bI,bJ,bK,bL,bM,bN,bO,bP,bQ,bS,bT,bU,bV,bW,bX,bY,bZ,b4,b6,cA,cC,cD,cE,cF,cG,cH,cI,cJ,cK,cL,cM,cN,cO,cP,cQ,cR,cT,cU,cV,cW,cX,cY,cZ,c8,dA,dB,dC,dD,dE,dF,dG,dH,dI,dJ,dK,dL,dM,dN,dO,dP,dQ,dR,dS,dT,dU,dV,dW,dX,dY,dZ,d7,eA,eB,eC,eD,eE,kH,kI,kJ,kK,eJ,eK,eL,eM,eN,eO,eP,eQ,eR,eS,eT,eU,eV,eW,eX,eY,eZ,fA,fB,fC,fD,fE,fF,fG,fH,fI,fJ,fK,fL,fM,fN,fO,fP,fQ,fR,fS,fT,fU,fV,fW,fX,fY,fZ,gA,gC,gD,gE,gF,gG,gH,gI,gJ,gK,gL,gM,gN,gO,gP,gQ,gR,gS,gT,gU,gV,gW,gX,gY,gZ,g9,hJ,hY,hZ,iA,iB,iC,iD,iE],[]⟩ w'):(partR Tryd.f8 28).wp Tryd.prog Q ⟨#[aB,aA,kV,kW,aC,aD,kX,kY,kZ,.pointer (some ⟨bo,0,none⟩),lB,lC,aE,aF,aG,aH,aI,aJ,aK,aL,aM,aN,aO,aP,aQ,aR,aS,aT,aU,aV,aW,aX,aY,aZ,a8,bA,bB,bC,bD,bE,bF,bG,bH,bI,bJ,bK,bL,bM,bN,bO,bP,bQ,bS,bT,bU,bV,bW,bX,bY,bZ,b4,b6,cA,cC,cD,cE,cF,cG,cH,cI,cJ,cK,cL,cM,cN,cO,cP,cQ,cR,cT,cU,cV,cW,cX,cY,cZ,c8,dA,dB,dC,dD,dE,dF,dG,dH,dI,dJ,dK,dL,dM,dN,dO,dP,dQ,dR,dS,dT,dU,dV,dW,dX,dY,dZ,d7,eA,eB,eC,eD,eE,eF,eG,eH,eI,eJ,eK,eL,eM,eN,eO,eP,eQ,eR,eS,eT,eU,eV,eW,eX,eY,eZ,fA,fB,fC,fD,fE,fF,fG,fH,fI,fJ,fK,fL,fM,fN,fO,fP,fQ,fR,fS,fT,fU,fV,fW,fX,fY,fZ,gA,gC,gD,gE,gF,gG,gH,gI,gJ,gK,gL,gM,gN,gO,gP,gQ,gR,gS,gT,gU,gV,gW,gX,gY,gZ,g9,hJ,hY,hZ,iA,iB,iC,iD,iE],[]⟩ w:=by
 have HMK:=Lh (show ∀ w,Calls Tryd.prog 28 #[.agg #[.int .i64 o.kind,.int .i64 o.d,.int .i64 o.e,.int .i64 o.a,.int .i64 o.b,.int .i64 o.c,.int .i64 o.buf,.int .u64 o.imm]] w _ from fun w=>Makes_any o w h1 h2)
 have HTK:=Lh (show ∀ w,Calls Tryd.prog 29 #[.agg #[.int .i64 o.kind,.int .i64 o.d,.int .i64 o.e,.int .i64 o.a,.int .i64 o.b,.int .i64 o.c,.int .i64 o.buf,.int .u64 o.imm]] w _ from fun w=>Takes_any o w h1 h2)
 have HO:=Lh hO
 have K1:=Lh k1
 clear hO h1 h2 k1
 conv=>arg 2;whnf
 (refine wp_region_lines (fun w_=>OpAt w_ bo o) (by kernel_rfl) (by kernel_rfl) HO.out ?_)
 (try simp only [])
 repeat (first | (refine runL_no (by rfl) ?_;(try simp only [Act.put,List.setIfInBounds_toArray,List.set_cons_zero,List.set_cons_succ])) | (refine runL_val (v:=?_) (by rfl) ?_ ?_;rotate_left;(focus (intro w_ hw_;have o0_:=cell_row hw_ (k:=0) (v:=.int .i64 o.kind) rfl;have o1_:=cell_row hw_ (k:=1) (v:=.int .i64 o.d) rfl;have o2_:=cell_row hw_ (k:=2) (v:=.int .i64 o.e) rfl;have o3_:=cell_row hw_ (k:=3) (v:=.int .i64 o.a) rfl;have o4_:=cell_row hw_ (k:=4) (v:=.int .i64 o.b) rfl;have o5_:=cell_row hw_ (k:=5) (v:=.int .i64 o.c) rfl;have o6_:=cell_row hw_ (k:=6) (v:=.int .i64 o.buf) rfl;have o7_:=cell_row hw_ (k:=7) (v:=.int .u64 o.imm) rfl;go_simp;(try with_reducible rfl);done));(try simp only [Act.put,List.setIfInBounds_toArray,List.set_cons_zero,List.set_cons_succ])) | (refine runL_call (f:=?_) (args:=?_) (w1:=?_) (by rfl) (by rfl) ?_ ?_;rotate_left 3;(focus (go_simp;refine ⟨⟨?_,?_⟩,?_⟩ <;> with_reducible rfl));(with_reducible refine (HMK.out _).mono ?_);rintro e w5 ⟨vm,rfl,hm⟩;have HM:=Lh hm;clear hm;have HB5:=Lh ((Below.refl w.heap.size w).drew.trans HM.out.1);refine ⟨_,rfl,.inr (op_next HO.out HB5.out),?_⟩;(try simp only [Act.put,List.setIfInBounds_toArray,List.set_cons_zero,List.set_cons_succ])) | (refine runL_call (f:=?_) (args:=?_) (w1:=?_) (by rfl) (by rfl) ?_ ?_;rotate_left 3;(focus (go_simp;refine ⟨⟨?_,?_⟩,?_⟩ <;> with_reducible rfl));(with_reducible refine (HTK.out _).mono ?_);rintro e w6 ⟨vt,rfl,ht⟩;have HT:=Lh ht;clear ht;have HB6:=Lh (HB5.out.trans (HT.out.1.mono HB5.out.size));refine ⟨_,rfl,.inr (op_next HO.out HB6.out),?_⟩;(try simp only [Act.put,List.setIfInBounds_toArray,List.set_cons_zero,List.set_cons_succ])))
 (refine runL_nil ?_)
 obtain ⟨Am,cm,rfl,_⟩:=rows_form HM.out.2
 obtain ⟨At,ct,rfl,_⟩:=rows_form HT.out.2
 exact K1.out Am At cm ct _ _ _ _ _ HB6.out ((Rows.keep HM.out.2 (SameOn.of_below HT.out.1 fun k hk=>hk.2)).mono fun k hk=>⟨hk.1,Nat.lt_of_lt_of_le hk.2 HT.out.1.size⟩) (HT.out.2.mono fun k hk=>⟨Nat.le_trans HB5.out.size hk.1,hk.2⟩)
set_option maxHeartbeats 8000000 in
theorem rchk_t20 {p:LP} {Ab Ao A:Option Addr} {nb cb no co bp gm nr cr B0 c k:Nat} {s:CSt} {o:LOp} (w:World) (Q:Exit→Act→World→Prop) (hP:w.heap[bp]? = some (.cells #[.int .i64 p.regs,.slice Ab nb cb,.slice Ao no co] 25 (0,0))) (hp:ProgAt w (fun j=>j < B0) [.int .i64 p.regs,.slice Ab nb cb,.slice Ao no co] p) (hB0:B0≤gm) (ho:p.ops[k]? = some o) (hs:RSt w B0 gm nr p s A c) (hok:headF p=0) (hnr:p.regs=nr)
   (k1:(opF p o s).1=0→∀ (ex:Exit),(ex=.normal∨ex=.exit 5)→∀ (A':Option Addr) (c':Nat),∀ (mZ m9 mM mN mO mP nA nQ jC jD jE jF jG jH jI jJ jK jL jM jO jP jQ jR jS jT jU jV jW jX jY jZ j5 j6 j7 j8 j9 kF kG kH kI kJ kK kL kN kO kP kQ kR kS kT kU m5 m6 m7 m8 oB oC oD oE oF oG oH oI oJ oK oL oM oN oO oP oQ oS oT oU oV nB nC nD nE nF nG nH nI nJ nK nL nM nN nO nP nR nS nT nU nV nW nX nY nZ n8 n9 oA oW oX oY oZ o8 o9 pA pB:Value) (w':World),Below B0 w w'→RSt w' B0 gm nr p (opF p o s).2 A' c'→Q (ex) ⟨#[aB,.pointer (some ⟨bp,0,none⟩),mZ,m9,aC,aD,.slice (some ⟨gm,0,none⟩) nr cr,.slice A' (opF p o s).2.loops.length c',.int .i64 (k:Nat),mM,mN,mO,mP,nA,nQ,aH,aI,aJ,aK,aL,aM,aN,aO,aP,aQ,aR,aS,aT,aU,aV,aW,aX,aY,aZ,a8,bA,bB,bC,bD,bE,bF,bG,bH,bI,bJ,bK,bL,bM,bN,bO,bP,bQ,bS,bT,bU,bV,bW,bX,bY,bZ,b4,b6,cA,cC,cD,cE,cF,cG,cH,cI,cJ,cK,cL,cM,cN,cO,cP,cQ,cR,cT,cU,cV,cW,cX,cY,cZ,c8,dA,dB,jC,jD,jE,jF,jG,jH,jI,jJ,jK,jL,jM,jO,jP,jQ,jR,jS,jT,jU,jV,jW,jX,jY,jZ,j5,j6,j7,j8,j9,kF,kG,kH,kI,kJ,kK,kL,kN,kO,kP,kQ,kR,kS,kT,kU,m5,m6,m7,m8,oB,oC,oD,oE,oF,oG,oH,oI,oJ,oK,oL,oM,oN,oO,oP,oQ,oS,oT,oU,oV,nB,nC,nD,nE,nF,nG,nH,nI,nJ,nK,nL,nM,nN,nO,nP,nR,nS,nT,nU,nV,nW,nX,nY,nZ,n8,n9,oA,oW,oX,oY,oZ,o8,o9,pA,pB,g9,hJ,hY,hZ,iA,iB,iC,iD,iE],[]⟩ w') (k2:(opF p o s).1≠0→∀ (mK mM mN mO mP nA nQ jC jD jE jF jG jH jI jJ jK jL jM jO jP jQ jR jS jT jU jV jW jX jY jZ j5 j6 j7 j8 j9 kF kG kH kI kJ kK kL kN kO kP kQ kR kS kT kU m5 m6 m7 m8 oB oC oD oE oF oG oH oI oJ oK oL oM oN oO oP oQ oS oT oU oV nB nC nD nE nF nG nH nI nJ nK nL nM nN nO nP nR nS nT nU nV nW nX nY nZ n8 n9 oA oW oX oY oZ o8 o9 pA pB:Value) (w':World),Below w.heap.size w w'→Q (.ret) ⟨#[aB,.pointer (some ⟨bp,0,none⟩),.int .i64 (k:Nat),.int .i64 (opF p o s).1,aC,aD,.slice (some ⟨gm,0,none⟩) nr cr,mK,.int .i64 (k:Nat),mM,mN,mO,mP,nA,nQ,aH,aI,aJ,aK,aL,aM,aN,aO,aP,aQ,aR,aS,aT,aU,aV,aW,aX,aY,aZ,a8,bA,bB,bC,bD,bE,bF,bG,bH,bI,bJ,bK,bL,bM,bN,bO,bP,bQ,bS,bT,bU,bV,bW,bX,bY,bZ,b4,b6,cA,cC,cD,cE,cF,cG,cH,cI,cJ,cK,cL,cM,cN,cO,cP,cQ,cR,cT,cU,cV,cW,cX,cY,cZ,c8,dA,dB,jC,jD,jE,jF,jG,jH,jI,jJ,jK,jL,jM,jO,jP,jQ,jR,jS,jT,jU,jV,jW,jX,jY,jZ,j5,j6,j7,j8,j9,kF,kG,kH,kI,kJ,kK,kL,kN,kO,kP,kQ,kR,kS,kT,kU,m5,m6,m7,m8,oB,oC,oD,oE,oF,oG,oH,oI,oJ,oK,oL,oM,oN,oO,oP,oQ,oS,oT,oU,oV,nB,nC,nD,nE,nF,nG,nH,nI,nJ,nK,nL,nM,nN,nO,nP,nR,nS,nT,nU,nV,nW,nX,nY,nZ,n8,n9,oA,oW,oX,oY,oZ,o8,o9,pA,pB,g9,hJ,hY,hZ,iA,iB,iC,iD,iE],[]⟩ w') {K:Act→World→Prop} (hK:∀ a w',(partT Tryd.f8 20).wp Tryd.prog Q a w'→K a w'):(partR Tryd.f8 20).wp Tryd.prog (Exit.then K Q) ⟨#[aB,.pointer (some ⟨bp,0,none⟩),kV,kW,aC,aD,.slice (some ⟨gm,0,none⟩) nr cr,.slice A s.loops.length c,.int .i64 (k:Nat),lA,lB,lC,aE,aF,aG,aH,aI,aJ,aK,aL,aM,aN,aO,aP,aQ,aR,aS,aT,aU,aV,aW,aX,aY,aZ,a8,bA,bB,bC,bD,bE,bF,bG,bH,bI,bJ,bK,bL,bM,bN,bO,bP,bQ,bS,bT,bU,bV,bW,bX,bY,bZ,b4,b6,cA,cC,cD,cE,cF,cG,cH,cI,cJ,cK,cL,cM,cN,cO,cP,cQ,cR,cT,cU,cV,cW,cX,cY,cZ,c8,dA,dB,dC,dD,dE,dF,dG,dH,dI,dJ,dK,dL,dM,dN,dO,dP,dQ,dR,dS,dT,dU,dV,dW,dX,dY,dZ,d7,eA,eB,eC,eD,eE,eF,eG,eH,eI,eJ,eK,eL,eM,eN,eO,eP,eQ,eR,eS,eT,eU,eV,eW,eX,eY,eZ,fA,fB,fC,fD,fE,fF,fG,fH,fI,fJ,fK,fL,fM,fN,fO,fP,fQ,fR,fS,fT,fU,fV,fW,fX,fY,fZ,gA,gC,gD,gE,gF,gG,gH,gI,gJ,gK,gL,gM,gN,gO,gP,gQ,gR,gS,gT,gU,gV,gW,gX,gY,gZ,g9,hJ,hY,hZ,iA,iB,iC,iD,iE],[]⟩ w:=by
 obtain ⟨g,off,hA,hF,y0,y1,y2,y3,y4,y5,y6,y7⟩:=(show OpsAt w (fun j=>j < B0) (.slice Ao no co) p.ops by
   obtain ⟨vb,vo,h,h1,h2⟩:=hp.row
   simp only [List.cons.injEq] at h
   rw [←h.2.2.1] at h2
   exact h2).at_ ho
 have hno:p.ops.length=no:=by
   obtain ⟨vb,vo,h,h1,h2⟩:=hp.row
   simp only [List.cons.injEq] at h
   rw [←h.2.2.1] at h2
   obtain ⟨A,c,hv,_⟩:=rows_form h2;cases hv;rfl
 subst hA
 have hkn:(k:Int) < (no:Int):=by have:=(List.getElem?_eq_some_iff.1 ho).1;omega
 have hbw:B0≤w.heap.size:=by have:=lt_of_block hs.made;omega
 have p0:w.cell? ⟨bp,0,none⟩=some (.int .i64 p.regs):=cell_row hP (row:=[.int .i64 p.regs,.slice Ab nb cb,.slice (some ⟨g,off,none⟩) no co]) rfl
 have p1:w.cell? ⟨bp,1,none⟩=some (.slice Ab nb cb):=cell_row hP (row:=[.int .i64 p.regs,.slice Ab nb cb,.slice (some ⟨g,off,none⟩) no co]) rfl
 have p2:w.cell? ⟨bp,2,none⟩=some (.slice (some ⟨g,off,none⟩) no co):=cell_row hP (row:=[.int .i64 p.regs,.slice Ab nb cb,.slice (some ⟨g,off,none⟩) no co]) rfl
 have hlb:bp < w.heap.size:=lt_of_block hP
 obtain ⟨W,hW⟩:∃ q,q=w.alloc (.cells #[.int .i64 o.kind,.int .i64 o.d,.int .i64 o.e,.int .i64 o.a,.int .i64 o.b,.int .i64 o.c,.int .i64 o.buf,.int .u64 o.imm] 47):=⟨_,rfl⟩
 have hbW:Below w.heap.size w W:=by rw [hW];exact (Below.refl _ _).alloc (Nat.le_refl _) _
 have hzW:W.heap.size=w.heap.size+1:=by rw [hW];simp
 have hO:OpAt W w.heap.size o:=by rw [hW];exact heap_alloc_new w _
 obtain ⟨bo,hbo⟩:∃ b,w.heap.size=b:=⟨_,rfl⟩
 have hpW:ProgAt W (fun j=>j < W.heap.size) [.int .i64 p.regs,.slice Ab nb cb,.slice (some ⟨g,off,none⟩) no co] p:=(hp.keep (SameOn.of_below hbW fun j hj=>Nat.lt_of_lt_of_le hj hbw)).mono fun j hj=>by have h:j < B0:=hj;show j < W.heap.size;omega
 have hFL:Calls Tryd.prog 27 #[.agg #[.int .i64 p.regs,.slice Ab nb cb,.slice (some ⟨g,off,none⟩) no co],.agg #[.int .i64 o.kind,.int .i64 o.d,.int .i64 o.e,.int .i64 o.a,.int .i64 o.b,.int .i64 o.c,.int .i64 o.buf,.int .u64 o.imm]] W fun e w'=>e=.returned (.bool (fieldsF p o))∧Below W.heap.size W w' :=
   Rfields_any p Ab (some ⟨g,off,none⟩) nb cb no co o W hpW (fun b hb=>by have:=((head_ok hok).2.2.2.2 b hb).1;omega)
 rw [hbo] at hO
 have HFL:=Lh hFL
 have HW:=Lh hW
 have HS:=Lh (hs.next hbW)
 have HBW:=Lh hbW
 have HO:=Lh hO
 have HK1:=Lh k1
 have HK2:=Lh k2
 have HNR:=Lh hnr
 have HLT:=Lh (show B0≤w.heap.size∧B0≤gm∧gm < bo∧bo < W.heap.size∧w.heap.size=bo from ⟨hbw,hB0,by have:=lt_of_block hs.made;omega,by omega,hbo⟩)
 have HPR:=Lh (And.intro (head_ok hok).2.1 (head_ok hok).1)
 have k0:(0:Int)≤(k:Int):=by omega
 clear hP hp hB0 hs hok hnr k1 k2 hbw hW hzW hO hpW hFL hF ho hno
 conv=>arg 2;whnf
 conv at hK=>enter [a,w',1,2];whnf
 go_upto_region 21 with fail
 rw [←HW.out]
 have q0:=(HBW.out.cell (p:=⟨bp,0,none⟩) hlb).trans p0
 have q1:=(HBW.out.cell (p:=⟨bp,1,none⟩) hlb).trans p1
 have q2:=(HBW.out.cell (p:=⟨bp,2,none⟩) hlb).trans p2
 have o0:=cell_row HO.out (k:=0) (v:=.int .i64 o.kind) rfl
 have o1:=cell_row HO.out (k:=1) (v:=.int .i64 o.d) rfl
 have o2:=cell_row HO.out (k:=2) (v:=.int .i64 o.e) rfl
 have o3:=cell_row HO.out (k:=3) (v:=.int .i64 o.a) rfl
 have o4:=cell_row HO.out (k:=4) (v:=.int .i64 o.b) rfl
 have o5:=cell_row HO.out (k:=5) (v:=.int .i64 o.c) rfl
 have o6:=cell_row HO.out (k:=6) (v:=.int .i64 o.buf) rfl
 have o7:=cell_row HO.out (k:=7) (v:=.int .u64 o.imm) rfl
 clear hbW hlb hbo p0 p1 p2 y0 y1 y2 y3 y4 y5 y6 y7
 obtain ⟨x,hx⟩:∃ x,fieldsF p o=x:=⟨_,rfl⟩
 rw [hx] at HFL
 have HX:=Lh hx
 clear hx
 cases x
 · have HV:=Lh (show opF p o s=(2,s) by unfold opF;rw [if_pos HX.out])
   go_wp2_with ((with_reducible refine (HFL.out).mono ?_);rintro e w1 ⟨rfl,hb1⟩)
   have:=HK2.out (by rw [HV.out];show (2:Int)≠0;decide)
   rw [HV.out] at this
   exact this _ _ _ _ _ _ _ _ _ _ _ _ _ _ _ _ _ _ _ _ _ _ _ _ _ _ _ _ _ _ _ _ _ _ _ _ _ _ _ _ _ _ _ _ _ _ _ _ _ _ _ _ _ _ _ _ _ _ _ _ _ _ _ _ _ _ _ _ _ _ _ _ _ _ _ _ _ _ _ _ _ _ _ _ _ _ _ _ _ _ _ _ _ _ _ _ _ _ _ _ _ _ _ _ _ _ _ _ _ _ (HBW.out.trans (hb1.mono HBW.out.size))
 go_upto_region 23 with ((with_reducible refine (HFL.out).mono ?_);rintro e w1 ⟨rfl,hb1⟩)
 have HS1:=Lh (HS.out.next hb1)
 have HO1:=Lh (op_next HO.out hb1)
 have HB1:=Lh hb1
 clear q0 q1 q2 o0 o1 o2 o3 o4 o5 o6 o7 hb1
 have o0:=cell_row HO1.out (k:=0) (v:=.int .i64 o.kind) rfl
 by_cases h17:o.kind=17
 · have e17:(o.kind == 17)=true:=by simpa using h17
   by_cases hl:s.loops=[]
   · have hv:opF p o s=(9,s):=by unfold opF;rw [if_neg (by rw [HX.out];decide),if_pos h17,if_pos hl]
     have HV:=Lh hv
     have d1:(((s.loops.length:Nat):Int) == 0)=true:=by rw [hl];rfl
     clear hv hl h17
     go_wp2
     have:=HK2.out (by rw [HV.out];show (9:Int)≠0;decide)
     rw [HV.out] at this
     exact this _ _ _ _ _ _ _ _ _ _ _ _ _ _ _ _ _ _ _ _ _ _ _ _ _ _ _ _ _ _ _ _ _ _ _ _ _ _ _ _ _ _ _ _ _ _ _ _ _ _ _ _ _ _ _ _ _ _ _ _ _ _ _ _ _ _ _ _ _ _ _ _ _ _ _ _ _ _ _ _ _ _ _ _ _ _ _ _ _ _ _ _ _ _ _ _ _ _ _ _ _ _ _ _ _ _ _ _ _ _ (HBW.out.trans (HB1.out.mono HBW.out.size))
   · have hv:opF p o s=(0,⟨putF s.made (s.loops.getLastD 0) false,s.loops.dropLast⟩):=by unfold opF;rw [if_neg (by rw [HX.out];decide),if_pos h17,if_neg hl]
     have HV:=Lh hv
     have hpos:0 < s.loops.length:=List.length_pos_iff.2 hl
     obtain ⟨q,hq⟩:∃ q,s.loops.length=q+1:=⟨s.loops.length - 1,by omega⟩
     have hq9:q≤8:=by have:=HS1.out.few;omega
     have hlast:s.loops[q]? = some (s.loops.getLastD 0):=by
       rw [List.getLastD_eq_getLast?,List.getLast?_eq_getElem?,show s.loops.length - 1=q by omega,List.getElem?_eq_getElem (by omega)]
       rfl
     have hin:=HS1.out.inr _ (List.mem_of_getElem? hlast)
     obtain ⟨r,hr⟩:∃ r:Nat,s.loops.getLastD 0=r:=⟨(s.loops.getLastD 0).toNat,by omega⟩
     rw [hr] at hlast HV hin
     obtain ⟨gs,c',hA⟩:∃ gs cap,Value.slice A s.loops.length c=.slice (some ⟨gs,0,none⟩) s.loops.length cap:=by
       rcases HS1.out.own.2 with ⟨_,h⟩ | ⟨g,cap,cur,hv,_⟩
       · omega
       · exact ⟨g,cap,hv⟩
     cases hA
     obtain ⟨b',o',hb',_,hcell⟩:=(nums_own HS1.out.own).at_ hlast
     cases hb'
     rw [Nat.zero_add] at hcell
     have hcap:s.loops.length≤c:=by
       rcases HS1.out.own.2 with ⟨_,h⟩ | ⟨g,cap,cur,hv,_,_,hnc,_⟩
       · omega
       · cases hv;exact hnc
     obtain ⟨y,hy⟩:∃ y,s.made[r]? = some y:=⟨_,List.getElem?_eq_getElem (by rw [HS1.out.len];have:=HNR.out;omega)⟩
     have g0:=HS1.out.made.cell hy
     have g1:w1.frozen? ⟨gm,r,none⟩=false:=frozen_row HS1.out.made r
     have r0:(0:Int)≤(r:Int):=by omega
     have r1:(r:Int) < (nr:Int):=by have:=HNR.out;omega
     have d1:(((s.loops.length:Nat):Int) == 0)=false:=by simpa using (by omega:s.loops.length≠0)
     have d2:IntKind.i64.wrap (((s.loops.length:Nat):Int) - 1)=q:=by rw [hq];simp [IntKind.wrap,IntKind.bits,IntKind.signed];omega
     have d3:(0:Int)≤(q:Int):=by omega
     have d4:(q:Int) < ((s.loops.length:Nat):Int):=by omega
     have d5:(q:Int)≤(c:Int):=by omega
     have HQ:=Lh hq
     have HS3:=Lh (HS1.out.made.set r false)
     have HE:=Lh (show ∀ g,(Value.slice (some ⟨gs,0,none⟩) q c).ownBlock=some g→g≠gm from fun g hg e=>HS1.out.ne (by rw [e] at hg;exact hg))
     clear hv hl h17 hpos hq hlast hin hr hy hq9
     go_wp2
     have h:=HK1.out (by rw [HV.out]) (.exit 5) (.inr rfl) (some ⟨gs,0,none⟩) c
     have hdl:s.loops.take q=s.loops.dropLast:=by rw [List.dropLast_eq_take,show s.loops.length - 1=q by have:=HQ.out;omega]
     have hln:s.loops.dropLast.length=q:=by rw [List.length_dropLast];have:=HQ.out;omega
     rw [HV.out,show putF s.made (r:Int) false=s.made.set r false by unfold putF;rw [if_pos (by omega),Int.toNat_natCast]] at h
     simp only [hln] at h
     have hown:=own_take HS1.out.own (k:=q) (by have:=HQ.out;omega)
     rw [intV_take,hdl] at hown
     refine h _ _ _ _ _ _ _ _ _ _ _ _ _ _ _ _ _ _ _ _ _ _ _ _ _ _ _ _ _ _ _ _ _ _ _ _ _ _ _ _ _ _ _ _ _ _ _ _ _ _ _ _ _ _ _ _ _ _ _ _ _ _ _ _ _ _ _ _ _ _ _ _ _ _ _ _ _ _ _ _ _ _ _ _ _ _ _ _ _ _ _ _ _ _ _ _ _ _ _ _ _ _ _ _ _ _ _ _ _ _ _ (((HBW.out.mono HLT.out.1).trans (HB1.out.mono (by have:=HLT.out;omega))).setCell (by have:=HLT.out;simp only [];omega) _) ⟨HS3.out,by rw [List.length_set];exact HS1.out.len,?_,?_,by simp only [];rw [hln];have:=HS1.out.few;have:=HQ.out;omega,fun r hr=>HS1.out.inr r ((List.dropLast_sublist _).subset hr)⟩
     · simp only []
       rw [hln]
       exact row_keep (fun g hg=>Below.heap_setCell _ _ _ _ (HE.out g hg)) hown
     · simp only []
       rw [hln]
       exact fun e=>HE.out gm e rfl
 · have e17:(o.kind == 17)=false:=by simpa using h17
   have H17:=Lh h17
   have HKI:=Lh (regs_is HX.out)
   have HMI:=Lh (makes_in HX.out)
   have HTI:=Lh (takes_in HX.out)
   have HF:=Lh (show fieldsF p o=false→False by rw [HX.out];exact fun h=>by cases h)
   clear h17
   go_upto_region 28 with fail
   refine wp_code (c:=partR Tryd.f8 28) (by kernel_rfl) ?_
   refine rchk_r28 (o:=o) (bo:=bo) _ _ HO1.out HKI.out.1 HKI.out.2.1 ?_
   intro Am At cm ct kH kI kJ kK w2 hb2 hmk htk
   have HS2:=Lh (HS1.out.next hb2)
   have HO2:=Lh (op_next HO1.out hb2)
   have HMK:=Lh hmk
   have HTK:=Lh htk
   have HB2:=Lh (HBW.out.trans ((HB1.out.trans (hb2.mono HB1.out.size)).mono HBW.out.size))
   have HB2S:=Lh (And.intro hb2.size HB1.out.size)
   have hml:(makesF o).length≤1000:=by unfold makesF;(repeat' split) <;> simp
   have htl:(takesF o).length≤1000:=by unfold takesF;(repeat' split) <;> simp
   have HLEN:=Lh (And.intro hml htl)
   clear o0 hb2 hmk htk hml htl
   go_wp2
   refine wp_code (c:=partL Tryd.f8 6) (by kernel_rfl) ?_
   refine rchk_b6 (loops:=s.loops) (makes:=makesF o) _ _ (nums_own HS2.out.own) HMK.out (by have:=HS2.out.few;omega) rfl HLEN.out.1 ?_ ?_
   rotate_left
   · intro hyes mP kL kN kO kP kQ kR kS kT kU m5 m6 m7 m8
     have HV:=Lh (show opF p o s=(9,s) by unfold opF;rw [if_neg HF.out,if_neg H17.out,if_pos (by rw [←makes_any HX.out,hyes];rfl)])
     have:=HK2.out (by rw [HV.out];show (9:Int)≠0;decide)
     rw [HV.out] at this
     exact this _ _ _ _ _ _ _ _ _ _ _ _ _ _ _ _ _ _ _ _ _ _ _ _ _ _ _ _ _ _ _ _ _ _ _ _ _ _ _ _ _ _ _ _ _ _ _ _ _ _ _ _ _ _ _ _ _ _ _ _ _ _ _ _ _ _ _ _ _ _ _ _ _ _ _ _ _ _ _ _ _ _ _ _ _ _ _ _ _ _ _ _ _ _ _ _ _ _ _ _ _ _ _ _ _ _ _ _ _ _ HB2.out
   intro hnm mP kL kN kO kP kQ kR kS kT kU m5 m6 m7 m8 mZ m9
   have HNM:=Lh (show (inF s.loops o.d || inF s.loops o.e)=false by rw [←makes_any HX.out];exact hnm)
   clear hnm
   have o0:=cell_row HO2.out (k:=0) (v:=.int .i64 o.kind) rfl
   have o1:=cell_row HO2.out (k:=1) (v:=.int .i64 o.d) rfl
   obtain ⟨lp,hlp⟩:∃ x,(o.kind == 16)=x:=⟨_,rfl⟩
   have HLP:=Lh hlp
   cases lp
   · have H10:=Lh (show ¬ (o.kind=16∧s.loops.length=8) from fun h=>by have:=HLP.out;rw [h.1] at this;cases this)
     have H9:=Lh (show ¬ (inF s.loops o.d || inF s.loops o.e || (o.kind == 16 && madeF s.made o.d))=true by rw [HNM.out,HLP.out];simp)
     go_wp2
     refine wp_code (c:=partL Tryd.f8 8) (by kernel_rfl) ?_
     refine rchk_b8 (m:=s.made) (takes:=takesF o) _ _ HS2.out.made HS2.out.len HTK.out rfl HLEN.out.2 (fun r hr=>by have:=HTI.out r hr;have:=HNR.out;omega) ?_ ?_
     rotate_left
     · intro hyes nA nB nC nD nE nF nG nH nI nJ nK nL nM nN nO nP
       have HV:=Lh (show opF p o s=(5,s) by unfold opF;rw [if_neg HF.out,if_neg H17.out,if_neg H9.out,if_neg H10.out,if_pos (by rw [←takes_any HX.out];exact hyes)])
       have:=HK2.out (by rw [HV.out];show (5:Int)≠0;decide)
       rw [HV.out] at this
       exact this _ _ _ _ _ _ _ _ _ _ _ _ _ _ _ _ _ _ _ _ _ _ _ _ _ _ _ _ _ _ _ _ _ _ _ _ _ _ _ _ _ _ _ _ _ _ _ _ _ _ _ _ _ _ _ _ _ _ _ _ _ _ _ _ _ _ _ _ _ _ _ _ _ _ _ _ _ _ _ _ _ _ _ _ _ _ _ _ _ _ _ _ _ _ _ _ _ _ _ _ _ _ _ _ _ _ _ _ _ _ HB2.out
     intro hnt nA nB nC nD nE nF nG nH nI nJ nK nL nM nN nO nP mZ m9
     have H5:=Lh (show ¬ (lackF s.made o.a || lackF s.made o.b || lackF s.made o.c)=true by rw [←takes_any HX.out,hnt];decide)
     clear hnt
     go_wp2
     refine wp_code (c:=partL Tryd.f8 10) (by kernel_rfl) ?_
     refine rchk_b10 (m:=s.made) (makes:=makesF o) _ _ HS2.out.made HS2.out.len HMK.out (fun k hk=>⟨by have:=HLT.out;have:=HB2S.out;have:=hk.1;omega,hk.2⟩) rfl HLEN.out.1 (fun r hr=>by have:=HMI.out r hr;have:=HNR.out;omega) ?_
     intro nQ nR nS nT nU nV nW nX nY nZ n8 n9 oA w3 hch hma
     rw [makes_put HX.out] at hma
     have HM3:=Lh hma
     have HCH:=Lh hch
     have HB3:=Lh ((HB2.out.mono HLT.out.1).trans (hch.below (B:=B0) (fun k hk e=>by have:=HLT.out;omega) (Nat.le_trans HLT.out.1 HB2.out.size)))
     have HOWN3:=Lh (row_keep (w':=w3) (fun g hg=>hch.block g (own_lt HS2.out.own g hg).1 (fun e=>HS2.out.ne (by rw [hg,e]))) HS2.out.own)
     have HO3:=Lh (show OpAt w3 bo o from (hch.block bo (lt_of_block HO2.out) (by have:=HLT.out;omega)).trans HO2.out)
     clear hch hma o0 o1
     have o0:=cell_row HO3.out (k:=0) (v:=.int .i64 o.kind) rfl
     have HV:=Lh (show opF p o s=(0,⟨putF (putF s.made o.d true) o.e true,if o.kind=16 then s.loops++[o.d] else s.loops⟩) by unfold opF;rw [if_neg HF.out,if_neg H17.out,if_neg H9.out,if_neg H10.out,if_neg H5.out])
     have HV:=Lh (HV.out.trans (show _=((0:Int),(⟨putF (putF s.made o.d true) o.e true,s.loops⟩:CSt)) by have:=HLP.out;first | rw [if_pos (by simpa using this)] | rw [if_neg (by simpa using this)]))
     go_wp2
     have h:=HK1.out (by rw [HV.out]) .normal (.inl rfl) A c
     rw [HV.out] at h
     exact h _ _ _ _ _ _ _ _ _ _ _ _ _ _ _ _ _ _ _ _ _ _ _ _ _ _ _ _ _ _ _ _ _ _ _ _ _ _ _ _ _ _ _ _ _ _ _ _ _ _ _ _ _ _ _ _ _ _ _ _ _ _ _ _ _ _ _ _ _ _ _ _ _ _ _ _ _ _ _ _ _ _ _ _ _ _ _ _ _ _ _ _ _ _ _ _ _ _ _ _ _ _ _ _ _ _ _ _ _ _ _ HB3.out ⟨HM3.out,by rw [put_len,put_len];exact HS2.out.len,HOWN3.out,HS2.out.ne,HS2.out.few,HS2.out.inr⟩
   · have h16:o.kind=16:=by simpa using hlp
     have hd:=HMI.out o.d (by unfold makesF;rw [if_neg (by omega),if_neg (by omega)];simp)
     obtain ⟨q,hq⟩:∃ q:Nat,o.d=q:=⟨o.d.toNat,by omega⟩
     obtain ⟨md,hmd⟩:∃ y,s.made[q]? = some y:=⟨_,List.getElem?_eq_getElem (by rw [HS2.out.len];have:=HNR.out;omega)⟩
     have MD:=Lh (show madeF s.made o.d=md by rw [hq];exact madeF_get hmd)
     have g0:=HS2.out.made.cell hmd
     have q0:(0:Int)≤(q:Int):=by omega
     have q1:(q:Int) < (nr:Int):=by have:=HNR.out;omega
     have HQ:=Lh hq
     have HDI:=Lh hd
     rw [hq] at o1
     clear h16 hd hq hmd
     cases md
     rotate_left
     · have HV:=Lh (show opF p o s=(9,s) by unfold opF;rw [if_neg HF.out,if_neg H17.out,if_pos (by rw [HNM.out,HLP.out,MD.out];rfl)])
       go_wp2
       have:=HK2.out (by rw [HV.out];show (9:Int)≠0;decide)
       rw [HV.out] at this
       exact this _ _ _ _ _ _ _ _ _ _ _ _ _ _ _ _ _ _ _ _ _ _ _ _ _ _ _ _ _ _ _ _ _ _ _ _ _ _ _ _ _ _ _ _ _ _ _ _ _ _ _ _ _ _ _ _ _ _ _ _ _ _ _ _ _ _ _ _ _ _ _ _ _ _ _ _ _ _ _ _ _ _ _ _ _ _ _ _ _ _ _ _ _ _ _ _ _ _ _ _ _ _ _ _ _ _ _ _ _ _ HB2.out
     have H9:=Lh (show ¬ (inF s.loops o.d || inF s.loops o.e || (o.kind == 16 && madeF s.made o.d))=true by rw [HNM.out,HLP.out,MD.out];simp)
     by_cases h8:s.loops.length=8
     · have d8:(((s.loops.length:Nat):Int) == 8)=true:=by rw [h8];rfl
       have HV:=Lh (show opF p o s=(10,s) by unfold opF;rw [if_neg HF.out,if_neg H17.out,if_neg H9.out,if_pos ⟨by simpa using HLP.out,h8⟩])
       clear h8
       go_wp2
       have:=HK2.out (by rw [HV.out];show (10:Int)≠0;decide)
       rw [HV.out] at this
       exact this _ _ _ _ _ _ _ _ _ _ _ _ _ _ _ _ _ _ _ _ _ _ _ _ _ _ _ _ _ _ _ _ _ _ _ _ _ _ _ _ _ _ _ _ _ _ _ _ _ _ _ _ _ _ _ _ _ _ _ _ _ _ _ _ _ _ _ _ _ _ _ _ _ _ _ _ _ _ _ _ _ _ _ _ _ _ _ _ _ _ _ _ _ _ _ _ _ _ _ _ _ _ _ _ _ _ _ _ _ _ HB2.out
     · have d8:(((s.loops.length:Nat):Int) == 8)=false:=beq_eq_false_iff_ne.2 (by omega)
       have H10:=Lh (show ¬ (o.kind=16∧s.loops.length=8) from fun h=>h8 h.2)
       have H8:=Lh h8
       clear h8
       go_wp2
       refine wp_code (c:=partL Tryd.f8 8) (by kernel_rfl) ?_
       refine rchk_b8 (m:=s.made) (takes:=takesF o) _ _ HS2.out.made HS2.out.len HTK.out rfl HLEN.out.2 (fun r hr=>by have:=HTI.out r hr;have:=HNR.out;omega) ?_ ?_
       rotate_left
       · intro hyes nA nB nC nD nE nF nG nH nI nJ nK nL nM nN nO nP
         have HV:=Lh (show opF p o s=(5,s) by unfold opF;rw [if_neg HF.out,if_neg H17.out,if_neg H9.out,if_neg H10.out,if_pos (by rw [←takes_any HX.out];exact hyes)])
         have:=HK2.out (by rw [HV.out];show (5:Int)≠0;decide)
         rw [HV.out] at this
         exact this _ _ _ _ _ _ _ _ _ _ _ _ _ _ _ _ _ _ _ _ _ _ _ _ _ _ _ _ _ _ _ _ _ _ _ _ _ _ _ _ _ _ _ _ _ _ _ _ _ _ _ _ _ _ _ _ _ _ _ _ _ _ _ _ _ _ _ _ _ _ _ _ _ _ _ _ _ _ _ _ _ _ _ _ _ _ _ _ _ _ _ _ _ _ _ _ _ _ _ _ _ _ _ _ _ _ _ _ _ _ HB2.out
       intro hnt nA nB nC nD nE nF nG nH nI nJ nK nL nM nN nO nP mZ m9
       have H5:=Lh (show ¬ (lackF s.made o.a || lackF s.made o.b || lackF s.made o.c)=true by rw [←takes_any HX.out,hnt];decide)
       clear hnt
       go_wp2
       refine wp_code (c:=partL Tryd.f8 10) (by kernel_rfl) ?_
       refine rchk_b10 (m:=s.made) (makes:=makesF o) _ _ HS2.out.made HS2.out.len HMK.out (fun k hk=>⟨by have:=HLT.out;have:=HB2S.out;have:=hk.1;omega,hk.2⟩) rfl HLEN.out.1 (fun r hr=>by have:=HMI.out r hr;have:=HNR.out;omega) ?_
       intro nQ nR nS nT nU nV nW nX nY nZ n8 n9 oA w3 hch hma
       rw [makes_put HX.out] at hma
       have HM3:=Lh hma
       have HCH:=Lh hch
       have HB3:=Lh ((HB2.out.mono HLT.out.1).trans (hch.below (B:=B0) (fun k hk e=>by have:=HLT.out;omega) (Nat.le_trans HLT.out.1 HB2.out.size)))
       have HOWN3:=Lh (row_keep (w':=w3) (fun g hg=>hch.block g (own_lt HS2.out.own g hg).1 (fun e=>HS2.out.ne (by rw [hg,e]))) HS2.out.own)
       have HO3:=Lh (show OpAt w3 bo o from (hch.block bo (lt_of_block HO2.out) (by have:=HLT.out;omega)).trans HO2.out)
       clear hch hma o0 o1
       have o0:=cell_row HO3.out (k:=0) (v:=.int .i64 o.kind) rfl
       have HV:=Lh (show opF p o s=(0,⟨putF (putF s.made o.d true) o.e true,if o.kind=16 then s.loops++[o.d] else s.loops⟩) by unfold opF;rw [if_neg HF.out,if_neg H17.out,if_neg H9.out,if_neg H10.out,if_neg H5.out])
       have HV:=Lh (HV.out.trans (show _=((0:Int),(⟨putF (putF s.made o.d true) o.e true,s.loops++[o.d]⟩:CSt)) by have:=HLP.out;first | rw [if_pos (by simpa using this)] | rw [if_neg (by simpa using this)]))
       have o1:=cell_row HO3.out (k:=1) (v:=.int .i64 o.d) rfl
       obtain ⟨j0,hie,hy0,hy1,hy2⟩:=info_parts infoI
       obtain ⟨ls,hls⟩:∃ n,s.loops.length=n:=⟨_,rfl⟩
       have hne:=HS2.out.ne
       rw [hls] at HOWN3 hne
       have HNE:=Lh hne
       have hl8:ls≤8:=by have:=HS2.out.few;omega
       have HLS:=Lh hls
       rw [hls]
       clear hls hne
       go_wp2_with ((at_builtin;refine wpList_append_own_at _ rfl _ _ 35 rfl B0 3 j0 (.int .i64 0) 1 8 Tryd.underlying35 hie hy0 hy1 hy2 rfl (by decide) _ ls _ rfl (HOWN3.out.alloc _) ⟨w3.heap.size,0,none⟩ 1 1 [.int .i64 o.d] rfl (by simp) (World.news_of_block (cs:=#[.int .i64 o.d]) (t:=3) (fr:=(0,0)) (heap_alloc_new w3 _)) (by simp [Value.oneCell']) (by unfold maxLen;omega) (by omega) (by have:=HLT.out.1;have:=HB2.out.size;have:=HCH.out.size;simp;omega) ?_);intro v w6 hown6 hg6 _ hwh6;have HOWN6:=Lh hown6;have HG6:=Lh hg6;have HWH6:=Lh hwh6;clear hown6 hg6 hwh6)
       obtain ⟨A6,c6,rfl⟩:=own_form HOWN6.out
       have h:=HK1.out (by rw [HV.out]) .normal (.inl rfl) A6 c6
       rw [HV.out] at h
       have hl6:(s.loops++[o.d]).length=ls+1:=by simp [HLS.out]
       simp only [hl6] at h
       have hb6:Below w3.heap.size w3 (w3.alloc (.cells #[.int .i64 o.d] 3)):=(Below.refl _ _).alloc (Nat.le_refl _) _
       have hgm3:=lt_of_block HM3.out
       have hz6:(w3.alloc (.cells #[.int .i64 o.d] 3)).heap.size=w3.heap.size+1:=by simp
       have hB03:B0≤w3.heap.size:=Nat.le_trans HLT.out.1 HB3.out.size
       have hne6:(Value.slice A6 (ls+1) c6).ownBlock≠some gm:=fun e=>by
         rcases HWH6.out with h | h
         · exact HNE.out (h▸e)
         · rw [e] at h
           have h2:=Option.some.inj h
           omega
       have hown6:=HOWN6.out
       rw [show intV s.loops++[Value.int .i64 o.d]=intV (s.loops++[o.d]) by simp [intV]] at hown6
       refine h _ _ _ _ _ _ _ _ _ _ _ _ _ _ _ _ _ _ _ _ _ _ _ _ _ _ _ _ _ _ _ _ _ _ _ _ _ _ _ _ _ _ _ _ _ _ _ _ _ _ _ _ _ _ _ _ _ _ _ _ _ _ _ _ _ _ _ _ _ _ _ _ _ _ _ _ _ _ _ _ _ _ _ _ _ _ _ _ _ _ _ _ _ _ _ _ _ _ _ _ _ _ _ _ _ _ _ _ _ _ _ ((HB3.out.trans (hb6.mono hB03)).grown HG6.out (by omega) (fun k hk=>(own_lt HOWN3.out k hk).2)) ⟨?_,by rw [put_len,put_len];exact HS2.out.len,?_,?_,?_,fun r hr=>?_⟩
       · show w6.heap[gm]? = _
         rw [HG6.out.block gm (by omega) (fun e=>HNE.out e.symm),hb6.block gm hgm3]
         exact HM3.out
       · simp only [hl6];exact hown6
       · simp only [hl6];exact hne6
       · simp only [hl6];have:=H8.out;have:=HLS.out;omega
       · rcases List.mem_append.1 hr with hr | hr
         · exact HS2.out.inr r hr
         · rw [List.mem_singleton.1 hr];exact HDI.out
end Go.Proofs.YtppoiahhaclleaaDoor
namespace Go.Proofs.YtppoiahhaclleaaDoor
open Go.Shelf
def Tryd.lays128_ren:Go.Shelf.Ren:=⟨fun | 128=>94 | n=>n,fun | 51=>128 | 3=>3 | 4=>4 | 46=>114 | 5=>5 | 9=>9 | n=>n,fun | n=>n⟩
theorem Tryd.lays128:Go.Proofs.Lays.n128 Tryd.prog Tryd.lays128_ren:={
 mixed:=by kernel_rfl
 f128:=Tryd.func94.trans (congrArg some (by kernel_rfl))
 t3:=Tryd.underlying3
 a3:=Tryd.isAgg3
 z3:=Tryd.sizeOf3
 v3:=Tryd.zeroValue3
 t4:=Tryd.underlying4
 a4:=Tryd.isAgg4
 z4:=Tryd.sizeOf4
 v4:=Tryd.zeroValue4
 t5:=Tryd.underlying5
 a5:=Tryd.isAgg5
 z5:=Tryd.sizeOf5
 v5:=Tryd.zeroValue5
 t9:=Tryd.underlying9
 a9:=Tryd.isAgg9
 z9:=Tryd.sizeOf9
 v9:=Tryd.zeroValue9
 t46:=Tryd.underlying114
 a46:=Tryd.isAgg114
 z46:=Tryd.sizeOf114
 v46:=Tryd.zeroValue114
 t51:=Tryd.underlying128
 a51:=Tryd.isAgg128
 z51:=Tryd.sizeOf128
 v51:=Tryd.zeroValue128 }
theorem Tryd.bits_Len32 (x:Int) (w:World) (h0:0≤x) (h1:x≤4294967295) :
   Calls Tryd.prog 94 #[.int .u32 x] w fun e w'=>e=.returned (.int .i64 (Lib.bitLen x.toNat))∧w'=w:=Any.bits_Len32 Tryd.lays128 x w h0 h1
def Tryd.lays125_ren:Go.Shelf.Ren:=⟨fun | 125=>75 | 128=>94 | 129=>95 | n=>n,fun | 46=>114 | 3=>3 | 51=>128 | 53=>45 | 4=>4 | 5=>5 | 9=>9 | n=>n,fun | n=>n⟩
theorem Tryd.lays125:Go.Proofs.Lays.n125 Tryd.prog Tryd.lays125_ren:={
 mixed:=by kernel_rfl
 f125:=Tryd.func75.trans (congrArg some (by kernel_rfl))
 f128:=Tryd.func94.trans (congrArg some (by kernel_rfl))
 f129:=Tryd.func95.trans (congrArg some (by kernel_rfl))
 t3:=Tryd.underlying3
 a3:=Tryd.isAgg3
 z3:=Tryd.sizeOf3
 v3:=Tryd.zeroValue3
 t4:=Tryd.underlying4
 a4:=Tryd.isAgg4
 z4:=Tryd.sizeOf4
 v4:=Tryd.zeroValue4
 t5:=Tryd.underlying5
 a5:=Tryd.isAgg5
 z5:=Tryd.sizeOf5
 v5:=Tryd.zeroValue5
 t9:=Tryd.underlying9
 a9:=Tryd.isAgg9
 z9:=Tryd.sizeOf9
 v9:=Tryd.zeroValue9
 t46:=Tryd.underlying114
 a46:=Tryd.isAgg114
 z46:=Tryd.sizeOf114
 v46:=Tryd.zeroValue114
 t51:=Tryd.underlying128
 a51:=Tryd.isAgg128
 z51:=Tryd.sizeOf128
 v51:=Tryd.zeroValue128
 t53:=Tryd.underlying45
 a53:=Tryd.isAgg45
 z53:=Tryd.sizeOf45
 v53:=Tryd.zeroValue45 }
theorem Tryd.bits_Len (x:Int) (w:World) (h0:0≤x) (h1:x≤18446744073709551615) :
   Calls Tryd.prog 75 #[.int .u64 x] w fun e w'=>e=.returned (.int .i64 (Lib.bitLen x.toNat))∧w'=w:=Any.bits_Len Tryd.lays125 x w h0 h1
def Tryd.lays215_ren:Go.Shelf.Ren:=⟨fun | 215=>54 | n=>n,fun | 3=>3 | 4=>4 | n=>n,fun | n=>n⟩
theorem Tryd.lays215:Go.Proofs.Lays.n215 Tryd.prog Tryd.lays215_ren:={
 mixed:=by kernel_rfl
 f215:=Tryd.func54.trans (congrArg some (by kernel_rfl))
 t3:=Tryd.underlying3
 a3:=Tryd.isAgg3
 z3:=Tryd.sizeOf3
 v3:=Tryd.zeroValue3
 t4:=Tryd.underlying4
 a4:=Tryd.isAgg4
 z4:=Tryd.sizeOf4
 v4:=Tryd.zeroValue4 }
open Go.RowKit in
theorem Tryd.cmp_isNaN_int (x:Int) (w:World) :
   Calls Tryd.prog 54 #[.int .i64 x] w fun e w'=>e=.returned (.bool false)∧w'=w:=Any.cmp_isNaN_int Tryd.lays215 x w
def Tryd.lays122_ren:Go.Shelf.Ren:=⟨fun | 122=>36 | 215=>54 | n=>n,fun | 3=>3 | 4=>4 | n=>n,fun | n=>n⟩
theorem Tryd.lays122:Go.Proofs.Lays.n122 Tryd.prog Tryd.lays122_ren:={
 mixed:=by kernel_rfl
 f122:=Tryd.func36.trans (congrArg some (by kernel_rfl))
 f215:=Tryd.func54.trans (congrArg some (by kernel_rfl))
 t3:=Tryd.underlying3
 a3:=Tryd.isAgg3
 z3:=Tryd.sizeOf3
 v3:=Tryd.zeroValue3
 t4:=Tryd.underlying4
 a4:=Tryd.isAgg4
 z4:=Tryd.sizeOf4
 v4:=Tryd.zeroValue4 }
open Go.RowKit in
theorem Tryd.cmp_Compare_int (x y:Int) (w:World) :
   Calls Tryd.prog 36 #[.int .i64 x,.int .i64 y] w fun e w'=>e=.returned (.int .i64 (Lib.compareInt x y))∧w'=w:=Any.cmp_Compare_int Tryd.lays122 x y w
def Tryd.lays129_ren:Go.Shelf.Ren:=⟨fun | 129=>95 | n=>n,fun | 53=>45 | 3=>3 | 4=>4 | 46=>114 | 5=>5 | 9=>9 | n=>n,fun | n=>n⟩
theorem Tryd.lays129:Go.Proofs.Lays.n129 Tryd.prog Tryd.lays129_ren:={
 mixed:=by kernel_rfl
 f129:=Tryd.func95.trans (congrArg some (by kernel_rfl))
 t3:=Tryd.underlying3
 a3:=Tryd.isAgg3
 z3:=Tryd.sizeOf3
 v3:=Tryd.zeroValue3
 t4:=Tryd.underlying4
 a4:=Tryd.isAgg4
 z4:=Tryd.sizeOf4
 v4:=Tryd.zeroValue4
 t5:=Tryd.underlying5
 a5:=Tryd.isAgg5
 z5:=Tryd.sizeOf5
 v5:=Tryd.zeroValue5
 t9:=Tryd.underlying9
 a9:=Tryd.isAgg9
 z9:=Tryd.sizeOf9
 v9:=Tryd.zeroValue9
 t46:=Tryd.underlying114
 a46:=Tryd.isAgg114
 z46:=Tryd.sizeOf114
 v46:=Tryd.zeroValue114
 t53:=Tryd.underlying45
 a53:=Tryd.isAgg45
 z53:=Tryd.sizeOf45
 v53:=Tryd.zeroValue45 }
theorem Tryd.bits_Len64 (x:Int) (w:World) (h0:0≤x) (h1:x≤18446744073709551615) :
   Calls Tryd.prog 95 #[.int .u64 x] w fun e w'=>e=.returned (.int .i64 (Lib.bitLen x.toNat))∧w'=w:=Any.bits_Len64 Tryd.lays129 x w h0 h1
def Tryd.lays264_ren:Go.Shelf.Ren:=⟨fun | 264=>83 | n=>n,fun | 53=>45 | 46=>114 | n=>n,fun | n=>n⟩
theorem Tryd.lays264:Go.Proofs.Lays.n264 Tryd.prog Tryd.lays264_ren:={
 mixed:=by kernel_rfl
 f264:=Tryd.func83.trans (congrArg some (by kernel_rfl))
 t46:=Tryd.underlying114
 a46:=Tryd.isAgg114
 z46:=Tryd.sizeOf114
 v46:=Tryd.zeroValue114
 t53:=Tryd.underlying45
 a53:=Tryd.isAgg45
 z53:=Tryd.sizeOf45
 v53:=Tryd.zeroValue45 }
open Go.RowKit Go.Lib in
theorem Tryd.bits_Mul64 (x y:Nat) (hx:x < 18446744073709551616) (hy:y < 18446744073709551616) (w:World) :
   Calls Tryd.prog 83 #[.int .u64 x,.int .u64 y] w fun e w'=>e=.returned (.tuple #[.int .u64 ((x*y / 18446744073709551616:Nat):Int),.int .u64 ((x*y % 18446744073709551616:Nat):Int)])∧w'=w:=Any.bits_Mul64 Tryd.lays264 x y hx hy w
def Tryd.lays212_ren:Go.Shelf.Ren:=⟨fun | 212=>70 | 263=>82 | 264=>83 | n=>n,fun | 46=>114 | 51=>128 | 146=>129 | 53=>45 | 148=>105 | n=>n,fun | n=>n⟩
theorem Tryd.lays212:Go.Proofs.Lays.n212 Tryd.prog Tryd.lays212_ren:={
 mixed:=by kernel_rfl
 f212:=Tryd.func70.trans (congrArg some (by kernel_rfl))
 f263:=Tryd.func82.trans (congrArg some (by kernel_rfl))
 f264:=Tryd.func83.trans (congrArg some (by kernel_rfl))
 t46:=Tryd.underlying114
 a46:=Tryd.isAgg114
 z46:=Tryd.sizeOf114
 v46:=Tryd.zeroValue114
 t51:=Tryd.underlying128
 a51:=Tryd.isAgg128
 z51:=Tryd.sizeOf128
 v51:=Tryd.zeroValue128
 t53:=Tryd.underlying45
 a53:=Tryd.isAgg45
 z53:=Tryd.sizeOf45
 v53:=Tryd.zeroValue45
 t146:=Tryd.underlying129
 a146:=Tryd.isAgg129
 z146:=Tryd.sizeOf129
 v146:=Tryd.zeroValue129
 t148:=Tryd.underlying105
 a148:=Tryd.isAgg105
 z148:=Tryd.sizeOf105
 v148:=Tryd.zeroValue105 }
open Go.RowKit Go.Lib in
theorem Tryd.bits_Mul (x y:Nat) (hx:x < 18446744073709551616) (hy:y < 18446744073709551616) (w:World) :
   Calls Tryd.prog 70 #[.int .u64 x,.int .u64 y] w fun e w'=>e=.returned (.tuple #[.int .u64 ((x*y / 18446744073709551616:Nat):Int),.int .u64 ((x*y % 18446744073709551616:Nat):Int)])∧w'=w:=Any.bits_Mul Tryd.lays212 x y hx hy w
def Tryd.lays108_ren:Go.Shelf.Ren:=⟨fun | 108=>96 | n=>n,fun | 28=>35 | 3=>3 | 0=>0 | 4=>4 | n=>n,fun | n=>n⟩
theorem Tryd.lays108:Go.Proofs.Lays.n108 Tryd.prog Tryd.lays108_ren:={
 mixed:=by kernel_rfl
 f108:=Tryd.func96.trans (congrArg some (by kernel_rfl))
 t0:=Tryd.underlying0
 a0:=Tryd.isAgg0
 z0:=Tryd.sizeOf0
 v0:=Tryd.zeroValue0
 t3:=Tryd.underlying3
 a3:=Tryd.isAgg3
 z3:=Tryd.sizeOf3
 v3:=Tryd.zeroValue3
 t4:=Tryd.underlying4
 a4:=Tryd.isAgg4
 z4:=Tryd.sizeOf4
 v4:=Tryd.zeroValue4
 t28:=Tryd.underlying35
 a28:=Tryd.isAgg35
 z28:=Tryd.sizeOf35
 v28:=Tryd.zeroValue35 }
open Go.Lib in
theorem Tryd.slices_Index_int (b off n c:Nat) (zs:List Int) (x:Int) (w:World) (hz:n≤zs.length) (hbig:n≤9223372036854775807) (hc:∀ j,j < zs.length→w.cell? ⟨b,off+j,none⟩=some (.int .i64 (zs.getD j 0))) :
   Calls Tryd.prog 96 #[.slice (some ⟨b,off,none⟩) n c,.int .i64 x] w fun e w'=>e=.returned (.int .i64 (Lib.idxOf (zs.take n) x))∧w'=w:=Any.slices_Index_int Tryd.lays108 b off n c zs x w hz hbig hc
open Go.Lib in
theorem Tryd.slices_Index_int_empty (a:Option Addr) (c:Nat) (x:Int) (w:World) :
   Calls Tryd.prog 96 #[.slice a 0 c,.int .i64 x] w fun e w'=>e=.returned (.int .i64 (Lib.idxOf [] x))∧w'=w:=Any.slices_Index_int_empty Tryd.lays108 a c x w
def Tryd.lays107_ren:Go.Shelf.Ren:=⟨fun | 107=>79 | 108=>96 | n=>n,fun | 28=>35 | 3=>3 | 4=>4 | 0=>0 | n=>n,fun | n=>n⟩
theorem Tryd.lays107:Go.Proofs.Lays.n107 Tryd.prog Tryd.lays107_ren:={
 mixed:=by kernel_rfl
 f107:=Tryd.func79.trans (congrArg some (by kernel_rfl))
 f108:=Tryd.func96.trans (congrArg some (by kernel_rfl))
 t0:=Tryd.underlying0
 a0:=Tryd.isAgg0
 z0:=Tryd.sizeOf0
 v0:=Tryd.zeroValue0
 t3:=Tryd.underlying3
 a3:=Tryd.isAgg3
 z3:=Tryd.sizeOf3
 v3:=Tryd.zeroValue3
 t4:=Tryd.underlying4
 a4:=Tryd.isAgg4
 z4:=Tryd.sizeOf4
 v4:=Tryd.zeroValue4
 t28:=Tryd.underlying35
 a28:=Tryd.isAgg35
 z28:=Tryd.sizeOf35
 v28:=Tryd.zeroValue35 }
open Go.Lib in
theorem Tryd.slices_Contains_int (b off n c:Nat) (zs:List Int) (x:Int) (w:World) (hz:n≤zs.length) (hbig:n≤9223372036854775807) (hc:∀ j,j < zs.length→w.cell? ⟨b,off+j,none⟩=some (.int .i64 (zs.getD j 0))) :
   Calls Tryd.prog 79 #[.slice (some ⟨b,off,none⟩) n c,.int .i64 x] w fun e w'=>e=.returned (.bool ((zs.take n).contains x))∧w'=w:=Any.slices_Contains_int Tryd.lays107 b off n c zs x w hz hbig hc
open Go.Lib in
theorem Tryd.slices_Contains_int_empty (a:Option Addr) (c:Nat) (x:Int) (w:World) :
   Calls Tryd.prog 79 #[.slice a 0 c,.int .i64 x] w fun e w'=>e=.returned (.bool false)∧w'=w:=Any.slices_Contains_int_empty Tryd.lays107 a c x w
def Tryd.laysNm237_ren:Go.Shelf.Ren:=⟨fun | 37=>54 | n=>n,fun | 3=>3 | 4=>4 | n=>n,fun | n=>n⟩
theorem Tryd.laysNm237:Go.Proofs.Lays2.n37 Tryd.prog Tryd.laysNm237_ren:={
 mixed:=by kernel_rfl
 f37:=Tryd.func54.trans (congrArg some (by kernel_rfl))
 t3:=Tryd.underlying3
 a3:=Tryd.isAgg3
 z3:=Tryd.sizeOf3
 v3:=Tryd.zeroValue3
 t4:=Tryd.underlying4
 a4:=Tryd.isAgg4
 z4:=Tryd.sizeOf4
 v4:=Tryd.zeroValue4 }
open Go.RowKit Go.Lib in
theorem Tryd.cmp_isNaN_int2 (x:Int) (w:World) :
   Calls Tryd.prog 54 #[.int .i64 x] w fun e w'=>e=.returned (.bool false)∧w'=w:=Any.cmp_isNaN_int2 Tryd.laysNm237 x w
def Tryd.laysSlF20_f72_ren:Go.Shelf.Ren:=⟨fun | 20=>72 | n=>n,fun | 24=>3 | 22=>35 | 3=>3 | 25=>34 | 4=>4 | 0=>0 | n=>n,fun | n=>n⟩
theorem Tryd.laysSlF20_f72:Go.Proofs.SlLaysF.n20 Tryd.prog Tryd.laysSlF20_f72_ren:={
 mixed:=by kernel_rfl
 f20:=⟨Tryd.f72.name,by decide,Tryd.func72.trans (congrArg some (by kernel_rfl))⟩
 t0:=Tryd.underlying0
 a0:=Tryd.isAgg0
 z0:=Tryd.sizeOf0
 v0:=Tryd.zeroValue0
 t3:=Tryd.underlying3
 a3:=Tryd.isAgg3
 z3:=Tryd.sizeOf3
 v3:=Tryd.zeroValue3
 t4:=Tryd.underlying4
 a4:=Tryd.isAgg4
 z4:=Tryd.sizeOf4
 v4:=Tryd.zeroValue4
 t22:=Tryd.underlying35
 a22:=Tryd.isAgg35
 z22:=Tryd.sizeOf35
 v22:=Tryd.zeroValue35
 a24:=Tryd.isAgg3
 z24:=Tryd.sizeOf3
 t25:=Tryd.underlying34
 a25:=Tryd.isAgg34
 z25:=Tryd.sizeOf34
 v25:=Tryd.zeroValue34 }
open Go.RowKit Go.Lib Go.Sort in
theorem Tryd.insertionSortCmpFunc_one {α:Type} [Inhabited α] (enc:α→Value) (hO:OneCell enc) (cf:α→α→Int) (g:Nat) (cb:Array Value) (blk off cap a b:Nat) (d:Array α) (w:World) (eg:∀ args w,(callFunc g args).run Tryd.prog w=.ok (.enter g args) w) (hcmp:CmpReads Tryd.prog g cb enc cf blk off d.size w) (hH:Holds enc w blk off d) (hab:a≤b) (hb:b≤d.size) (hsz:d.size < 4611686018427387904) :
   Calls Tryd.prog 72 #[.slice (some ⟨blk,off,none⟩) d.size cap,.int .i64 a,.int .i64 b,.func (.func g) #[] cb] w fun e w' =>
     e=.returned (.tuple #[])∧∃ n,w'=(putRow enc w blk off (Sort.insertionSort (ltOf cf) d a b)).drewN n:=Any.insertionSortCmpFunc_one Tryd.laysSlF20_f72 enc hO cf g cb blk off cap a b d w eg hcmp hH hab hb hsz
end Go.Proofs.YtppoiahhaclleaaDoor
