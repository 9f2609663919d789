/- Part 23 of a claim; what it proves stands in its last text. -/
import Derived.Test.YtppoiahhaclleaaDoorAr22
import Derived.Test.YtppoiahhaclleaaDoorAr21
import Derived.Test.YtppoiahhaclleaaDoorAr19
import Derived.Test.YtppoiahhaclleaaDoorAr11
import Derived.Laws.CopyOwn
namespace Go.Proofs.YtppoiahhaclleaaDoor
open Go.RowKit
set_option maxRecDepth 100000
variable {aB aA kV kW aC kX kY kZ lA lB lC aE aF aG aH aI aJ aK aL aM aN aO aP aQ aR aS aT aU aV aW aX aY aZ a8 bA bB bC bD bE bF bG bH bI bJ bK bL bM bN bO bP bQ bS bT bU bV bW bX bY bZ b4 b6 cA cC cD cE cF cG cH cI cJ cK cL cM cN cO cP cQ cR cT cU cV cW cX cY cZ c8 dA dB dC dD dE dF dG dH dI dJ dK dL dM dN dO dP dQ dR dS dT dU dV dW dX dY dZ d7 eA eB eC eD eE eF eG eH eI eJ eK eL eM eN eO eP eQ eR eS eT eU eV eW eX eY eZ fA fB fC fD fE fF fG fH fI fJ fK fL fM fN fO fP fQ fR fS fT fU fV fW fX fY fZ gA gC gD gE gF gG gH gI gJ gK gL gM gN gO gP gQ gR gS gT gU gV gW gX gY gZ g9 hJ hY hZ iA iB iC iD iE iF iG : Value}
set_option maxHeartbeats 4000000 in
theorem do_r5 {bo:Nat} {kd:Int} (w:World) (Q:Exit→Act→World→Prop) (c0:w.cell? ⟨bo,0,none⟩=some (.int .i64 kd))
   (k:∀ (lF:Value),Q .normal ⟨#[aB,aA,kV,kW,aC,.pointer (some ⟨bo,0,none⟩),kX,kY,kZ,lA,lB,lC,aE,aF,aG,aH,aI,aJ,aK,aL,aM,aN,aO,aP,aQ,aR,aS,aT,aU,aV,aW,aX,aY,aZ,a8,bA,bB,bC,bD,lF,.int .i64 kd,bG,bH,bI,bJ,bK,bL,bM,bN,bO,bP,bQ,bS,bT,bU,bV,bW,bX,bY,bZ,b4,b6,cA,cC,cD,cE,cF,cG,cH,cI,cJ,cK,cL,cM,cN,cO,cP,cQ,cR,cT,cU,cV,cW,cX,cY,cZ,c8,dA,dB,dC,dD,dE,dF,dG,dH,dI,dJ,dK,dL,dM,dN,dO,dP,dQ,dR,dS,dT,dU,dV,dW,dX,dY,dZ,d7,eA,eB,eC,eD,eE,eF,eG,eH,eI,eJ,eK,eL,eM,eN,eO,eP,eQ,eR,eS,eT,eU,eV,eW,eX,eY,eZ,fA,fB,fC,fD,fE,fF,fG,fH,fI,fJ,fK,fL,fM,fN,fO,fP,fQ,fR,fS,fT,fU,fV,fW,fX,fY,fZ,gA,gC,gD,gE,gF,gG,gH,gI,gJ,gK,gL,gM,gN,gO,gP,gQ,gR,gS,gT,gU,gV,gW,gX,gY,gZ,g9,hJ,hY,hZ,iA,iB,iC,iD,iE,iF,iG],[]⟩ w):(partR Tryd.f43 5).wp Tryd.prog Q ⟨#[aB,aA,kV,kW,aC,.pointer (some ⟨bo,0,none⟩),kX,kY,kZ,lA,lB,lC,aE,aF,aG,aH,aI,aJ,aK,aL,aM,aN,aO,aP,aQ,aR,aS,aT,aU,aV,aW,aX,aY,aZ,a8,bA,bB,bC,bD,bE,bF,bG,bH,bI,bJ,bK,bL,bM,bN,bO,bP,bQ,bS,bT,bU,bV,bW,bX,bY,bZ,b4,b6,cA,cC,cD,cE,cF,cG,cH,cI,cJ,cK,cL,cM,cN,cO,cP,cQ,cR,cT,cU,cV,cW,cX,cY,cZ,c8,dA,dB,dC,dD,dE,dF,dG,dH,dI,dJ,dK,dL,dM,dN,dO,dP,dQ,dR,dS,dT,dU,dV,dW,dX,dY,dZ,d7,eA,eB,eC,eD,eE,eF,eG,eH,eI,eJ,eK,eL,eM,eN,eO,eP,eQ,eR,eS,eT,eU,eV,eW,eX,eY,eZ,fA,fB,fC,fD,fE,fF,fG,fH,fI,fJ,fK,fL,fM,fN,fO,fP,fQ,fR,fS,fT,fU,fV,fW,fX,fY,fZ,gA,gC,gD,gE,gF,gG,gH,gI,gJ,gK,gL,gM,gN,gO,gP,gQ,gR,gS,gT,gU,gV,gW,gX,gY,gZ,g9,hJ,hY,hZ,iA,iB,iC,iD,iE,iF,iG],[]⟩ w:=by
 have HQ:=Lh k
 clear k
 conv=>arg 2;whnf
 go_wp2
 exact HQ.out _
theorem wp_blk {P:Program} {n:Nat} {c:Code} {Q:Exit→Act→World→Prop} {a:Act} {w:World} (h:c.wp P (Exit.inBlock n Q) a w):(Code.block n c).wp P Q a w:=wp_block h
def DoSays (B:Nat) (w0:World) (F0:Nat→Prop) (bx gr:Nat) (o:LOp) (regs:Int) (vb vo vB:Value) (gs:List Nat) (vl:Value) (r:List Nat) (bufs:List (List Nat)) (l:List (Int×Int)) (i:Int) (e:Ending) (w':World):Prop :=
 match doP o.kind o.imm o.buf bufs (atR r o.a) (atR r o.b) (atR r o.c) with
 | none=>e=.returned (.bool false)∧RunAt B w0 F0 w' bx gr regs vb vo vB gs vl r bufs l
 | some (d,e2,pl,bufs2)=>e=.returned (.bool true)∧∃ vl',RunAt B w0 F0 w' bx gr regs vb vo vB gs vl' (putR (putR r o.d d) o.e e2) bufs2 (l++[(i,pl)])
set_option maxHeartbeats 8000000 in
theorem do_any {B:Nat} {F0:Nat→Prop} {w0:World} {bx gr:Nat} {o:LOp} {vb vB vl:Value} {Ao:Option Addr} {no co:Nat} {gs r:List Nat} {bufs:List (List Nat)} {l:List (Int×Int)} {p:LP} {G:Nat→Prop} (k:Nat) (w:World) (h:RunAt B w0 F0 w bx gr p.regs vb (.slice Ao no co) vB gs vl r bufs l) (hops:OpsAt w G (.slice Ao no co) p.ops)
   (ho:p.ops[k]? = some o) (hf:fieldsF p o=true) (h15:o.kind≤15) (hr:(r.length:Int)=p.regs) (hbl:bufs.length=p.bufs.length∧∀ row∈bufs,row.length≤1000000) (hru:∀ x∈r,x < 18446744073709551616) (h5:l.length≤5000) (h64:p.regs≤64) :
   Calls Tryd.prog 43 #[.pointer (some ⟨bx,0,none⟩),.int .i64 (k:Nat)] w (DoSays B w0 F0 bx gr o p.regs vb (.slice Ao no co) vB gs vl r bufs l (k:Nat)):=by
 have hno:p.ops.length=no:=by obtain ⟨A,c,hv,_⟩:=rows_form hops;cases hv;simp
 obtain ⟨g,off,hA,_,y0,y1,y2,y3,y4,y5,y6,y7⟩:=hops.at_ ho
 subst hA
 have hkn:=(List.getElem?_eq_some_iff.1 ho).1
 rw [hno] at hkn
 have b2:w.cell? ⟨bx,2,none⟩=some (.slice (some ⟨g,off,none⟩) no co):=h.box 2 rfl
 obtain ⟨W,hW⟩:∃ q,q=w.alloc (.cells #[.int .i64 o.kind,.int .i64 o.d,.int .i64 o.e,.int .i64 o.a,.int .i64 o.b,.int .i64 o.c,.int .i64 o.buf,.int .u64 o.imm] 47):=⟨_,rfl⟩
 have hbW:Below w.heap.size w W:=by rw [hW];exact (Below.refl _ _).alloc (Nat.le_refl _) _
 have hO:OpAt W w.heap.size o:=by unfold OpAt;rw [hW];exact heap_alloc_new w _
 have hD:DoAt B w0 F0 W bx gr w.heap.size o p.regs vb (.slice (some ⟨g,off,none⟩) no co) vB gs vl r bufs l:=⟨h.next hbW,hO,by
   refine ⟨by have:=h.lt.1;omega,by have:=h.lt.2;omega,fun g' hg'=>?_⟩
   obtain ⟨m,hm⟩:=List.getElem?_of_mem hg'
   obtain ⟨row,hrow⟩:∃ row,bufs[m]? = some row:=⟨_,List.getElem?_eq_getElem (by have:=(List.getElem?_eq_some_iff.1 hm).1;have:=h.len;omega)⟩
   have:=h.sep.lt _ (List.mem_of_getElem? (h.buf hrow hm)) g' rfl
   omega⟩
 have hor:=op_regs hf
 have HD:=Lh hD
 have HW:=Lh hW
 have HAR:=Lh (show o.a < r.length∧o.b < r.length∧o.c < r.length from ⟨by by_cases e:0≤o.a;have:=hor.a e;omega;omega,by by_cases e:0≤o.b;have:=hor.b e;omega;omega,by by_cases e:0≤o.c;have:=hor.c e;omega;omega⟩)
 have HRG:=Lh (show (0≤o.d→o.d < r.length)∧(0≤o.e→o.e < r.length)∧True from ⟨fun e=>by have:=hor.d e;omega,fun e=>by have:=hor.e e;omega,trivial⟩)
 have HA:=Lh (And.intro (atR_lt hru o.a) (atR_lt hru o.b))
 have HF:=Lh hf
 have HKD:=Lh (show 1≤o.kind∧o.kind≤15 from ⟨(regs_is hf).1,h15⟩)
 have HBL:=Lh hbl
 have HL5:=Lh h5
 have i0:(0:Int)≤(k:Int):=by omega
 have i1:(k:Int) < (no:Int):=by omega
 clear h hops ho hf h15 hr hbl hru h5 h64 hno hkn hW hbW hO hD hor
 go_enter Tryd.func43,Tryd.ntmps43
 go_upto_region 2 with fail
 rw [←HW.out]
 clear y0 y1 y2 y3 y4 y5 y6 y7 b2
 refine wp_code (c:=partR Tryd.f43 2) (by kernel_rfl) ?_
 refine do_r2 _ _ HD.out HAR.out ?_
 intro pL pM pN pO mQ mR mS mT mU mV mW mX lD lE w1 h1
 have H1:=Lh h1
 clear h1
 have o0:=cell_row H1.out.op (k:=0) (v:=.int .i64 o.kind) rfl
 go_upto_region 5 with fail
 refine wp_code (c:=partR Tryd.f43 5) (by kernel_rfl) ?_
 refine do_r5 _ _ o0 ?_
 intro lF
 rename_i K_ hK_
 refine hK_ _ _ ?_
 clear hK_
 refine wp_code (c:=Code.block 0 (partL Tryd.f43 0)) (by kernel_rfl) ?_
 refine wp_blk ?_
 refine do_b (p:=p) (c:=atR r o.c) _ _ H1.out rfl HKD.out rfl HF.out HBL.out HA.out.1 HA.out.2 ?_ ?_
 rotate_left
 · intro hnone mM mN mO mP nA nQ pQ pZ lH lI lJ lK lL lM lN lO lP lQ lR lS lT lU lV lW lX lY lZ l5 l6 l7 l8 l9 mA mB mC mD mE mF mG mH mI mJ mY iS iT iU iV iW iX iY iZ i7 i8 i9 jA jB jC jD jE jF jG jH jI jJ jK jL jM jO jP jQ jR jS jT jU jV jW jX jY jZ j5 j6 j7 j8 j9 kF kG kH kI kJ kK kL kN kO kP kQ kR kS kT kU m5 m6 m7 m8 oB oC oD oE oF oG oH oI oJ oK oL oM oN oO oP oQ oS oT oU oV nB nC nD nE nF nG nH nI nJ nK nL nM w2 h2
   have H2:=Lh (And.intro hnone h2)
   clear hnone h2 o0
   go_wp2
   go_ret
   show DoSays _ _ _ _ _ _ _ _ _ _ _ _ _ _ _ _ _ _
   unfold DoSays
   rw [H2.out.1]
   exact ⟨rfl,H2.out.2.run⟩
 intro pl d e bufs2 hsome pC mP nA nQ pQ pZ lH lI lJ lK lL lM lN lO lP lQ lR lS lT lU lV lW lX lY lZ l5 l6 l7 l8 l9 mA mB mC mD mE mF mG mH mI mJ mY iS iT iU iV iW iX iY iZ i7 i8 i9 jA jB jC jD jE jF jG jH jI jJ jK jL jM jO jP jQ jR jS jT jU jV jW jX jY jZ j5 j6 j7 j8 j9 kF kG kH kI kJ kK kL kN kO kP kQ kR kS kT kU m5 m6 m7 m8 oB oC oD oE oF oG oH oI oJ oK oL oM oN oO oP oQ oS oT oU oV nB nC nD nE nF nG nH nI nJ nK nL nM w2 h2
 have HDP:=Lh hsome
 have H2:=Lh h2
 clear hsome h2 o0
 by_cases hd:0≤o.d
 · obtain ⟨dn,hdn⟩:∃ n:Nat,o.d=n:=⟨o.d.toNat,by omega⟩
   have HDN:=Lh hdn
   have c1:=cell_row H2.out.op (k:=1) (v:=.int .i64 o.d) rfl
   rw [hdn] at c1
   have g1:decide ((0:Int)≤(dn:Int))=true:=by simp
   have HLN1:=Lh (show dn < r.length by have:=HRG.out.1 hd;omega)
   have HP1:=Lh (show putR r o.d d=r.set dn d by unfold putR;rw [if_pos hd,hdn,Int.toNat_natCast])
   clear hd hdn
   go_wp2
   refine wp_code (c:=partR Tryd.f43 46) (by kernel_rfl) ?_
   refine do_r46 (dn:=dn) (x:=d) _ _ H2.out HDN.out HLN1.out ?_
   intro nR nS nT nU nV nW nX nY w3 h3
   have H3:=Lh h3
   clear h3 c1
   by_cases he:0≤o.e
   · obtain ⟨en,hen⟩:∃ n:Nat,o.e=n:=⟨o.e.toNat,by omega⟩
     have HEN:=Lh hen
     have c2:=cell_row H3.out.op (k:=2) (v:=.int .i64 o.e) rfl
     rw [hen] at c2
     have g2:decide ((0:Int)≤(en:Int))=true:=by simp
     have HLN:=Lh (show en < (r.set dn d).length by have:=HRG.out.2.1 he;(try simp only [List.length_set]);omega)
     have HP:=Lh (show putR (r.set dn d) o.e e=(r.set dn d).set en e by unfold putR;rw [if_pos he,hen,Int.toNat_natCast])
     clear he hen
     go_wp2
     refine wp_code (c:=partR Tryd.f43 48) (by kernel_rfl) ?_
     refine do_r48 (dn:=en) (x:=e) _ _ H3.out HEN.out HLN.out ?_
     intro oA oW oX oY oZ o8 o9 pA w6e h6e
     have H6E:=Lh h6e
     clear h6e
     go_upto_region 49 with fail
     refine wp_code (c:=partR Tryd.f43 49) (by kernel_rfl) ?_
     refine do_r49 (i:=(k:Nat)) (pl:=pl) _ _ H6E.out.run HL5.out ?_
     intro vl_ pB p5 p6 p7 p8 p9 qA qB qC qD qE qF w7 h7
     have H7:=Lh h7
     clear h7
     go_wp2
     go_ret
     show DoSays _ _ _ _ _ _ _ _ _ _ _ _ _ _ _ _ _ _
     unfold DoSays
     rw [HDP.out]
     refine ⟨rfl,vl_,?_⟩
     have h7:=H7.out
     rw [HP1.out,HP.out]
     exact h7
   · have g2:decide ((0:Int)≤o.e)=false:=decide_eq_false he
     have c2:=cell_row H3.out.op (k:=2) (v:=.int .i64 o.e) rfl
     have HP:=Lh (show putR (r.set dn d) o.e e=r.set dn d by unfold putR;rw [if_neg he])
     clear he
     go_upto_region 49 with fail
     refine wp_code (c:=partR Tryd.f43 49) (by kernel_rfl) ?_
     refine do_r49 (i:=(k:Nat)) (pl:=pl) _ _ H3.out.run HL5.out ?_
     intro vl_ pB p5 p6 p7 p8 p9 qA qB qC qD qE qF w7 h7
     have H7:=Lh h7
     clear h7
     go_wp2
     go_ret
     show DoSays _ _ _ _ _ _ _ _ _ _ _ _ _ _ _ _ _ _
     unfold DoSays
     rw [HDP.out]
     refine ⟨rfl,vl_,?_⟩
     have h7:=H7.out
     rw [HP1.out,HP.out]
     exact h7
 · have g1:decide ((0:Int)≤o.d)=false:=decide_eq_false hd
   have c1:=cell_row H2.out.op (k:=1) (v:=.int .i64 o.d) rfl
   have HP1:=Lh (show putR r o.d d=r by unfold putR;rw [if_neg hd])
   clear hd
   by_cases he:0≤o.e
   · obtain ⟨en,hen⟩:∃ n:Nat,o.e=n:=⟨o.e.toNat,by omega⟩
     have HEN:=Lh hen
     have c2:=cell_row H2.out.op (k:=2) (v:=.int .i64 o.e) rfl
     rw [hen] at c2
     have g2:decide ((0:Int)≤(en:Int))=true:=by simp
     have HLN:=Lh (show en < (r).length by have:=HRG.out.2.1 he;(try simp only [List.length_set]);omega)
     have HP:=Lh (show putR (r) o.e e=(r).set en e by unfold putR;rw [if_pos he,hen,Int.toNat_natCast])
     clear he hen
     go_wp2
     refine wp_code (c:=partR Tryd.f43 48) (by kernel_rfl) ?_
     refine do_r48 (dn:=en) (x:=e) _ _ H2.out HEN.out HLN.out ?_
     intro oA oW oX oY oZ o8 o9 pA w6e h6e
     have H6E:=Lh h6e
     clear h6e
     go_upto_region 49 with fail
     refine wp_code (c:=partR Tryd.f43 49) (by kernel_rfl) ?_
     refine do_r49 (i:=(k:Nat)) (pl:=pl) _ _ H6E.out.run HL5.out ?_
     intro vl_ pB p5 p6 p7 p8 p9 qA qB qC qD qE qF w7 h7
     have H7:=Lh h7
     clear h7
     go_wp2
     go_ret
     show DoSays _ _ _ _ _ _ _ _ _ _ _ _ _ _ _ _ _ _
     unfold DoSays
     rw [HDP.out]
     refine ⟨rfl,vl_,?_⟩
     have h7:=H7.out
     rw [HP1.out,HP.out]
     exact h7
   · have g2:decide ((0:Int)≤o.e)=false:=decide_eq_false he
     have c2:=cell_row H2.out.op (k:=2) (v:=.int .i64 o.e) rfl
     have HP:=Lh (show putR (r) o.e e=r by unfold putR;rw [if_neg he])
     clear he
     go_upto_region 49 with fail
     refine wp_code (c:=partR Tryd.f43 49) (by kernel_rfl) ?_
     refine do_r49 (i:=(k:Nat)) (pl:=pl) _ _ H2.out.run HL5.out ?_
     intro vl_ pB p5 p6 p7 p8 p9 qA qB qC qD qE qF w7 h7
     have H7:=Lh h7
     clear h7
     go_wp2
     go_ret
     show DoSays _ _ _ _ _ _ _ _ _ _ _ _ _ _ _ _ _ _
     unfold DoSays
     rw [HDP.out]
     refine ⟨rfl,vl_,?_⟩
     have h7:=H7.out
     rw [HP1.out,HP.out]
     exact h7
end Go.Proofs.YtppoiahhaclleaaDoor
namespace Go.Proofs.YtppoiahhaclleaaDoor
open Go.RowKit
def stk (ops:List LOp) (k:Nat):List Nat:=(endsTo ops k).2
theorem stk_next {ops:List LOp} {k:Nat} {o:LOp} (ho:ops[k]? = some o):stk ops (k+1)=if o.kind=16 then k :: stk ops k else if o.kind=17 then (stk ops k).tail else stk ops k:=by
 unfold stk
 simp only [endsTo,ho,endsStep]
 split
 · rfl
 · split
   · cases hst:(endsTo ops k).2 with
     | nil=>simp [hst]
     | cons=>simp
   · rfl
def dOf (ops:List LOp) (l:Nat):Int:=((ops[l]?).map (·.d)).getD (-1)
theorem loops_stk {p:LP} {n:Nat}:∀ k,k≤p.ops.length→(runTo p n k).1=0→(runTo p n k).2.2.loops=((stk p.ops k).map (dOf p.ops)).reverse:=by
 intro k
 induction k with
 | zero=>exact fun _ _=>rfl
 | succ k ih =>
   intro hk h
   obtain ⟨o,ho⟩:∃ o,p.ops[k]? = some o:=⟨_,List.getElem?_eq_getElem (by omega)⟩
   have h0:=run_err (Nat.le_succ k) h
   have ih:=ih (by omega) h0
   rw [stk_next ho]
   simp only [runTo] at h ⊢
   rw [if_neg (by simp [h0]),ho] at h ⊢
   simp only at h ⊢
   have h7:(opF p o (runTo p n k).2.2).1=0:=by
     split at h
     · exact h
     · rename_i hh;simpa using hh
   rw [if_neg (by simp [h7])]
   show (opF p o (runTo p n k).2.2).2.loops=_
   unfold opF at h7 ⊢
   split at h7
   · simp at h7
   rename_i hf
   rw [if_neg hf]
   by_cases h17:o.kind=17
   · rw [if_pos h17] at h7 ⊢
     rw [if_neg (show ¬ o.kind=16 by omega),if_pos h17]
     split at h7
     · simp at h7
     rename_i hl
     rw [if_neg hl]
     simp only
     rw [ih,List.dropLast_reverse,List.map_tail]
   · rw [if_neg h17] at h7 ⊢
     split at h7
     · simp at h7
     rename_i g1
     rw [if_neg g1]
     split at h7
     · simp at h7
     rename_i g2
     rw [if_neg g2]
     split at h7
     · simp at h7
     rename_i g3
     rw [if_neg g3]
     simp only
     by_cases h16:o.kind=16
     · rw [if_pos h16,if_pos h16,ih,List.map_cons,List.reverse_cons,show dOf p.ops k=o.d by unfold dOf;rw [ho];rfl]
     · rw [if_neg h16,if_neg h16,if_neg h17,ih]
theorem kept {p:LP} (h0:(checkF p 64).2=0) {k:Nat} {o:LOp} (ho:p.ops[k]? = some o) (hk:o.kind≠17) {l:Nat} (hl:l∈stk p.ops k):0≤dOf p.ops l∧o.d≠dOf p.ops l∧o.e≠dOf p.ops l:=by
 obtain ⟨_,h2,_⟩:=check_run h0
 have hi:=(List.getElem?_eq_some_iff.1 ho).1
 have h4:=run_err (Nat.le_of_lt hi) h2
 have h6:=run_err (Nat.succ_le_of_lt hi) h2
 have hlo:=loops_stk k (Nat.le_of_lt hi) h4
 have hd:0≤dOf p.ops l:=by
   obtain ⟨_,q,hq,hq16⟩:=(ends_inv (check_bal h0) k (by omega)).open_ l hl
   have:=loop_d (check_fields h0 hq) hq16
   unfold dOf
   rw [hq]
   exact this.1
 have hmem:dOf p.ops l∈(runTo p 64 k).2.2.loops:=by
   rw [hlo]
   exact List.mem_reverse.2 (List.mem_map.2 ⟨l,hl,rfl⟩)
 simp only [runTo] at h6
 rw [if_neg (by simp [h4]),ho] at h6
 have h7:(opF p o (runTo p 64 k).2.2).1=0:=by
   simp only at h6
   split at h6
   · exact h6
   · rename_i h;simpa using h
 unfold opF at h7
 split at h7
 · simp at h7
 try rw [if_neg hk] at h7
 split at h7
 · simp at h7
 rename_i g1
 simp only [Bool.or_eq_true,not_or,Bool.not_eq_true,inF,Bool.and_eq_false_iff,decide_eq_false_iff_not,List.contains_eq_mem] at g1
 refine ⟨hd,fun e=>?_,fun e=>?_⟩
 · rcases g1.1.1 with h | h
   · omega
   · rw [e] at h;simp [hmem] at h
 · rcases g1.1.2 with h | h
   · omega
   · rw [e] at h;simp [hmem] at h
end Go.Proofs.YtppoiahhaclleaaDoor
namespace Go.Proofs.YtppoiahhaclleaaDoor
open Go.RowKit
theorem end_top {ops:List LOp} (hb:Bal ops) {k l:Nat} {rest:List Nat} {o:LOp} (ho:ops[k]? = some o) (hk:o.kind=17) (hs:stk ops k=l :: rest):(endsF ops).getD k 0=(l:Int):=by
 have hkl:=(List.getElem?_eq_some_iff.1 ho).1
 have key:∀ j,k < j→j≤ops.length→(endsTo ops j).1[k]? = some (l:Int):=by
   intro j
   induction j with
   | zero=>intro h;omega
   | succ j ih =>
     intro h1 h2
     obtain ⟨q,hq⟩:∃ q,ops[j]? = some q:=⟨_,List.getElem?_eq_getElem (by omega)⟩
     have inv:=ends_inv hb j (by omega)
     simp only [endsTo,hq]
     by_cases e:j=k
     · subst e
       rw [ho] at hq
       cases hq
       unfold stk at hs
       have hlen:=inv.len
       have hop:=inv.open_ l (by rw [hs];exact List.mem_cons_self)
       unfold endsStep
       rw [if_neg (by omega),if_pos hk,hs]
       simp only
       rw [List.getElem?_set_ne (by omega),List.getElem?_set_self (by omega)]
     · have ih:=ih (by omega) (by omega)
       unfold endsStep
       split
       · exact ih
       · split
         · split
           · exact ih
           · rename_i m st hst
             obtain ⟨_,q0,hq0,hk0⟩:=inv.open_ m (by rw [hst];exact List.mem_cons_self)
             have e2:m≠k:=fun e2=>by subst e2;rw [ho] at hq0;cases hq0;omega
             simp only
             rw [List.getElem?_set_ne e2,List.getElem?_set_ne e]
             exact ih
         · exact ih
 have h:=key ops.length hkl (Nat.le_refl _)
 unfold endsF
 rw [List.getD_eq_getElem?_getD,h];rfl
theorem loop_imm {p:LP} {o:LOp} (h:fieldsF p o=true) (hk:o.kind=16):1≤o.imm∧o.imm≤1048576:=by
 unfold fieldsF bufOk at h
 simp only [Bool.and_eq_true] at h
 obtain ⟨_,_,_,_,h⟩:=h
 rw [hk,if_neg (by decide)] at h
 simp only [Bool.and_eq_true] at h
 have h:=h.2
 unfold numOk at h
 rw [hk] at h
 simpa using h
def dv (ops:List LOp) (s:RS) (l:Nat):Nat:=s.r.getD (dOf ops l).toNat 0
theorem put_other {r:List Nat} {k d:Int} {v:Nat} (hd:0≤d) (h:k≠d):(putR r k v).getD d.toNat 0=r.getD d.toNat 0:=by
 unfold putR
 split
 · rw [List.getD_eq_getElem?_getD,List.getD_eq_getElem?_getD,List.getElem?_set_ne (by omega)]
 · rfl
end Go.Proofs.YtppoiahhaclleaaDoor
namespace Go.Proofs.YtppoiahhaclleaaDoor
def stOp (o:LOp) (s:Int×List (Int×Int)):Int×List (Int×Int) :=
 if o.kind=16 then (1,s.2++[(s.1,(o.imm:Int))])
 else if o.kind=17 then
   (min 1125899906842624 ((if 1125899906842624 / (s.2.getLastD (0,1)).2 < s.1 then 1125899906842624 else s.1*(s.2.getLastD (0,1)).2)+(s.2.getLastD (0,1)).1),s.2.dropLast)
 else (min 1125899906842624 (s.1+1),s.2)
def stTo (ops:List LOp):Nat→Int×List (Int×Int)
 | 0=>(0,[])
 | k+1=>match ops[k]? with
   | some o=>stOp o (stTo ops k)
   | none=>stTo ops k
def stepsF (ops:List LOp):Int:=(stTo ops ops.length).1
theorem st_next {ops:List LOp} {k:Nat} {o:LOp} (ho:ops[k]? = some o):stTo ops (k+1)=stOp o (stTo ops k):=by simp only [stTo,ho]
theorem st_ren (nm:Nat→Nat) (ops:List LOp) (k:Nat):stTo (ops.map (renF nm)) k=stTo ops k:=by
 induction k with
 | zero=>rfl
 | succ k ih =>
   simp only [stTo,List.getElem?_map,ih]
   cases ops[k]? with
   | none=>rfl
   | some o=>rfl
theorem steps_ren (nm:Nat→Nat) (ops:List LOp):stepsF (ops.map (renF nm))=stepsF ops:=by
 unfold stepsF
 rw [List.length_map,st_ren]
structure StOk (s:Int×List (Int×Int)):Prop where
 lo:0≤s.1
 hi:s.1≤1125899906842624
 all:∀ x∈s.2,0≤x.1∧x.1≤1125899906842624∧1≤x.2∧x.2≤1048576
theorem getLastD_mem {l:List (Int×Int)} (h:l≠[]) (d:Int×Int):l.getLastD d∈l:=by
 induction l generalizing d with
 | nil=>exact absurd rfl h
 | cons x l ih =>
   rw [List.getLastD_cons]
   by_cases e:l=[]
   · rw [e];exact List.mem_cons_self
   · exact List.mem_cons_of_mem _ (ih e x)
theorem st_ok {p:LP} (h0:(checkF p 64).2=0):∀ k,k≤p.ops.length→StOk (stTo p.ops k)∧(stTo p.ops k).2.length=(stk p.ops k).length:=by
 intro k
 induction k with
 | zero=>exact fun _=>⟨⟨Int.le_refl 0,(by decide:(0:Int)≤1125899906842624),fun x hx=>by cases hx⟩,rfl⟩
 | succ k ih =>
   intro hk
   obtain ⟨h1,h2⟩:=ih (by omega)
   obtain ⟨o,ho⟩:∃ o,p.ops[k]? = some o:=⟨_,List.getElem?_eq_getElem (by omega)⟩
   rw [st_next ho,stk_next ho]
   have hf:=check_fields h0 ho
   have hlo:=h1.lo
   have hhi:=h1.hi
   unfold stOp
   by_cases h16:o.kind=16
   · rw [if_pos h16,if_pos h16]
     have hi:=loop_imm hf h16
     refine ⟨⟨(by decide:(0:Int)≤1),(by decide:(1:Int)≤1125899906842624),fun x hx=>?_⟩,by simp [h2]⟩
     rcases List.mem_append.1 hx with h | h
     · exact h1.all x h
     · obtain rfl:=List.mem_singleton.1 h
       exact ⟨hlo,hhi,by simp only;omega,by simp only;omega⟩
   rw [if_neg h16,if_neg h16]
   by_cases h17:o.kind=17
   · rw [if_pos h17,if_pos h17]
     have hne:(stTo p.ops k).2≠[]:=fun e=>(check_bal h0).some_ k o ho h17 (by
       have:(stk p.ops k).length=0:=by rw [←h2,e];rfl
       exact List.eq_nil_of_length_eq_zero this)
     have hl:=h1.all _ (getLastD_mem hne (0,1))
     generalize (stTo p.ops k).2.getLastD (0,1)=t at hl
     have hm:0≤(if 1125899906842624 / t.2 < (stTo p.ops k).1 then 1125899906842624 else (stTo p.ops k).1*t.2):=by
       split
       · decide
       · exact Int.mul_nonneg hlo (by omega)
     refine ⟨⟨by simp only;omega,by simp only;omega,fun x hx=>h1.all x (List.dropLast_subset _ hx)⟩,by simp [h2]⟩
   rw [if_neg h17,if_neg h17]
   exact ⟨⟨by simp only;omega,by simp only;omega,h1.all⟩,h2⟩
end Go.Proofs.YtppoiahhaclleaaDoor
namespace Go.Proofs.YtppoiahhaclleaaDoor
open Go.RowKit
structure NmI (sp:List (Int×Int)) (pl:List Int) (k:Nat) (N:Int→Option Nat) (m:Nat) (tl:List Int):Prop where
 len:tl.length=sp.length
 lt:∀ a v,N a=some v→v < m
 inj:∀ a b v,N a=some v→N b=some v→a=b
 is_:∀ (r:Nat) (s:Int×Int) (a:Int),r < k→sp[r]? = some s→pl[r]? = some a→0≤s.1→∃ v:Nat,N a=some v∧tl[r]? = some (v:Int)
 le:m≤k
 pos:∀ x∈tl,0≤x
theorem NmI.start (sp:List (Int×Int)) (pl:List Int) (n:Nat) (h:sp.length=n):NmI sp pl 0 (fun _=>none) 0 (List.replicate n 0) :=
 ⟨by simp [h],fun a v h=>by simp at h,fun a b v h=>by simp at h,fun r s a h=>absurd h (by omega),Nat.le_refl _,fun x hx=>by rw [(List.mem_replicate.1 hx).2];exact Int.le_refl _⟩
theorem NmI.skip {sp:List (Int×Int)} {pl:List Int} {k m:Nat} {N:Int→Option Nat} {tl:List Int} (h:NmI sp pl k N m tl) {s:Int×Int} (hs:sp[k]? = some s) (h0:s.1 < 0):NmI sp pl (k+1) N m tl :=
 ⟨h.len,h.lt,h.inj,fun r s' a hr h1 h2 h3=>by
   by_cases e:r=k
   · subst e;rw [hs] at h1;cases h1;omega
   · exact h.is_ r s' a (by omega) h1 h2 h3,Nat.le_succ_of_le h.le,h.pos⟩
theorem set_pos {tl:List Int} {k v:Nat} (h:∀ x∈tl,0≤x):∀ x∈tl.set k (v:Int),0≤x:=fun x hx=>by
 rcases List.mem_or_eq_of_mem_set hx with h1 | rfl
 · exact h x h1
 · omega
theorem NmI.old {sp:List (Int×Int)} {pl:List Int} {k m v:Nat} {N:Int→Option Nat} {tl:List Int} {a:Int} (h:NmI sp pl k N m tl) (hk:k < sp.length) (ha:pl[k]? = some a) (hN:N a=some v):NmI sp pl (k+1) N m (tl.set k (v:Int)) :=
 ⟨by simp [h.len],h.lt,h.inj,fun r s' b hr h1 h2 h3=>by
   by_cases e:r=k
   · subst e;rw [ha] at h2;cases h2
     exact ⟨v,hN,by rw [List.getElem?_set_self (by rw [h.len];exact hk)]⟩
   · obtain ⟨u,g1,g2⟩:=h.is_ r s' b (by omega) h1 h2 h3
     exact ⟨u,g1,by rw [List.getElem?_set_ne (by omega)];exact g2⟩,Nat.le_succ_of_le h.le,set_pos h.pos⟩
theorem NmI.new {sp:List (Int×Int)} {pl:List Int} {k m:Nat} {N:Int→Option Nat} {tl:List Int} {a:Int} (h:NmI sp pl k N m tl) (hk:k < sp.length) (ha:pl[k]? = some a) (hN:N a=none):NmI sp pl (k+1) (fun b=>if b=a then some m else N b) (m+1) (tl.set k (m:Int)):=by
 refine ⟨by simp [h.len],fun b v hv=>?_,fun b c v hb hc=>?_,fun r s' b hr h1 h2 h3=>?_,by have:=h.le;omega,set_pos h.pos⟩
 · split at hv
   · cases hv;omega
   · have:=h.lt b v hv;omega
 · split at hb
   · split at hc
     · omega
     · have:=h.lt c v hc;cases hb;omega
   · split at hc
     · have:=h.lt b v hb;cases hc;omega
     · exact h.inj b c v hb hc
 · by_cases e:r=k
   · subst e;rw [ha] at h2;cases h2
     exact ⟨m,by simp,by rw [List.getElem?_set_self (by rw [h.len];exact hk)]⟩
   · obtain ⟨u,g1,g2⟩:=h.is_ r s' b (by omega) h1 h2 h3
     refine ⟨u,?_,by rw [List.getElem?_set_ne (by omega)];exact g2⟩
     rw [if_neg (fun e=>by rw [e,hN] at g1;cases g1)]
     exact g1
def nmOf (tl:List Int) (r:Nat):Nat:=(tl.getD r 0).toNat
theorem clash_of {p:LP} {pool:Int} {pl:List Int} (h:placesF p pool pl=0) (h0:(checkF p 64).2=0):pl.length=(spansF p).length∧∀ (x y:Nat) (s t:Int×Int) (a b:Int),x≠y→(spansF p)[x]? = some s→(spansF p)[y]? = some t→pl[x]? = some a→pl[y]? = some b→0≤s.1→0≤t.1→s.1≤t.2→t.1≤s.2→a≠b:=by
 have hl:pl.length=(spansF p).length:=by
   unfold placesF at h
   rw [if_neg (by rw [h0];decide)] at h
   rw [spans_len]
   split at h
   · cases h
   · omega
 refine ⟨hl,?_⟩
 have key:∀ (x y:Nat) (s t:Int×Int) (a b:Int),y < x→(spansF p)[x]? = some s→(spansF p)[y]? = some t→pl[x]? = some a→pl[y]? = some b→0≤s.1→0≤t.1→s.1≤t.2→t.1≤s.2→a≠b:=by
   intro x y s t a b hxy h1 h2 h3 h4 h5 h6 h7 h8 e
   have hc:=clash_yes ⟨x,y,s,t,a,b,hxy,h1,h3,h2,h4,by unfold clashP meetsF;simp [e,h5,h6,h7,h8]⟩
   unfold placesF at h
   rw [if_neg (by rw [h0];decide)] at h
   rw [if_pos hc] at h
   split at h
   · cases h
   · split at h <;> cases h
 intro x y s t a b hxy h1 h2 h3 h4 h5 h6 h7 h8
 rcases Nat.lt_or_gt_of_ne hxy with hlt | hlt
 · exact fun e=>key y x t s b a hlt h2 h1 h4 h3 h6 h5 h8 h7 e.symm
 · exact key x y s t a b hlt h1 h2 h3 h4 h5 h6 h7 h8
theorem NmI.ren {p:LP} {pool:Int} {pl:List Int} {m:Nat} {N:Int→Option Nat} {tl:List Int} (h:NmI (spansF p) pl (spansF p).length N m tl) (hp:placesF p pool pl=0) (h0:(checkF p 64).2=0):RenOk (spansF p) (nmOf tl) m:=by
 obtain ⟨hl,hc⟩:=clash_of hp h0
 have get:∀ (x:Nat) (s:Int×Int),(spansF p)[x]? = some s→∃ a,pl[x]? = some a:=fun x s hs=>⟨_,List.getElem?_eq_getElem (by rw [hl];exact (List.getElem?_eq_some_iff.1 hs).1)⟩
 have nm:∀ (x v:Nat),tl[x]? = some (v:Int)→nmOf tl x=v:=fun x v hv=>by unfold nmOf;rw [List.getD_eq_getElem?_getD,hv];simp
 refine ⟨fun x s hs h1=>?_,fun x y s t hxy hs ht h1 h2 h3 h4=>?_⟩
 · obtain ⟨a,ha⟩:=get x s hs
   obtain ⟨v,g1,g2⟩:=h.is_ x s a (List.getElem?_eq_some_iff.1 hs).1 hs ha h1
   rw [nm x v g2]
   exact h.lt a v g1
 · obtain ⟨a,ha⟩:=get x s hs
   obtain ⟨b,hb⟩:=get y t ht
   obtain ⟨v,g1,g2⟩:=h.is_ x s a (List.getElem?_eq_some_iff.1 hs).1 hs ha h1
   obtain ⟨u,g3,g4⟩:=h.is_ y t b (List.getElem?_eq_some_iff.1 ht).1 ht hb h2
   rw [nm x v g2,nm y u g4]
   exact fun e=>hc x y s t a b hxy hs ht ha hb h1 h2 h3 h4 (h.inj a b v g1 (e▸g3))
theorem name_nm {tl:List Int} (hpos:∀ x∈tl,0≤x) {k:Int} (hk:k < tl.length):nameF tl k=nmF (nmOf tl) k:=by
 unfold nameF nmF
 split
 · rfl
 · obtain ⟨x,hx⟩:∃ x,tl[k.toNat]? = some x:=⟨_,List.getElem?_eq_getElem (by omega)⟩
   have h1:=hpos x (List.mem_of_getElem? hx)
   unfold nmOf
   rw [List.getD_eq_getElem?_getD,hx]
   simp only [Option.getD_some]
   omega
def padF (bs:List Bf) (rows:List (List Nat)):List (List Nat):=(List.range bs.length).map fun i=>(rows.getD i [])++List.replicate ((bs.getD i ⟨0,0,false⟩).size.toNat - (rows.getD i []).length) 0
def st0 (p:LP) (rows:List (List Nat)):RS:=⟨0,true,List.replicate p.regs.toNat 0,padF p.bufs rows,[]⟩
def RunOut (p:LP) (rows out:List (List Nat)) (g:Int):Prop :=
 ((checkF p 64).2≠0∧out=[]∧g=(checkF p 64).2) ∨
 ((checkF p 64).2=0∧rowsB p.bufs rows=false∧out=[]∧g=2) ∨
 ((checkF p 64).2=0∧rowsB p.bufs rows=true∧∃ f,(finF doP p.ops (endsF p.ops) f (st0 p rows)=some none∧out=[]∧g=11)∨∃ s,finF doP p.ops (endsF p.ops) f (st0 p rows)=some (some s)∧out=s.bufs∧g=0)
theorem fin_more {D:DoT} {ops:List LOp} {E:List Int} {r:Option RS}:∀ (f d:Nat) {s:RS},finF D ops E f s=some r→finF D ops E (f+d) s=some r:=by
 intro f
 induction f with
 | zero=>exact fun d s h=>by cases h
 | succ f ih =>
   intro d s h
   rw [show f+1+d=(f+d)+1 by omega]
   simp only [finF] at h ⊢
   split
   · rename_i hl;rw [if_pos hl] at h;exact h
   · rename_i hl
     rw [if_neg hl] at h
     cases hs:stepF D ops E s with
     | none=>rw [hs] at h;exact h
     | some s'=>rw [hs] at h;exact ih d h
theorem fin_one {D:DoT} {ops:List LOp} {E:List Int} {r q:Option RS} {f g:Nat} {s:RS} (h1:finF D ops E f s=some r) (h2:finF D ops E g s=some q):r=q:=by
 have h3:=fin_more f g h1
 have h4:=fin_more g f h2
 rw [Nat.add_comm] at h3
 rw [h3] at h4
 exact Option.some.inj h4
def renP (p:LP) (nm:Nat→Nat) (m:Nat):LP:=⟨(m:Int),p.bufs,p.ops.map (renF nm)⟩
theorem run_same {p:LP} {nm:Nat→Nat} {m:Nat} {rows x y:List (List Nat)} {g h:Int} (h0:(checkF p 64).2=0) (hR:RenOk (spansF p) nm m) (hq:(checkF (renP p nm m) 64).2=0) (hx:RunOut p rows x g) (hy:RunOut (renP p nm m) rows y h):g=h∧x=y:=by
 rcases hx with ⟨h1,_⟩ | ⟨_,hb,h1,h2⟩ | ⟨_,hb,f,hf⟩
 · exact absurd h0 h1
 · rcases hy with ⟨g1,_⟩ | ⟨_,gb,g1,g2⟩ | ⟨_,gb,_⟩
   · exact absurd hq g1
   · exact ⟨by rw [h2,g2],by rw [h1,g1]⟩
   · have:(renP p nm m).bufs=p.bufs:=rfl
     rw [this,hb] at gb;cases gb
 · rcases hy with ⟨g1,_⟩ | ⟨_,gb,_⟩ | ⟨_,gb,f',hf'⟩
   · exact absurd hq g1
   · have:(renP p nm m).bufs=p.bufs:=rfl
     rw [this,hb] at gb;cases gb
   have hsim:SimS p nm m (st0 p rows) (st0 (renP p nm m) rows) :=
     ⟨rfl,rfl,rfl,⟨by have:=(head_ok (check_run h0).1).2.1;simp [st0];omega,by simp [st0,renP],fun x s hs h1 h2 _=>by simp only [st0] at h2;omega⟩,fun h=>by cases h⟩
   obtain ⟨s1,s2⟩:=sim_fin (D:=doP) h0 hR f hsim
   have he:endsF (renP p nm m).ops=endsF p.ops:=endsF_ren nm p.ops
   rw [he] at hf'
   rcases hf with ⟨a1,a2,a3⟩ | ⟨s,a1,a2,a3⟩
   · have h3:=s1 a1
     rcases hf' with ⟨b1,b2,b3⟩ | ⟨t,b1,b2,b3⟩
     · exact ⟨by rw [a3,b3],by rw [a2,b2]⟩
     · have:=fin_one h3 b1;cases this
   · obtain ⟨t,h3,h4⟩:=s2 s a1
     rcases hf' with ⟨b1,b2,b3⟩ | ⟨t',b1,b2,b3⟩
     · have:=fin_one h3 b1;cases this
     · have:=fin_one h3 b1
       cases this
       exact ⟨by rw [a3,b3],by rw [a2,b2,h4]⟩
end Go.Proofs.YtppoiahhaclleaaDoor
namespace Go.Proofs.YtppoiahhaclleaaDoor
open Go.RowKit
set_option maxRecDepth 100000
variable {aB aA kW aC aD kX kY kZ lA lB lC aE aF aG aH aI aJ aK aL aM aN aO aP aQ aR aS aT aU aV aW aX aY aZ a8 bA bB bC bD bE bF bG bH bI bJ bK bL bM bN bO bP bQ bS bT bU bV bW bX bY bZ b4 b6 cA cC cD cE cF cG cH cI cJ cK cL cM cN cO cP cQ cR cT cU cV cW cX cY cZ c8 dA dB dC dD dE dF dG dH dI dJ dK dL dM dN dO dP dQ dR dS dT dU dV dW dX dY dZ d7 eA eB eC eD eE eF eG eH eI eJ eK eL eM eN eO eP eQ eR eS eT eU eV eW eX eY eZ fA fB fC fD fE fF fG fH fI fJ fK fL fM fN fO fP fQ fR fS fT fU fV fW fX fY : Value}
theorem Sep.perm {w0 w:World} {F0:Nat→Prop} {R R':List Res} (h:Sep w0 F0 w R) (hp:R.Perm R'):Sep w0 F0 w R' :=
 ⟨h.chg,fun r hr=>h.lt r (hp.mem_iff.2 hr),fun r hr=>h.over r (hp.mem_iff.2 hr),(hp.pairwise_iff (fun {_ _} h k hk hq=>h k hq hk)).1 h.dis,fun r hr=>h.holds r (hp.mem_iff.2 hr)⟩
theorem infoU:(Tryd.prog.info? 45).map (fun i=>(i.zero,i.size,i.bytes))=some (some (.int .u64 0),1,8):=by kernel_rfl
theorem infoUs:(Tryd.prog.info? 65).map (fun i=>(i.zero,i.size,i.bytes))=some (some (.slice none 0 0),1,24):=by kernel_rfl
theorem make_us (n:Nat) (hn:n≤65536) (w:World):(Instr.makeSlice 65 (.int .i64 n) (.int .i64 n)).run Tryd.prog w=.ok (.slice (some ⟨w.heap.size,0,none⟩) n n) (w.alloc (.cells (usV (List.replicate n 0)).toArray 45)):=by
 obtain ⟨i0,hi,hz0,hz1,hz2⟩:=info_parts infoU
 have h:=run_makeSlice (P:=Tryd.prog) w 65 45 i0 (.int .u64 0) Tryd.underlying65 hi hz0 .i64 .i64 n n (by omega) (Int.le_refl _) (by rw [hz1];omega) (by rw [hz2];omega) (by omega)
 rw [hz1] at h
 simp only [Int.toNat_natCast,Nat.mul_one] at h
 have e2:madeCells #[.int .u64 0] n=(usV (List.replicate n 0)).toArray:=by
   refine Array.ext (by simp [size_madeCells,usV]) fun i h1 h2=>?_
   simp [madeCells,Nat.mod_one,usV]
 rw [show (Value.int .u64 0).cells=#[.int .u64 0] from rfl,e2] at h
 exact h
theorem exec_mk {P:Program} {o:Oper} {a:Act} {w w':World} {t:TypeId} {x y:Operand} {v vx vy:Value} (ho:o.op=.makeSlice t x y) (hx:a.eval x=vx) (hy:a.eval y=vy) (h:(Instr.makeSlice t vx vy).run P w=.ok v w'):(execOp a.eval o).run P w=.ok (.value v) w':=by
 unfold execOp
 simp only [ho,hx,hy,Sem.run_bind,Sem.run_pure,h,Result.andThen_ok]
theorem exec_box {P:Program} {o:Oper} {a:Act} {w w':World} {t:TypeId} {x:Operand} {v vx:Value} (ho:o.op=.box t x) (hx:a.eval x=vx) (h:(Instr.box t vx).run P w=.ok v w'):(execOp a.eval o).run P w=.ok (.value v) w':=by
 unfold execOp
 simp only [ho,hx,Sem.run_bind,Sem.run_pure,h,Result.andThen_ok]
theorem infoRun:(Tryd.prog.info? 82).map (fun i=>(i.zero,i.size,i.bytes))=some (some (.agg #[.int .i64 0,.slice none 0 0,.slice none 0 0,.slice none 0 0,.slice none 0 0,.slice none 0 0]),6,128):=by kernel_rfl
theorem box_run (regs:Int) (vb vo:Value) (gr n:Nat) (w:World):(Instr.box 82 (.agg #[.int .i64 regs,vb,vo,.slice (some ⟨gr,0,none⟩) n n,.slice none 0 0,.slice none 0 0])).run Tryd.prog w=.ok (.pointer (some ⟨w.heap.size,0,none⟩)) (w.alloc (.cells #[.int .i64 regs,vb,vo,.slice (some ⟨gr,0,none⟩) n n,.slice none 0 0,.slice none 0 0] 82)):=by
 obtain ⟨i0,hi,hz0,hz1,hz2⟩:=info_parts infoRun
 go_simp
section
variable {B:Nat} {F0:Nat→Prop} {w0 w wr w':World} {bx gr:Nat} {regs:Int} {vb vo vB vl:Value} {gs:List Nat} {r:List Nat} {bufs:List (List Nat)} {l:List (Int×Int)}
theorem RunAt.row (h:RunAt B w0 F0 wr bx gr regs vb vo vB gs vl r bufs l) (hb:Below wr.heap.size wr w) {g:Nat} {row:List Nat} (hg:w.heap[g]? = some (.cells (usV row).toArray 45 (0,0))) (hge:wr.heap.size≤g) {v':Value}
   (ho:w'.ownsRow B 65 1 v' (gs.length+1) (refV gs bufs++[.slice (some ⟨g,0,none⟩) row.length row.length])) (hgr:w.grownBy w' vB.ownBlock) (hn:∀ k,v'.ownBlock=some k→vB.ownBlock=some k∨w.heap.size≤k) :
   RunAt B w0 F0 (w'.setCell ⟨bx,4,none⟩ v') bx gr regs vb vo v' (gs++[g]) vl r (bufs++[row]) l:=by
 have e1:refV (gs++[g]) (bufs++[row])=refV gs bufs++[.slice (some ⟨g,0,none⟩) row.length row.length]:=by unfold refV;rw [List.zipWith_append h.len];rfl
 have e2:bufR (gs++[g]) (bufs++[row])=bufR gs bufs++[boxR g 45 (usV row)]:=by unfold bufR;rw [List.zipWith_append h.len];rfl
 refine ⟨by simp [h.len],h.base,?_⟩
 have h1:=h.sep.push (r':=boxR g 45 (usV row)) hb hg (fun k hk=>by cases hk;exact ⟨hge,lt_of_block hg⟩)
 have h2:=h1.grown 3 rfl (show w'.ownsRow B 65 1 v' (gs++[g]).length (refV (gs++[g]) (bufs++[row])) by rw [e1];simpa using ho) hgr hn
 have h3:=h2.setCell 1 rfl 4 v' rfl
 refine h3.perm ?_
 rw [e2]
 show List.Perm (boxR g 45 (usV row) :: (boxR bx 82 (runRow regs vb vo gr v' vl r) :: boxR gr 45 (usV r) :: rowR B 65 1 (gs++[g]).length v' (refV (gs++[g]) (bufs++[row])) :: rowR B 84 2 l.length vl (evV l) :: bufR gs bufs)) _
 exact (List.perm_append_singleton _ (boxR bx 82 (runRow regs vb vo gr v' vl r) :: boxR gr 45 (usV r) :: rowR B 65 1 (gs++[g]).length v' (refV (gs++[g]) (bufs++[row])) :: rowR B 84 2 l.length vl (evV l) :: bufR gs bufs)).symm
theorem row_box {A:Option Addr} {n c:Nat} (h:RunAt B w0 F0 w bx gr regs vb vo (.slice A n c) gs vl r bufs l) (hg:w.grownBy w' (Value.slice A n c).ownBlock) :
   w'.cell? ⟨bx,4,none⟩=some (.slice A n c)∧w'.frozen? ⟨bx,4,none⟩=false:=by
 have h1:=h.sep.at_ 0 rfl
 have hne:∀ g,(Value.slice A n c).ownBlock=some g→g≠bx:=fun g hg' e=>by
   subst e
   exact pair_apart h.sep.dis (i:=0) (j:=2) rfl rfl (by decide) _ rfl hg'
 have h2:=(hg.block bx h.lt.1 (fun e=>hne bx e.symm rfl)).trans h1
 exact ⟨cell_row h2 rfl,frozen_row h2 4⟩
theorem us_at {w:World} {g:Nat} {l:List Nat} {t:Nat} (h:w.heap[g]? = some (.cells (usV l).toArray t (0,0))):UsAt w (fun k=>k=g) (.slice (some ⟨g,0,none⟩) l.length l.length) l:=by
 refine ⟨_,l.length,by simp,by simp,by intro r hr;obtain ⟨x,_,rfl⟩:=List.mem_map.1 hr;rfl,fun _=>⟨g,0,rfl,rfl,fun i j r u hr hu=>?_⟩⟩
 obtain ⟨x,_,rfl⟩:=List.mem_map.1 (List.mem_of_getElem? hr)
 obtain ⟨rfl,rfl⟩:j=0∧u=.int .u64 x:=by
   cases j with
   | zero=>simp at hu;exact ⟨rfl,hu.symm⟩
   | succ j=>simp at hu
 rw [List.getElem?_map] at hr
 cases hi:l[i]? with
 | none=>rw [hi] at hr;cases hr
 | some y =>
   rw [hi] at hr
   simp only [Option.map_some,Option.some.injEq,List.cons.injEq,and_true] at hr
   rw [←hr]
   have:=cell_row h (usV_at hi)
   simpa using this
theorem RunAt.rows (h:RunAt B w0 F0 w bx gr regs vb vo vB gs vl r bufs l):RowsU w (fun k=>k < w.heap.size) vB bufs:=by
 have ho:w.ownsRow B 65 1 vB gs.length (refV gs bufs):=h.sep.get 2 rfl
 have hl:(refV gs bufs).length=bufs.length:=by unfold refV;rw [List.length_zipWith,h.len];simp
 have hf:((refV gs bufs).map fun v=>[v]).flatten=refV gs bufs:=by
   generalize refV gs bufs=L
   induction L with
   | nil=>rfl
   | cons a l ih=>simp only [List.map_cons,List.flatten_cons,ih];rfl
 refine ⟨refV gs bufs,hl,?_,fun i row u hr hu=>?_⟩
 · rw [h.len,←hl] at ho
   have h2:w.ownsRow B 65 1 vB ((refV gs bufs).map fun v=>[v]).length ((refV gs bufs).map fun v=>[v]).flatten:=by rw [hf];simpa using ho
   exact (rows_own h2 (by intro r hr;obtain ⟨x,_,rfl⟩:=List.mem_map.1 hr;rfl)).mono fun k hk=>(own_lt h2 k hk).1
 · obtain ⟨g,hg⟩:∃ g,gs[i]? = some g:=⟨_,List.getElem?_eq_getElem (by rw [h.len];exact (List.getElem?_eq_some_iff.1 hr).1)⟩
   rw [show (refV gs bufs)[i]? = _ from zip_at hg hr] at hu
   cases hu
   have hb:=h.sep.get (i+4) (h.buf hr hg)
   exact (us_at hb).mono fun k hk=>by subst hk;exact lt_of_block hb
end
set_option maxHeartbeats 4000000 in
theorem run_r8 {bp n nb cb no co:Nat} {Ab Ao:Option Addr} (w:World) (Q:Exit→Act→World→Prop) (b0:w.cell? ⟨bp,0,none⟩=some (.int .i64 (n:Nat))) (b1:w.cell? ⟨bp,1,none⟩=some (.slice Ab nb cb)) (b2:w.cell? ⟨bp,2,none⟩=some (.slice Ao no co)) (hn:n≤65536)
   (k:∀ (lG lH lI lJ lK lL:Value) (w':World),RunAt w.heap.size w (fun _=>False) w' (w.heap.size+1) w.heap.size (n:Nat) (.slice Ab nb cb) (.slice Ao no co) (.slice none 0 0) [] (.slice none 0 0) (List.replicate n 0) [] []→Q .normal ⟨#[aB,aA,.pointer (some ⟨bp,0,none⟩),kW,aC,aD,kX,kY,kZ,.pointer (some ⟨w.heap.size+1,0,none⟩),lB,lC,aE,aF,aG,aH,aI,aJ,aK,aL,aM,aN,aO,aP,aQ,aR,aS,aT,aU,aV,aW,aX,aY,aZ,a8,bA,bB,bC,bD,bE,lG,lH,lI,lJ,lK,lL,bL,bM,bN,bO,bP,bQ,bS,bT,bU,bV,bW,bX,bY,bZ,b4,b6,cA,cC,cD,cE,cF,cG,cH,cI,cJ,cK,cL,cM,cN,cO,cP,cQ,cR,cT,cU,cV,cW,cX,cY,cZ,c8,dA,dB,dC,dD,dE,dF,dG,dH,dI,dJ,dK,dL,dM,dN,dO,dP,dQ,dR,dS,dT,dU,dV,dW,dX,dY,dZ,d7,eA,eB,eC,eD,eE,eF,eG,eH,eI,eJ,eK,eL,eM,eN,eO,eP,eQ,eR,eS,eT,eU,eV,eW,eX,eY,eZ,fA,fB,fC,fD,fE,fF,fG,fH,fI,fJ,fK,fL,fM,fN,fO,fP,fQ,fR,fS,fT,fU,fV,fW,fX,fY],[]⟩ w'):(partR Tryd.f18 8).wp Tryd.prog Q ⟨#[aB,aA,.pointer (some ⟨bp,0,none⟩),kW,aC,aD,kX,kY,kZ,lA,lB,lC,aE,aF,aG,aH,aI,aJ,aK,aL,aM,aN,aO,aP,aQ,aR,aS,aT,aU,aV,aW,aX,aY,aZ,a8,bA,bB,bC,bD,bE,bF,bG,bH,bI,bJ,bK,bL,bM,bN,bO,bP,bQ,bS,bT,bU,bV,bW,bX,bY,bZ,b4,b6,cA,cC,cD,cE,cF,cG,cH,cI,cJ,cK,cL,cM,cN,cO,cP,cQ,cR,cT,cU,cV,cW,cX,cY,cZ,c8,dA,dB,dC,dD,dE,dF,dG,dH,dI,dJ,dK,dL,dM,dN,dO,dP,dQ,dR,dS,dT,dU,dV,dW,dX,dY,dZ,d7,eA,eB,eC,eD,eE,eF,eG,eH,eI,eJ,eK,eL,eM,eN,eO,eP,eQ,eR,eS,eT,eU,eV,eW,eX,eY,eZ,fA,fB,fC,fD,fE,fF,fG,fH,fI,fJ,fK,fL,fM,fN,fO,fP,fQ,fR,fS,fT,fU,fV,fW,fX,fY],[]⟩ w:=by
 have HQ:=Lh k
 have hlb:=World.block_lt_of_cell? _ _ b0
 have HC:=Lh (And.intro b0 (And.intro b1 b2))
 obtain ⟨W1,hW1⟩:∃ q,q=w.drew.alloc (.cells (usV (List.replicate n 0)).toArray 45):=⟨_,rfl⟩
 have hmk:=make_us n hn w.drew
 rw [←hW1] at hmk
 have hz1:W1.heap.size=w.heap.size+1:=by rw [hW1];exact Array.size_push _
 have hbx:=box_run (n:Nat) (.slice Ab nb cb) (.slice Ao no co) w.heap.size n W1
 obtain ⟨W2,hW2⟩:∃ q,q=W1.alloc (.cells #[.int .i64 (n:Nat),.slice Ab nb cb,.slice Ao no co,.slice (some ⟨w.heap.size,0,none⟩) n n,.slice none 0 0,.slice none 0 0] 82):=⟨_,rfl⟩
 rw [←hW2,hz1] at hbx
 have HMK:=Lh hmk
 have HBX:=Lh hbx
 have hb1:Below w.heap.size w W1:=by rw [hW1];exact ((Below.refl _ _).drew.alloc (Nat.le_refl _) _)
 have hb2:Below w.heap.size w W2:=by rw [hW2];exact hb1.alloc (by omega) _
 have HR:Hid (RunAt w.heap.size w (fun _=>False) W2 (w.heap.size+1) w.heap.size (n:Nat) (.slice Ab nb cb) (.slice Ao no co) (.slice none 0 0) [] (.slice none 0 0) (List.replicate n 0) [] []):=Lh ⟨rfl,Nat.le_refl _,by
   have h1:=((((Sep.nil w (fun _=>False)).drew.rowNil w.heap.size 84 2).rowNil w.heap.size 65 1).box 45 (usV (List.replicate n 0))).cast hW1
   have h2:=(h1.box 82 (runRow (n:Nat) (.slice Ab nb cb) (.slice Ao no co) w.heap.size (.slice none 0 0) (.slice none 0 0) (List.replicate n 0))).cast (w':=W2) (by rw [hW2];unfold runRow;simp)
   rw [hz1] at h2
   exact h2⟩
 have HC1:=Lh (And.intro ((hb1.cell (p:=⟨bp,0,none⟩) hlb).trans b0) (And.intro ((hb1.cell (p:=⟨bp,1,none⟩) hlb).trans b1) ((hb1.cell (p:=⟨bp,2,none⟩) hlb).trans b2)))
 have HC2:=Lh (And.intro ((hb2.cell (p:=⟨bp,0,none⟩) hlb).trans b0) (And.intro ((hb2.cell (p:=⟨bp,1,none⟩) hlb).trans b1) ((hb2.cell (p:=⟨bp,2,none⟩) hlb).trans b2)))
 clear b0 b1 b2 hn k hW1 hmk hz1 hbx hW2 hb1 hb2 hlb
 conv=>arg 2;whnf
 (refine wp_region_lines (fun w_=>w_.cell? ⟨bp,0,none⟩=some (.int .i64 (n:Nat))∧w_.cell? ⟨bp,1,none⟩=some (.slice Ab nb cb)∧w_.cell? ⟨bp,2,none⟩=some (.slice Ao no co)) (by kernel_rfl) (by kernel_rfl) HC.out ?_)
 (try simp only [])
 repeat (first | (refine runL_no (by rfl) ?_;(try simp only [Act.put,List.setIfInBounds_toArray,List.set_cons_zero,List.set_cons_succ])) | (refine runL_val (v:=?_) (by rfl) ?_ ?_;rotate_left;(focus (intro w_ hw_;obtain ⟨f0_,f1_,f2_⟩:=hw_;go_simp;(try with_reducible rfl);done));(try simp only [Act.put,List.setIfInBounds_toArray,List.set_cons_zero,List.set_cons_succ])) | (refine runL_op (v:=.slice (some ⟨w.heap.size,0,none⟩) n n) (w1:=W1) (by rfl) (by rfl) (exec_mk rfl rfl rfl HMK.out) (.inr HC1.out) ?_;(try simp only [Act.put,List.setIfInBounds_toArray,List.set_cons_zero,List.set_cons_succ])) | (refine runL_op (v:=.pointer (some ⟨w.heap.size+1,0,none⟩)) (w1:=W2) (by rfl) (by rfl) (exec_box rfl rfl HBX.out) (.inr HC2.out) ?_;(try simp only [Act.put,List.setIfInBounds_toArray,List.set_cons_zero,List.set_cons_succ])))
 (refine runL_nil ?_)
 exact HQ.out _ _ _ _ _ _ _ HR.out
theorem padF_len (bs:List Bf) (rows:List (List Nat)):(padF bs rows).length=bs.length:=by unfold padF;simp
theorem copy_us {w:World} {F:Nat→Prop} {g sz xl ca:Nat} {Aa:Option Addr} {x zs:List Nat} (hg:w.heap[g]? = some (.cells (usV zs).toArray 45 (0,0))) (hz:zs.length=sz) (hU:UsAt w F (.slice Aa xl ca) x) (hle:xl≤sz) :
   ∃ w2,(Builtin.copy_ #[65,65] 3 #[.slice (some ⟨g,0,none⟩) sz sz,.slice Aa xl ca]).run Tryd.prog w=.ok (.int .i64 (xl:Nat)) w2∧w2.heap[g]? = some (.cells (usV (x++zs.drop xl)).toArray 45 (0,0))∧Below g w w2:=by
 have hxl:x.length=xl:=by obtain ⟨A,c,hv,_⟩:=rows_form hU;cases hv;simp
 have hmin:Nat.min xl sz=xl:=Nat.min_eq_left hle
 rcases Nat.eq_zero_or_pos xl with h0 | hpos
 · subst h0
   have hr:=run_copy_none (P:=Tryd.prog) w 65 65 3 45 (some ⟨g,0,none⟩) Aa sz sz 0 ca Tryd.underlying65 (by kernel_rfl) hmin
   refine ⟨w,hr,?_,Below.refl _ _⟩
   rw [List.eq_nil_of_length_eq_zero hxl]
   exact hg
 · obtain ⟨z0,hz0⟩:∃ z0,x[0]? = some z0:=⟨_,List.getElem?_eq_getElem (by omega)⟩
   obtain ⟨b,o,rfl,_,_⟩:=hU.at_ hz0
   have hr:=run_copy_row (P:=Tryd.prog) w 65 65 3 45 g 0 sz sz ⟨b,o,none⟩ xl ca (usV zs).toArray 45 (usV x) Tryd.underlying65 (by kernel_rfl) hg (by rw [hmin];simp [usV,hxl]) (fun j v hv=>by
     rw [sep_add]
     unfold usV at hv
     rw [List.getElem?_map] at hv
     cases hxj:x[j]? with
     | none=>rw [hxj] at hv;cases hv
     | some t =>
       rw [hxj] at hv
       cases hv
       obtain ⟨b',o',hA',_,hc'⟩:=hU.at_ hxj
       cases hA'
       exact hc') (by simp [usV,hxl,hz];omega) (fun v hv=>by obtain ⟨t,_,rfl⟩:=List.mem_map.1 hv;rfl)
   refine ⟨_,by simpa [usV,hxl,goInt] using hr,?_,below_setRow (Below.refl _ _) (Nat.le_refl _) _⟩
   rw [setRow_heap _ _ _ _ _ _ hg]
   simp [usV]
theorem pad_at {bs:List Bf} {rows:List (List Nat)} {k sz:Nat} {x:List Nat} {y:Bf} (hx:rows[k]? = some x) (hy:bs[k]? = some y) (hsz:y.size=sz):(padF bs rows).take (k+1)=(padF bs rows).take k++[x++List.replicate (sz - x.length) 0]:=by
 have hk:=(List.getElem?_eq_some_iff.1 hy).1
 have h1:(padF bs rows)[k]? = some (x++List.replicate (sz - x.length) 0):=by
   unfold padF
   rw [List.getElem?_map,List.getElem?_range hk]
   simp only [Option.map_some,List.getD_eq_getElem?_getD,hx,hy,Option.getD_some,hsz,Int.toNat_natCast]
 rw [List.take_add_one,h1];rfl
set_option maxHeartbeats 4000000 in
theorem run_l0 {w0:World} {Aa0 Ab:Option Addr} {ca0 nb cb bp bx gr n:Nat} {regs:Int} {vb vo:Value} {r:List Nat} {bs:List Bf} {rows:List (List Nat)} (w:World) (Q:Exit→Act→World→Prop) (h:RunAt w0.heap.size w0 (fun _=>False) w bx gr regs vb vo (.slice none 0 0) [] (.slice none 0 0) r [] []) (ha:RowsU w0 (fun k=>k < w0.heap.size) (.slice Aa0 n ca0) rows) (hbf:BufsAt w0 (fun k=>k < w0.heap.size) (.slice Ab nb cb) bs) (b1:w0.cell? ⟨bp,1,none⟩=some (.slice Ab nb cb)) (hbp:bp < w0.heap.size) (hn:bs.length=n) (h40:n≤40) (hs:∀ (k:Nat) (x:List Nat) (y:Bf),rows[k]? = some x→bs[k]? = some y→∃ sz:Nat,y.size=sz∧sz≤65536∧(x.length=sz∨x.length=0))
   (k1:∀ (gs:List Nat) (vB:Value),∀ (mN mO lM lN lO lP lQ lR lS lT lU lV lW lX lY lZ l5 l6 l7 l8 l9 mA mB mC mD mE mF mG mH mI mJ:Value) (w':World),RunAt w0.heap.size w0 (fun _=>False) w' bx gr regs vb vo vB gs (.slice none 0 0) r (padF bs rows) []→Q (.exit 0) ⟨#[aB,.slice Aa0 n ca0,.pointer (some ⟨bp,0,none⟩),kW,aC,aD,kX,kY,kZ,.pointer (some ⟨bx,0,none⟩),mN,mO,aE,aF,aG,aH,aI,aJ,aK,aL,aM,aN,aO,aP,aQ,aR,aS,aT,aU,aV,aW,aX,aY,aZ,a8,bA,bB,bC,bD,bE,bF,bG,bH,bI,bJ,bK,lM,lN,lO,lP,lQ,lR,lS,lT,lU,lV,lW,lX,lY,lZ,l5,l6,l7,l8,l9,mA,mB,mC,mD,mE,mF,mG,mH,mI,mJ,cO,cP,cQ,cR,cT,cU,cV,cW,cX,cY,cZ,c8,dA,dB,dC,dD,dE,dF,dG,dH,dI,dJ,dK,dL,dM,dN,dO,dP,dQ,dR,dS,dT,dU,dV,dW,dX,dY,dZ,d7,eA,eB,eC,eD,eE,eF,eG,eH,eI,eJ,eK,eL,eM,eN,eO,eP,eQ,eR,eS,eT,eU,eV,eW,eX,eY,eZ,fA,fB,fC,fD,fE,fF,fG,fH,fI,fJ,fK,fL,fM,fN,fO,fP,fQ,fR,fS,fT,fU,fV,fW,fX,fY],[]⟩ w'):(partL Tryd.f18 0).wp Tryd.prog Q ⟨#[aB,.slice Aa0 n ca0,.pointer (some ⟨bp,0,none⟩),kW,aC,aD,kX,kY,kZ,.pointer (some ⟨bx,0,none⟩),.int .i64 0,lC,aE,aF,aG,aH,aI,aJ,aK,aL,aM,aN,aO,aP,aQ,aR,aS,aT,aU,aV,aW,aX,aY,aZ,a8,bA,bB,bC,bD,bE,bF,bG,bH,bI,bJ,bK,bL,bM,bN,bO,bP,bQ,bS,bT,bU,bV,bW,bX,bY,bZ,b4,b6,cA,cC,cD,cE,cF,cG,cH,cI,cJ,cK,cL,cM,cN,cO,cP,cQ,cR,cT,cU,cV,cW,cX,cY,cZ,c8,dA,dB,dC,dD,dE,dF,dG,dH,dI,dJ,dK,dL,dM,dN,dO,dP,dQ,dR,dS,dT,dU,dV,dW,dX,dY,dZ,d7,eA,eB,eC,eD,eE,eF,eG,eH,eI,eJ,eK,eL,eM,eN,eO,eP,eQ,eR,eS,eT,eU,eV,eW,eX,eY,eZ,fA,fB,fC,fD,fE,fF,fG,fH,fI,fJ,fK,fL,fM,fN,fO,fP,fQ,fR,fS,fT,fU,fV,fW,fX,fY],[]⟩ w:=by
 have HR0:=Lh h
 have HA:=Lh ha
 have HBF:=Lh hbf
 have HK1:=Lh k1
 have HS:=Lh hs
 have hal:rows.length=n:=by obtain ⟨A,c,hv,_⟩:=ha.form;cases hv;rfl
 have hbl:bs.length=n:=hn
 have hnbn:nb=n:=by obtain ⟨A,c,hv,_⟩:=rows_form hbf;cases hv;simpa using hbl
 have HL:=Lh (And.intro hal hbl)
 have HP:=Lh (fun wr (hb:Below w0.heap.size w0 wr)=>(hb.cell (p:=⟨bp,1,none⟩) hbp).trans b1)
 obtain ⟨j0,hie,hy0,hy1,hy2⟩:=info_parts infoUs
 have hn6:n≤40:=h40
 clear h ha hbf k1 hs hal hbl b1 hbp hn h40
 conv=>arg 2;whnf
 go_wp2
 go_loopw [10] (fun j wr=>∃ k:Nat,k≤n∧j=.int .i64 k∧Hid (∃ gs vB,RunAt w0.heap.size w0 (fun _=>False) wr bx gr regs vb vo vB gs (.slice none 0 0) r ((padF bs rows).take k) [])) (fun j _=>n - (intOf j).toNat)
 case atStart=>exact ⟨0,by omega,rfl,Lh ⟨_,_,HR0.out⟩⟩
 case round =>
   obtain ⟨k,hk,rfl,HT⟩:=hrel
   by_cases hlt:k < n
   · obtain ⟨gs,vB,hR⟩:=HT.out
     obtain ⟨x,hx⟩:∃ x,rows[k]? = some x:=⟨_,List.getElem?_eq_getElem (by have:=HL.out.1;omega)⟩
     obtain ⟨y,hy⟩:∃ y,bs[k]? = some y:=⟨_,List.getElem?_eq_getElem (by have:=HL.out.2;omega)⟩
     obtain ⟨sz,hsz,hs6,hxl⟩:=HS.out k x y hx hy
     have hRB:=hR.below
     obtain ⟨ba,oa,Aa,ca,hAa,hFa,p0,hU⟩:=HA.out.at_ hx
     subst hAa
     obtain ⟨bb,ob,hAb,hFb,r0,_⟩:=HBF.out.at_ hy
     subst hAb
     have e1:=HP.out wr hRB
     have e2:=(hRB.cell (p:=⟨bb,ob+k*3,none⟩) hFb).trans r0
     rw [hsz] at e2
     have hmk:=make_us sz hs6 wr
     obtain ⟨W1,hW1⟩:∃ q,q=wr.alloc (.cells (usV (List.replicate sz 0)).toArray 45):=⟨_,rfl⟩
     rw [←hW1] at hmk
     have hb1:Below wr.heap.size wr W1:=by rw [hW1];exact (Below.refl _ _).alloc (Nat.le_refl _) _
     have hblk1:W1.heap[wr.heap.size]? = some (.cells (usV (List.replicate sz 0)).toArray 45 (0,0)):=by rw [hW1];exact heap_alloc_new wr _
     have hRB1:=(hR.next hb1).below
     have e3:=(hRB1.cell (p:=⟨ba,oa+k,none⟩) hFa).trans p0
     have HMK:=Lh hmk
     have HB1:=Lh hb1
     have HBK1:=Lh hblk1
     have HR:=Lh hR
     have HU:=Lh (show UsAt W1 (fun k=>k < w0.heap.size) (.slice Aa x.length ca) x from Rows.keep hU (SameOn.of_below hRB1 fun _ h=>h))
     have HX:=Lh (And.intro hx hy)
     have HXL:=Lh hxl
     have hpl:(x++List.replicate (sz - x.length) 0).length=sz:=by rw [List.length_append,List.length_replicate];omega
     have HPL:=Lh hpl
     clear hpl
     have HSZ:=Lh hsz
     obtain ⟨g,hgz⟩:∃ q,wr.heap.size=q:=⟨_,rfl⟩
     have HGZ:=Lh hgz
     rw [hgz] at hmk HMK HBK1
     obtain ⟨xl,hxq⟩:∃ q,x.length=q:=⟨_,rfl⟩
     rw [hxq] at e3 HU
     have HXQ:=Lh hxq
     have i0:(0:Int)≤(k:Int):=by omega
     have i1:(k:Int) < (n:Int):=by omega
     have i2:(k:Int) < (nb:Int):=by omega
     have q0:decide (k < n)=true:=decide_eq_true hlt
     obtain ⟨w2,hcp,hk2,hb2'⟩:=copy_us (sz:=sz) HBK1.out (by simp) HU.out (by have:=HXL.out;rw [hxq] at this;omega)
     have hb2:Below wr.heap.size wr w2:=HB1.out.trans (by rw [HGZ.out];exact hb2')
     have HB2:=Lh hb2
     have HK2:=Lh (show w2.heap[g]? = some (.cells (usV (x++List.replicate (sz - x.length) 0)).toArray 45 (0,0)) by
       rw [List.drop_replicate] at hk2
       rw [hxq];exact hk2)
     have hg1:g < W1.heap.size:=by rw [←hgz];exact lt_of_block hblk1
     have HG1:=Lh hg1
     have hgk:gs.length=k:=by rw [hR.len,List.length_take,padF_len];have:=HL.out.2;omega
     have ho:=(show wr.ownsRow w0.heap.size 65 1 vB gs.length (refV gs ((padF bs rows).take k)) from hR.sep.get 2 rfl)
     obtain ⟨A,c,rfl⟩:=own_form ho
     rw [hgk] at hR ho
     have HR:=Lh hR
     have HGK:=Lh hgk
     have HPAD:=Lh (pad_at hx hy hsz)
     clear hx hy hsz hxl p0 hU r0 hW1 hb1 hblk1 hRB1 hR hRB hFa hFb hs6 hgz hxq hg1 hmk hgk ho hb2 hk2 hb2'
     have hmk:=HMK.out
     have HR2:=Lh (HR.out.next HB2.out)
     have HO2:=Lh (show w2.ownsRow w0.heap.size 65 1 (.slice A k c) k (refV gs ((padF bs rows).take k)) by
       have h:=(show w2.ownsRow w0.heap.size 65 1 (.slice A k c) gs.length (refV gs ((padF bs rows).take k)) from HR2.out.sep.get 2 rfl)
       rw [HGK.out] at h;exact h)
     have HZ2:=Lh (show w0.heap.size≤w2.heap.size from HR2.out.size)
     have e4:w2.cell? ⟨bx,4,none⟩=some (.slice A k c):=HR2.out.box 4 rfl
     have e4':(w2.alloc (.cells #[.slice (some ⟨g,0,none⟩) sz sz] 65)).cell? ⟨bx,4,none⟩=some (.slice A k c):=(HR2.out.next ((Below.refl _ _).alloc (Nat.le_refl _) _)).box 4 rfl
     go_wp2_with (first
       | (at_builtin;refine wpList_append_own_at _ rfl _ _ 26 rfl w0.heap.size 65 j0 (.slice none 0 0) 1 24 Tryd.underlying26 hie hy0 hy1 hy2 rfl (by decide) (.slice A k c) k (refV gs ((padF bs rows).take k)) rfl (HO2.out.alloc _) ⟨w2.heap.size,0,none⟩ 1 1 [.slice (some ⟨g,0,none⟩) sz sz] rfl (by simp) (World.news_of_block (cs:=#[.slice (some ⟨g,0,none⟩) sz sz]) (t:=65) (fr:=(0,0)) (heap_alloc_new w2 _)) (by simp [Value.oneCell']) (by unfold maxLen;omega) (by omega) (by have:=HZ2.out;simp;omega) ?_;intro pP w6 hown6 hg6 _ hwh6;obtain ⟨A6,c6,rfl⟩:=own_form hown6;have HOWN6:=Lh hown6;have HG6:=Lh hg6;have HWH6:=Lh hwh6;clear hown6 hg6 hwh6;obtain ⟨s2,s3⟩:=row_box (HR2.out.next ((Below.refl _ _).alloc (Nat.le_refl _) (.cells #[.slice (some ⟨g,0,none⟩) sz sz] 65))) HG6.out))
     go_roundw
     case rel =>
       refine ⟨k+1,by omega,by go_num,Lh ⟨gs++[g],.slice A6 (k+1) c6,?_⟩⟩
       have hrow:=HR.out.row (w:=w2.alloc (.cells #[.slice (some ⟨g,0,none⟩) sz sz] 65)) (w':=w6) (g:=g) (row:=x++List.replicate (sz - x.length) 0) (v':=.slice A6 (k+1) c6) (HB2.out.alloc (HB2.out.size) _) ((Below.heap_alloc w2 _ _ (lt_of_block HK2.out)).trans HK2.out) (by rw [HGZ.out];exact Nat.le_refl _) (by
         have h:=HOWN6.out
         rw [HGK.out]
         have h2:=HPL.out
         rw [h2]
         exact h) HG6.out (fun q hq=>by
           rcases HWH6.out with h | h
           · rw [h] at hq;exact .inl hq
           · rw [h] at hq;exact .inr (by have:=Option.some.inj hq;simp at this ⊢;omega))
       rw [HPAD.out]
       exact hrow
     case measure=>simp [intOf];omega
   · have hkn:k=n:=by omega
     have q0:decide (k < n)=false:=decide_eq_false hlt
     obtain ⟨gs,vB,hR⟩:=HT.out
     have HR:=Lh (show RunAt w0.heap.size w0 (fun _=>False) wr bx gr regs vb vo vB gs (.slice none 0 0) r (padF bs rows) [] by
       have h:=hR
       rw [List.take_of_length_le (by rw [padF_len];have:=HL.out.2;omega)] at h
       exact h)
     clear hR
     go_wp2
     exact HK1.out gs vB _ _ _ _ _ _ _ _ _ _ _ _ _ _ _ _ _ _ _ _ _ _ _ _ _ _ _ _ _ _ _ _ HR.out
end Go.Proofs.YtppoiahhaclleaaDoor
