/- Part 5 of a claim; what it proves stands in its last text. -/
import Derived.Test.YtppoiahhaclleaaDoorAr4
namespace Go.Proofs.YtppoiahhaclleaaDoor
open Go.RowKit
set_option maxRecDepth 100000
variable {aA kV kW aC aD kX kY kZ lA lB lC aE aF aG aH aI aJ aK aL aM aN aO aP aQ aR aS aT aU aV aW aX aY aZ a8 bA bB bC bD bE bF bG bH bI bJ bK bL bM bN bO bP bQ bS bT bU bV bW bX bY bZ b4 b6 cA cC cD cE cF cG cH cI cJ cK cL cM cN cO cP cQ cR cT cU cV cW cX cY cZ c8 dA dB dC dD dE dF dG dH dI dJ dK dL dM dN dO dP dQ dR dS dT dU dV dW dX dY dZ d7 eA eB eC eD eE eF : Value}
def OpAt (w:World) (bo:Nat) (o:LOp):Prop:=w.heap[bo]? = some (.cells (opRow o).toArray 47 (0,0))
theorem chk_head {regs:Int} {vb vo vl:Value} {m:List Bool}:(chkRow regs vb vo m vl)[0]? = some (.int .i64 regs)∧(chkRow regs vb vo m vl)[1]? = some vb∧(chkRow regs vb vo m vl)[2]? = some vo:=⟨rfl,rfl,rfl⟩
theorem runL_append1 {ops:Array Oper} {Q:Act→World→Prop} {S:World→Prop} {o:Oper} {l:List Oper} {a:Act} {w:World} (hT:isT o=true) (hw:Region.wanted o (yielded ops a.tmps)=true) {base n:Nat} {v:Value} {xs:List Int} {p:Int} {g:Nat}
   (s x:Operand) (ho:o.op=.call { callee:=.builtin .append,args:=#[s,x],argTypes:=#[35,35] }) (hs:a.eval s=v) (hn:xs.length=n) (hown:w.ownsRow base 3 1 v n (intV xs)) (hx:a.eval x=.slice (some ⟨g,0,none⟩) 1 1)
   (hg:w.heap[g]? = some (.cells (intV [p]).toArray 3 (0,0))) (h63:n≤1000000000) (hbase:base≤w.heap.size)
   (k:∀ v' w',w'.ownsRow base 3 1 v' (n+1) (intV (xs++[p]))→w.grownBy w' v.ownBlock→(v'.ownBlock=v.ownBlock∨v'.ownBlock=some w.heap.size)→S w'∧runL Tryd.prog ops S Q l (a.put o.dst v') w'):runL Tryd.prog ops S Q (o :: l) a w:=by
 obtain ⟨v',w',h1,h2,h3,h4⟩:=exec_append1 s x ho hs hn hown hx hg h63 hbase
 obtain ⟨k1,k2⟩:=k v' w' h2 h3 h4
 exact runL_op hT hw h1 (.inr k1) k2
theorem own_where {w W1:World} (h:Below w.heap.size w W1) {v v':Value} (hb:v'.ownBlock=v.ownBlock∨v'.ownBlock=some W1.heap.size):v'.ownBlock=v.ownBlock∨∃ g,v'.ownBlock=some g∧w.heap.size≤g:=by
 rcases hb with hb | hb
 · exact .inl hb
 · exact .inr ⟨_,hb,h.size⟩
theorem own_ne {w:World} {v v':Value} {b:Nat} (hb:v'.ownBlock=v.ownBlock∨∃ g,v'.ownBlock=some g∧w.heap.size≤g) (hne:v.ownBlock≠some b) (hlt:b < w.heap.size):v'.ownBlock≠some b:=by
 intro e
 rcases hb with hb | ⟨g,hb,hg⟩
 · exact hne (hb▸e)
 · rw [hb] at e;cases e;omega
theorem chk_next {w w':World} {b:Nat} {regs:Int} {vb vo vl:Value} {m:List Bool} (h:ChkAt w b regs vb vo m vl) (hb:Below w.heap.size w w'):ChkAt w' b regs vb vo m vl:=(hb.block b (lt_of_block h)).trans h
theorem op_next {w w':World} {bo:Nat} {o:LOp} (h:OpAt w bo o) (hb:Below w.heap.size w w'):OpAt w' bo o:=(hb.block bo (lt_of_block h)).trans h
set_option maxHeartbeats 4000000 in
theorem op_r1 {p:LP} {Ab Ao:Option Addr} {nb cb no co:Nat} {o:LOp} {b bo:Nat} {m:List Bool} {vl:Value} (w:World) (Q:Exit→Act→World→Prop) (hC:ChkAt w b p.regs (.slice Ab nb cb) (.slice Ao no co) m vl) (hO:OpAt w bo o) (hp:ProgAt w (fun k=>k < w.heap.size) [.int .i64 p.regs,.slice Ab nb cb,.slice Ao no co] p) (hs:∀ b∈p.bufs,0≤b.size)
   (k:∀ (mK mL mM mN mO mP:Value) (w':World),Below w.heap.size w w'→Q .normal ⟨#[.pointer (some ⟨b,0,none⟩),aA,kV,.pointer (some ⟨bo,0,none⟩),aC,aD,kX,mK,mL,mM,mN,mO,mP,.bool (!fieldsF p o),aG,aH,aI,aJ,aK,aL,aM,aN,aO,aP,aQ,aR,aS,aT,aU,aV,aW,aX,aY,aZ,a8,bA,bB,bC,bD,bE,bF,bG,bH,bI,bJ,bK,bL,bM,bN,bO,bP,bQ,bS,bT,bU,bV,bW,bX,bY,bZ,b4,b6,cA,cC,cD,cE,cF,cG,cH,cI,cJ,cK,cL,cM,cN,cO,cP,cQ,cR,cT,cU,cV,cW,cX,cY,cZ,c8,dA,dB,dC,dD,dE,dF,dG,dH,dI,dJ,dK,dL,dM,dN,dO,dP,dQ,dR,dS,dT,dU,dV,dW,dX,dY,dZ,d7,eA,eB,eC,eD,eE,eF],[]⟩ w'):(partR Tryd.f49 1).wp Tryd.prog Q ⟨#[.pointer (some ⟨b,0,none⟩),aA,kV,.pointer (some ⟨bo,0,none⟩),aC,aD,kX,kY,kZ,lA,lB,lC,aE,aF,aG,aH,aI,aJ,aK,aL,aM,aN,aO,aP,aQ,aR,aS,aT,aU,aV,aW,aX,aY,aZ,a8,bA,bB,bC,bD,bE,bF,bG,bH,bI,bJ,bK,bL,bM,bN,bO,bP,bQ,bS,bT,bU,bV,bW,bX,bY,bZ,b4,b6,cA,cC,cD,cE,cF,cG,cH,cI,cJ,cK,cL,cM,cN,cO,cP,cQ,cR,cT,cU,cV,cW,cX,cY,cZ,c8,dA,dB,dC,dD,dE,dF,dG,dH,dI,dJ,dK,dL,dM,dN,dO,dP,dQ,dR,dS,dT,dU,dV,dW,dX,dY,dZ,d7,eA,eB,eC,eD,eE,eF],[]⟩ w:=by
 have HF:Calls Tryd.prog 66 #[.agg #[.int .i64 p.regs,.slice Ab nb cb,.slice Ao no co],.agg #[.int .i64 o.kind,.int .i64 o.d,.int .i64 o.e,.int .i64 o.a,.int .i64 o.b,.int .i64 o.c,.int .i64 o.buf,.int .u64 o.imm]] w.drew fun e w'=>e=.returned (.bool (fieldsF p o))∧Below w.heap.size w.drew w':=fields_any p Ab Ao nb cb no co o w.drew (prog_next hp (Below.refl _ _).drew) hs
 have HF:=Lh HF
 have HC:=Lh hC
 have HO:=Lh hO
 have HK:=Lh k
 clear hC hO hp hs k
 conv=>arg 2;whnf
 (refine wp_region_lines (fun w_=>ChkAt w_ b p.regs (.slice Ab nb cb) (.slice Ao no co) m vl∧OpAt w_ bo o) (by kernel_rfl) (by kernel_rfl) ⟨HC.out,HO.out⟩ ?_)
 (try simp only [])
 repeat (first | (refine runL_no (by rfl) ?_;(try simp only [Act.put,List.setIfInBounds_toArray,List.set_cons_zero,List.set_cons_succ])) | (refine runL_val (v:=?_) (by rfl) ?_ ?_;rotate_left;(focus (intro w_ hw_;have c0_:=cell_row hw_.1 chk_head.1;have c1_:=cell_row hw_.1 chk_head.2.1;have c2_:=cell_row hw_.1 chk_head.2.2;have o0_:=cell_row hw_.2 (k:=0) (v:=.int .i64 o.kind) rfl;have o1_:=cell_row hw_.2 (k:=1) (v:=.int .i64 o.d) rfl;have o2_:=cell_row hw_.2 (k:=2) (v:=.int .i64 o.e) rfl;have o3_:=cell_row hw_.2 (k:=3) (v:=.int .i64 o.a) rfl;have o4_:=cell_row hw_.2 (k:=4) (v:=.int .i64 o.b) rfl;have o5_:=cell_row hw_.2 (k:=5) (v:=.int .i64 o.c) rfl;have o6_:=cell_row hw_.2 (k:=6) (v:=.int .i64 o.buf) rfl;have o7_:=cell_row hw_.2 (k:=7) (v:=.int .u64 o.imm) rfl;go_simp;(try with_reducible rfl);done));(try simp only [Act.put,List.setIfInBounds_toArray,List.set_cons_zero,List.set_cons_succ])) | (refine runL_call (f:=?_) (args:=?_) (w1:=?_) (by rfl) (by rfl) ?_ ?_;rotate_left 3;(focus (go_simp;refine ⟨⟨?_,?_⟩,?_⟩ <;> with_reducible rfl));with_reducible refine (HF.out).mono ?_;rintro e w1 ⟨rfl,hb⟩;have HB:=Lh ((Below.refl w.heap.size w).drew.trans hb);clear hb;refine ⟨_,rfl,.inr ⟨chk_next HC.out HB.out,op_next HO.out HB.out⟩,?_⟩;(try simp only [Act.put,List.setIfInBounds_toArray,List.set_cons_zero,List.set_cons_succ])))
 (refine runL_nil ?_)
 exact HK.out _ _ _ _ _ _ _ HB.out
set_option maxHeartbeats 4000000 in
theorem op_r7 {p:LP} {Ab Ao:Option Addr} {nb cb no co:Nat} {b:Nat} {m:List Bool} {A:Option Addr} {n c q:Nat} {loops:List Int} {x:Int} {G:Nat→Prop} (w:World) (Q:Exit→Act→World→Prop) (hC:ChkAt w b p.regs (.slice Ab nb cb) (.slice Ao no co) m (.slice A n c)) (hm:m.length=64) (hl:NumsAt w G (.slice A n c) loops) (hG:∀ k,G k→k < w.heap.size) (hx:loops[q]? = some x) (hx64:x < 64) (hqn:q < n) (hn:n≤1000000000)
   (k:∀ (mQ mR mS mT mU mV mW mX lD lE lF lG:Value) (w':World),Chg (fun k=>k=b) w w'→ChkAt w' b p.regs (.slice Ab nb cb) (.slice Ao no co) (putL [x] m false) (.slice A n c)→Q .normal ⟨#[.pointer (some ⟨b,0,none⟩),aA,kV,kW,aC,.int .i64 (q:Nat),kX,kY,kZ,lA,lB,lC,aE,aF,aG,aH,aI,aJ,aK,aL,aM,aN,aO,aP,aQ,aR,aS,aT,aU,mQ,mR,mS,mT,mU,mV,mW,mX,lD,lE,lF,lG,bG,bH,bI,bJ,bK,bL,bM,bN,bO,bP,bQ,bS,bT,bU,bV,bW,bX,bY,bZ,b4,b6,cA,cC,cD,cE,cF,cG,cH,cI,cJ,cK,cL,cM,cN,cO,cP,cQ,cR,cT,cU,cV,cW,cX,cY,cZ,c8,dA,dB,dC,dD,dE,dF,dG,dH,dI,dJ,dK,dL,dM,dN,dO,dP,dQ,dR,dS,dT,dU,dV,dW,dX,dY,dZ,d7,eA,eB,eC,eD,eE,eF],[]⟩ w'):(partR Tryd.f49 7).wp Tryd.prog Q ⟨#[.pointer (some ⟨b,0,none⟩),aA,kV,kW,aC,.int .i64 (q:Nat),kX,kY,kZ,lA,lB,lC,aE,aF,aG,aH,aI,aJ,aK,aL,aM,aN,aO,aP,aQ,aR,aS,aT,aU,aV,aW,aX,aY,aZ,a8,bA,bB,bC,bD,bE,bF,bG,bH,bI,bJ,bK,bL,bM,bN,bO,bP,bQ,bS,bT,bU,bV,bW,bX,bY,bZ,b4,b6,cA,cC,cD,cE,cF,cG,cH,cI,cJ,cK,cL,cM,cN,cO,cP,cQ,cR,cT,cU,cV,cW,cX,cY,cZ,c8,dA,dB,dC,dD,dE,dF,dG,dH,dI,dJ,dK,dL,dM,dN,dO,dP,dQ,dR,dS,dT,dU,dV,dW,dX,dY,dZ,d7,eA,eB,eC,eD,eE,eF],[]⟩ w:=by
 obtain ⟨g,off,rfl,hGg,hc⟩:=hl.at_ hx
 have HG:=Lh (hG g hGg)
 have HC:=Lh hC
 have HM:=Lh hm
 have HK:=Lh k
 have HX:=Lh hc
 have q0:(0:Int)≤(q:Int):=by omega
 have q1:(q:Int) < (n:Int):=by omega
 have q2:IntKind.i64.wrap (q:Int)=q:=by simp [IntKind.wrap,IntKind.bits,IntKind.signed];omega
 obtain ⟨W1,hW1⟩:∃ W,W=(w.alloc (.cells (intV [x]).toArray 3)).drew:=⟨_,rfl⟩
 have hB1:Below w.heap.size w W1:=by rw [hW1];exact ((Below.refl _ _).alloc (Nat.le_refl _) _).drew
 have hz1:W1.heap.size=w.heap.size+1:=by rw [hW1];simp
 have hN1:NumsAt W1 (fun k=>k=w.heap.size) (.slice (some ⟨w.heap.size,0,none⟩) 1 1) [x]:=nums_blk (g:=w.heap.size) (l:=[x]) (t:=3) (by rw [hW1];exact heap_alloc_new w _)
 have HP:=Lh (put_any b false (.slice (some ⟨w.heap.size,0,none⟩) 1 1) [x] m p.regs (.slice Ab nb cb) (.slice Ao no co) (.slice (some ⟨g,off,none⟩) n c) W1 _ hm (chk_next hC hB1) hN1 (fun k hk=>⟨by omega,by have:=lt_of_block hC;omega⟩) (by simpa using hx64) (by simp))
 have HB1:=Lh hB1
 have HW1:=Lh hW1
 clear hC hm hl hG hx hx64 hqn k hc hB1 hz1 hN1 hW1 hGg
 conv=>arg 2;whnf
 (refine wp_region_lines (fun w_=>ChkAt w_ b p.regs (.slice Ab nb cb) (.slice Ao no co) m (.slice (some ⟨g,off,none⟩) n c)∧w_.cell? ⟨g,off+q,none⟩=some (.int .i64 x)) (by kernel_rfl) (by kernel_rfl) ⟨HC.out,HX.out⟩ ?_)
 (try simp only [])
 repeat (first | (refine runL_no (by rfl) ?_;(try simp only [Act.put,List.setIfInBounds_toArray,List.set_cons_zero,List.set_cons_succ])) | (refine runL_val (v:=?_) (by rfl) ?_ ?_;rotate_left;(focus (intro w_ hw_;have k67_:=cell_row hw_.1 (chk_loops HM.out);have kx_:=hw_.2;go_simp;(try with_reducible rfl);done));(try simp only [Act.put,List.setIfInBounds_toArray,List.set_cons_zero,List.set_cons_succ])) | (refine runL_call (f:=?_) (args:=?_) (w1:=?_) (by rfl) (by rfl) ?_ ?_;rotate_left 3;(focus (go_simp;refine ⟨⟨?_,?_⟩,?_⟩ <;> with_reducible rfl));with_reducible refine (HP.out).mono ?_;rintro e w1 ⟨rfl,hch,hca⟩;have HCH:=Lh hch;have HCA:=Lh hca;clear hch hca;refine ⟨_,rfl,.inl ⟨rfl,by kernel_rfl⟩,?_⟩;(try simp only [Act.put,List.setIfInBounds_toArray,List.set_cons_zero,List.set_cons_succ])) | (refine runL_op (v:=.slice (some ⟨w.heap.size,0,none⟩) 1 1) (w1:=W1) (by rfl) (by rfl) (by rw [HW1.out];exact exec_int1 _ rfl rfl) (.inr (by exact ⟨chk_next HC.out HB1.out,(HB1.out.cell (p:=⟨g,off+q,none⟩) HG.out).trans HX.out⟩)) ?_;(try simp only [Act.put,List.setIfInBounds_toArray,List.set_cons_zero,List.set_cons_succ])))
 (refine runL_nil ?_)
 exact HK.out _ _ _ _ _ _ _ _ _ _ _ _ _ ((Chg.of_below HB1.out).trans' HCH.out (fun _ _ h=>h)) HCA.out
set_option maxHeartbeats 4000000 in
theorem op_r11 {p:LP} {Ab Ao:Option Addr} {nb cb no co:Nat} {o:LOp} {b bo:Nat} {m:List Bool} {vl:Value} {loops:List Int} {lp:Bool} {G:Nat→Prop} (w:World) (Q:Exit→Act→World→Prop) (hC:ChkAt w b p.regs (.slice Ab nb cb) (.slice Ao no co) m vl) (hO:OpAt w bo o) (hm:m.length=64) (hl:NumsAt w G vl loops) (hn:loops.length≤9223372036854775807) (hmd:lp=true→∃ q:Nat,o.d=q∧q < m.length)
   (k:∀ (lU lV lW lX lY lZ l5 l6 l7 l8 l9 mA mB mC mD mE mF mG mH mI mJ mY:Value) (w':World),Below w.heap.size w w'→Q .normal ⟨#[.pointer (some ⟨b,0,none⟩),aA,kV,.pointer (some ⟨bo,0,none⟩),aC,aD,.bool lp,kY,kZ,lA,lB,lC,aE,aF,aG,aH,aI,aJ,aK,aL,aM,aN,aO,aP,aQ,aR,aS,aT,aU,aV,aW,aX,aY,aZ,a8,bA,bB,bC,bD,bE,bF,bG,bH,bI,bJ,bK,bL,bM,bN,bO,bP,bQ,bS,.bool (inF loops o.d || (inF loops o.e || (lp && madeF m o.d))),lU,lV,lW,lX,lY,lZ,l5,l6,l7,l8,l9,mA,mB,mC,mD,mE,mF,mG,mH,mI,mJ,mY,cP,cQ,cR,cT,cU,cV,cW,cX,cY,cZ,c8,dA,dB,dC,dD,dE,dF,dG,dH,dI,dJ,dK,dL,dM,dN,dO,dP,dQ,dR,dS,dT,dU,dV,dW,dX,dY,dZ,d7,eA,eB,eC,eD,eE,eF],[]⟩ w'):(partR Tryd.f49 11).wp Tryd.prog Q ⟨#[.pointer (some ⟨b,0,none⟩),aA,kV,.pointer (some ⟨bo,0,none⟩),aC,aD,.bool lp,kY,kZ,lA,lB,lC,aE,aF,aG,aH,aI,aJ,aK,aL,aM,aN,aO,aP,aQ,aR,aS,aT,aU,aV,aW,aX,aY,aZ,a8,bA,bB,bC,bD,bE,bF,bG,bH,bI,bJ,bK,bL,bM,bN,bO,bP,bQ,bS,bT,bU,bV,bW,bX,bY,bZ,b4,b6,cA,cC,cD,cE,cF,cG,cH,cI,cJ,cK,cL,cM,cN,cO,cP,cQ,cR,cT,cU,cV,cW,cX,cY,cZ,c8,dA,dB,dC,dD,dE,dF,dG,dH,dI,dJ,dK,dL,dM,dN,dO,dP,dQ,dR,dS,dT,dU,dV,dW,dX,dY,dZ,d7,eA,eB,eC,eD,eE,eF],[]⟩ w:=by
 have HC:=Lh hC
 have HO:=Lh hO
 have HM:=Lh hm
 have HIN:=Lh (fun r=>in_any b r loops m p.regs (.slice Ab nb cb) (.slice Ao no co) vl w.drew _ hm hC hl hn)
 have HMD:=Lh hmd
 have HK:=Lh k
 clear hC hO hm hl hn hmd k
 obtain ⟨x1,hx1⟩:∃ x,inF loops o.d=x:=⟨_,rfl⟩
 obtain ⟨x2,hx2⟩:∃ x,inF loops o.e=x:=⟨_,rfl⟩
 obtain ⟨md,hmd⟩:∃ x,madeF m o.d=x:=⟨_,rfl⟩
 rw [hx1,hx2,hmd] at HK
 have X1:=Lh hx1
 have X2:=Lh hx2
 have MD:=Lh hmd
 clear hx1 hx2 hmd
 have HI1:=HIN.out o.d
 have HI2:=HIN.out o.e
 rw [X1.out] at HI1
 rw [X2.out] at HI2
 have HI1:=Lh HI1
 have HI2:=Lh HI2
 conv=>arg 2;whnf
 cases x1
 · cases x2
   · cases lp
     · skip
       (refine wp_region_lines (fun w_=>ChkAt w_ b p.regs (.slice Ab nb cb) (.slice Ao no co) m vl∧OpAt w_ bo o) (by kernel_rfl) (by kernel_rfl) ⟨HC.out,HO.out⟩ ?_)
       (try simp only [])
       repeat (first | (refine runL_no (by rfl) ?_;(try simp only [Act.put,List.setIfInBounds_toArray,List.set_cons_zero,List.set_cons_succ])) | (refine runL_val (v:=?_) (by rfl) ?_ ?_;rotate_left;(focus (intro w_ hw_;have k1_:=cell_row hw_.2 (k:=1) (v:=.int .i64 o.d) rfl;have k2_:=cell_row hw_.2 (k:=2) (v:=.int .i64 o.e) rfl;go_simp;(try with_reducible rfl);done));(try simp only [Act.put,List.setIfInBounds_toArray,List.set_cons_zero,List.set_cons_succ])) | (refine runL_call (f:=?_) (args:=?_) (w1:=?_) (by rfl) (by rfl) ?_ ?_;rotate_left 3;(focus (go_simp;refine ⟨⟨?_,?_⟩,?_⟩ <;> with_reducible rfl));(first | with_reducible refine (HI1.out).mono ?_ | with_reducible refine (HI2.out).mono ?_);rintro e w1 ⟨rfl,rfl⟩;refine ⟨_,rfl,.inr (by exact ⟨HC.out,HO.out⟩),?_⟩;(try simp only [Act.put,List.setIfInBounds_toArray,List.set_cons_zero,List.set_cons_succ])))
       (refine runL_nil ?_)
       exact HK.out _ _ _ _ _ _ _ _ _ _ _ _ _ _ _ _ _ _ _ _ _ _ _ (Below.refl _ _).drew
     · obtain ⟨q,hq,hmq⟩:=HMD.out rfl
       have hmx:m[q]? = some md:=by
         rw [←MD.out]
         unfold madeF
         rw [hq,Int.toNat_natCast,List.getD_eq_getElem?_getD,List.getElem?_eq_getElem hmq]
         rfl
       have HMX:=Lh hmx
       have q0:(0:Int)≤(q:Int):=by omega
       have q1:(q:Int) < 64:=by have:=HM.out;omega
       have q2:IntKind.i64.wrap (q:Int)=q:=by simp [IntKind.wrap,IntKind.bits,IntKind.signed];omega
       have HQ:=Lh hq
       clear hmx hq hmq
       skip
       (refine wp_region_lines (fun w_=>ChkAt w_ b p.regs (.slice Ab nb cb) (.slice Ao no co) m vl∧OpAt w_ bo o) (by kernel_rfl) (by kernel_rfl) ⟨HC.out,HO.out⟩ ?_)
       (try simp only [])
       repeat (first | (refine runL_no (by rfl) ?_;(try simp only [Act.put,List.setIfInBounds_toArray,List.set_cons_zero,List.set_cons_succ])) | (refine runL_val (v:=?_) (by rfl) ?_ ?_;rotate_left;(focus (intro w_ hw_;have k1_:=cell_row hw_.2 (k:=1) (v:=.int .i64 o.d) rfl;have k2_:=cell_row hw_.2 (k:=2) (v:=.int .i64 o.e) rfl;rw [HQ.out] at k1_;have k5_:=cell_row hw_.1 (chk_made HMX.out);go_simp;(try with_reducible rfl);done));(try simp only [Act.put,List.setIfInBounds_toArray,List.set_cons_zero,List.set_cons_succ])) | (refine runL_call (f:=?_) (args:=?_) (w1:=?_) (by rfl) (by rfl) ?_ ?_;rotate_left 3;(focus (go_simp;refine ⟨⟨?_,?_⟩,?_⟩ <;> with_reducible rfl));(first | rw [←HQ.out];with_reducible refine (HI1.out).mono ?_ | with_reducible refine (HI2.out).mono ?_);rintro e w1 ⟨rfl,rfl⟩;refine ⟨_,rfl,.inr (by exact ⟨HC.out,HO.out⟩),?_⟩;(try simp only [Act.put,List.setIfInBounds_toArray,List.set_cons_zero,List.set_cons_succ])))
       (refine runL_nil ?_)
       exact HK.out _ _ _ _ _ _ _ _ _ _ _ _ _ _ _ _ _ _ _ _ _ _ _ (Below.refl _ _).drew
   · skip
     (refine wp_region_lines (fun w_=>ChkAt w_ b p.regs (.slice Ab nb cb) (.slice Ao no co) m vl∧OpAt w_ bo o) (by kernel_rfl) (by kernel_rfl) ⟨HC.out,HO.out⟩ ?_)
     (try simp only [])
     repeat (first | (refine runL_no (by rfl) ?_;(try simp only [Act.put,List.setIfInBounds_toArray,List.set_cons_zero,List.set_cons_succ])) | (refine runL_val (v:=?_) (by rfl) ?_ ?_;rotate_left;(focus (intro w_ hw_;have k1_:=cell_row hw_.2 (k:=1) (v:=.int .i64 o.d) rfl;have k2_:=cell_row hw_.2 (k:=2) (v:=.int .i64 o.e) rfl;go_simp;(try with_reducible rfl);done));(try simp only [Act.put,List.setIfInBounds_toArray,List.set_cons_zero,List.set_cons_succ])) | (refine runL_call (f:=?_) (args:=?_) (w1:=?_) (by rfl) (by rfl) ?_ ?_;rotate_left 3;(focus (go_simp;refine ⟨⟨?_,?_⟩,?_⟩ <;> with_reducible rfl));(first | with_reducible refine (HI1.out).mono ?_ | with_reducible refine (HI2.out).mono ?_);rintro e w1 ⟨rfl,rfl⟩;refine ⟨_,rfl,.inr (by exact ⟨HC.out,HO.out⟩),?_⟩;(try simp only [Act.put,List.setIfInBounds_toArray,List.set_cons_zero,List.set_cons_succ])))
     (refine runL_nil ?_)
     exact HK.out _ _ _ _ _ _ _ _ _ _ _ _ _ _ _ _ _ _ _ _ _ _ _ (Below.refl _ _).drew
 · skip
   (refine wp_region_lines (fun w_=>ChkAt w_ b p.regs (.slice Ab nb cb) (.slice Ao no co) m vl∧OpAt w_ bo o) (by kernel_rfl) (by kernel_rfl) ⟨HC.out,HO.out⟩ ?_)
   (try simp only [])
   repeat (first | (refine runL_no (by rfl) ?_;(try simp only [Act.put,List.setIfInBounds_toArray,List.set_cons_zero,List.set_cons_succ])) | (refine runL_val (v:=?_) (by rfl) ?_ ?_;rotate_left;(focus (intro w_ hw_;have k1_:=cell_row hw_.2 (k:=1) (v:=.int .i64 o.d) rfl;have k2_:=cell_row hw_.2 (k:=2) (v:=.int .i64 o.e) rfl;go_simp;(try with_reducible rfl);done));(try simp only [Act.put,List.setIfInBounds_toArray,List.set_cons_zero,List.set_cons_succ])) | (refine runL_call (f:=?_) (args:=?_) (w1:=?_) (by rfl) (by rfl) ?_ ?_;rotate_left 3;(focus (go_simp;refine ⟨⟨?_,?_⟩,?_⟩ <;> with_reducible rfl));(first | with_reducible refine (HI1.out).mono ?_ | with_reducible refine (HI2.out).mono ?_);rintro e w1 ⟨rfl,rfl⟩;refine ⟨_,rfl,.inr (by exact ⟨HC.out,HO.out⟩),?_⟩;(try simp only [Act.put,List.setIfInBounds_toArray,List.set_cons_zero,List.set_cons_succ])))
   (refine runL_nil ?_)
   exact HK.out _ _ _ _ _ _ _ _ _ _ _ _ _ _ _ _ _ _ _ _ _ _ _ (Below.refl _ _).drew
set_option maxHeartbeats 4000000 in
theorem op_r15 {p:LP} {Ab Ao:Option Addr} {nb cb no co:Nat} {o:LOp} {b bo:Nat} {m:List Bool} {vl:Value} (w:World) (Q:Exit→Act→World→Prop) (hC:ChkAt w b p.regs (.slice Ab nb cb) (.slice Ao no co) m vl) (hO:OpAt w bo o) (hm:m.length=64) (hr:∀ r∈[o.a,o.b,o.c],r < 64)
   (k:∀ (jA jB jC jD jE jF jG jH jI jJ jK jL:Value) (w':World),Below w.heap.size w w'→Q .normal ⟨#[.pointer (some ⟨b,0,none⟩),aA,kV,.pointer (some ⟨bo,0,none⟩),aC,aD,kX,kY,kZ,lA,lB,lC,aE,aF,aG,aH,aI,aJ,aK,aL,aM,aN,aO,aP,aQ,aR,aS,aT,aU,aV,aW,aX,aY,aZ,a8,bA,bB,bC,bD,bE,bF,bG,bH,bI,bJ,bK,bL,bM,bN,bO,bP,bQ,bS,bT,bU,bV,bW,bX,bY,bZ,b4,b6,cA,cC,cD,cE,cF,cG,cH,cI,cJ,cK,cL,cM,cN,cO,cP,cQ,cR,cT,cU,cV,cW,cX,cY,cZ,.bool ([o.a,o.b,o.c].any (lackF m)),jA,jB,jC,jD,jE,jF,jG,jH,jI,jJ,jK,jL,dM,dN,dO,dP,dQ,dR,dS,dT,dU,dV,dW,dX,dY,dZ,d7,eA,eB,eC,eD,eE,eF],[]⟩ w'):(partR Tryd.f49 15).wp Tryd.prog Q ⟨#[.pointer (some ⟨b,0,none⟩),aA,kV,.pointer (some ⟨bo,0,none⟩),aC,aD,kX,kY,kZ,lA,lB,lC,aE,aF,aG,aH,aI,aJ,aK,aL,aM,aN,aO,aP,aQ,aR,aS,aT,aU,aV,aW,aX,aY,aZ,a8,bA,bB,bC,bD,bE,bF,bG,bH,bI,bJ,bK,bL,bM,bN,bO,bP,bQ,bS,bT,bU,bV,bW,bX,bY,bZ,b4,b6,cA,cC,cD,cE,cF,cG,cH,cI,cJ,cK,cL,cM,cN,cO,cP,cQ,cR,cT,cU,cV,cW,cX,cY,cZ,c8,dA,dB,dC,dD,dE,dF,dG,dH,dI,dJ,dK,dL,dM,dN,dO,dP,dQ,dR,dS,dT,dU,dV,dW,dX,dY,dZ,d7,eA,eB,eC,eD,eE,eF],[]⟩ w:=by
 obtain ⟨W1,hW1⟩:∃ W,W=(w.alloc (.cells (intV [o.a,o.b,o.c]).toArray 3)).drew:=⟨_,rfl⟩
 have hB1:Below w.heap.size w W1:=by rw [hW1];exact ((Below.refl _ _).alloc (Nat.le_refl _) _).drew
 have hz1:W1.heap.size=w.heap.size+1:=by rw [hW1];simp
 have hb1:W1.heap[w.heap.size]? = some (.cells (intV [o.a,o.b,o.c]).toArray 3 (0,0)):=by rw [hW1];exact heap_alloc_new w _
 have HL:=Lh (lacks_any m (.slice (some ⟨w.heap.size,0,none⟩) 3 3) [o.a,o.b,o.c] W1 _ hm (nums_blk hb1) (fun k hk=>by omega) hr (by simp))
 have HC:=Lh hC
 have HO:=Lh hO
 have HM:=Lh hm
 have HB1:=Lh hB1
 have HW1:=Lh hW1
 have HK:=Lh k
 clear hC hO hm hr hB1 hz1 hb1 hW1 k
 have HLOAD:∀ w_:World,ChkAt w_ b p.regs (.slice Ab nb cb) (.slice Ao no co) m vl→∀ (j:Nat) (v:Value),(m.map Value.bool).toArray.toList[j]? = some v→w_.cell? ((⟨b,3,none⟩:Addr).add j)=some v:=fun w_ h j v hv=>by
   rw [sep_add]
   simp only [List.getElem?_map] at hv
   cases hj:m[j]? with
   | none=>rw [hj] at hv;cases hv
   | some x=>rw [hj] at hv;cases hv;exact cell_row h (chk_made hj)
 have HLOAD:=Lh HLOAD
 obtain ⟨arr,harr⟩:∃ a,(m.map Value.bool).toArray=a:=⟨_,rfl⟩
 have HA:=Lh (show some arr.size=some 64 from by rw [←harr];simp [HM.out])
 rw [harr] at HL HLOAD
 clear harr
 obtain ⟨res,hres⟩:∃ x,[o.a,o.b,o.c].any (lackF m)=x:=⟨_,rfl⟩
 rw [hres] at HL HK
 clear hres
 conv=>arg 2;whnf
 (refine wp_region_lines (fun w_=>ChkAt w_ b p.regs (.slice Ab nb cb) (.slice Ao no co) m vl∧OpAt w_ bo o) (by kernel_rfl) (by kernel_rfl) ⟨HC.out,HO.out⟩ ?_)
 (try simp only [])
 repeat (first | (refine runL_no (by rfl) ?_;(try simp only [Act.put,List.setIfInBounds_toArray,List.set_cons_zero,List.set_cons_succ])) | (refine runL_val (v:=?_) (by rfl) ?_ ?_;rotate_left;(focus (intro w_ hw_;have k3_:=cell_row hw_.2 (k:=3) (v:=.int .i64 o.a) rfl;have k4_:=cell_row hw_.2 (k:=4) (v:=.int .i64 o.b) rfl;have k5_:=cell_row hw_.2 (k:=5) (v:=.int .i64 o.c) rfl;go_simp;(try with_reducible rfl);done));(try simp only [Act.put,List.setIfInBounds_toArray,List.set_cons_zero,List.set_cons_succ])) | (refine runL_call (f:=?_) (args:=?_) (w1:=?_) (by rfl) (by rfl) ?_ ?_;rotate_left 3;(focus (go_simp;refine ⟨⟨?_,?_⟩,?_⟩ <;> with_reducible rfl));with_reducible refine (HL.out).mono ?_;rintro e w1 ⟨rfl,hb⟩;have HB:=Lh (HB1.out.trans (hb.mono HB1.out.size));clear hb;refine ⟨_,rfl,.inr (by exact ⟨chk_next HC.out HB.out,op_next HO.out HB.out⟩),?_⟩;(try simp only [Act.put,List.setIfInBounds_toArray,List.set_cons_zero,List.set_cons_succ])) | (refine runL_val (v:=.agg arr) (by rfl) (fun w_ hw_=>sep_load 93 _ rfl ⟨b,3,none⟩ rfl arr _ Tryd.underlying93 rfl (by rw [HA.out];kernel_rfl) (HLOAD.out w_ hw_.1)) ?_;(try simp only [Act.put,List.setIfInBounds_toArray,List.set_cons_zero,List.set_cons_succ])) | (refine runL_op (v:=.slice (some ⟨w.heap.size,0,none⟩) 3 3) (w1:=W1) (by rfl) (by rfl) (by rw [HW1.out];exact exec_int3 _ _ _ rfl rfl rfl rfl) (.inr (by exact ⟨chk_next HC.out HB1.out,op_next HO.out HB1.out⟩)) ?_;(try simp only [Act.put,List.setIfInBounds_toArray,List.set_cons_zero,List.set_cons_succ])))
 (refine runL_nil ?_)
 exact HK.out _ _ _ _ _ _ _ _ _ _ _ _ _ HB.out
set_option maxHeartbeats 4000000 in
theorem op_r17 {p:LP} {Ab Ao:Option Addr} {nb cb no co:Nat} {o:LOp} {b bo:Nat} {m:List Bool} {vl:Value} (w:World) (Q:Exit→Act→World→Prop) (hC:ChkAt w b p.regs (.slice Ab nb cb) (.slice Ao no co) m vl) (hO:OpAt w bo o) (hm:m.length=64) (hr:∀ r∈[o.d,o.e],r < 64)
   (k:∀ (jM jO jP jQ jR jS jT jU jV:Value) (w':World),Chg (fun k=>k=b) w w'→ChkAt w' b p.regs (.slice Ab nb cb) (.slice Ao no co) (putL [o.d,o.e] m true) vl→Q .normal ⟨#[.pointer (some ⟨b,0,none⟩),aA,kV,.pointer (some ⟨bo,0,none⟩),aC,aD,kX,kY,kZ,lA,lB,lC,aE,aF,aG,aH,aI,aJ,aK,aL,aM,aN,aO,aP,aQ,aR,aS,aT,aU,aV,aW,aX,aY,aZ,a8,bA,bB,bC,bD,bE,bF,bG,bH,bI,bJ,bK,bL,bM,bN,bO,bP,bQ,bS,bT,bU,bV,bW,bX,bY,bZ,b4,b6,cA,cC,cD,cE,cF,cG,cH,cI,cJ,cK,cL,cM,cN,cO,cP,cQ,cR,cT,cU,cV,cW,cX,cY,cZ,c8,dA,dB,dC,dD,dE,dF,dG,dH,dI,dJ,dK,dL,jM,jO,jP,jQ,jR,jS,jT,jU,jV,dV,dW,dX,dY,dZ,d7,eA,eB,eC,eD,eE,eF],[]⟩ w'):(partR Tryd.f49 17).wp Tryd.prog Q ⟨#[.pointer (some ⟨b,0,none⟩),aA,kV,.pointer (some ⟨bo,0,none⟩),aC,aD,kX,kY,kZ,lA,lB,lC,aE,aF,aG,aH,aI,aJ,aK,aL,aM,aN,aO,aP,aQ,aR,aS,aT,aU,aV,aW,aX,aY,aZ,a8,bA,bB,bC,bD,bE,bF,bG,bH,bI,bJ,bK,bL,bM,bN,bO,bP,bQ,bS,bT,bU,bV,bW,bX,bY,bZ,b4,b6,cA,cC,cD,cE,cF,cG,cH,cI,cJ,cK,cL,cM,cN,cO,cP,cQ,cR,cT,cU,cV,cW,cX,cY,cZ,c8,dA,dB,dC,dD,dE,dF,dG,dH,dI,dJ,dK,dL,dM,dN,dO,dP,dQ,dR,dS,dT,dU,dV,dW,dX,dY,dZ,d7,eA,eB,eC,eD,eE,eF],[]⟩ w:=by
 obtain ⟨W1,hW1⟩:∃ W,W=(w.alloc (.cells (intV [o.d,o.e]).toArray 3)).drew:=⟨_,rfl⟩
 have hB1:Below w.heap.size w W1:=by rw [hW1];exact ((Below.refl _ _).alloc (Nat.le_refl _) _).drew
 have hz1:W1.heap.size=w.heap.size+1:=by rw [hW1];simp
 have hb1:W1.heap[w.heap.size]? = some (.cells (intV [o.d,o.e]).toArray 3 (0,0)):=by rw [hW1];exact heap_alloc_new w _
 have HP:=Lh (put_any b true (.slice (some ⟨w.heap.size,0,none⟩) 2 2) [o.d,o.e] m p.regs (.slice Ab nb cb) (.slice Ao no co) vl W1 _ hm (chk_next hC hB1) (nums_blk hb1) (fun k hk=>⟨by omega,by have:=lt_of_block hC;omega⟩) hr (by simp))
 have HC:=Lh hC
 have HO:=Lh hO
 have HB1:=Lh hB1
 have HW1:=Lh hW1
 have HK:=Lh k
 clear hC hO hm hr hB1 hz1 hb1 hW1 k
 conv=>arg 2;whnf
 (refine wp_region_lines (fun w_=>ChkAt w_ b p.regs (.slice Ab nb cb) (.slice Ao no co) m vl∧OpAt w_ bo o) (by kernel_rfl) (by kernel_rfl) ⟨HC.out,HO.out⟩ ?_)
 (try simp only [])
 repeat (first | (refine runL_no (by rfl) ?_;(try simp only [Act.put,List.setIfInBounds_toArray,List.set_cons_zero,List.set_cons_succ])) | (refine runL_val (v:=?_) (by rfl) ?_ ?_;rotate_left;(focus (intro w_ hw_;have k3_:=cell_row hw_.2 (k:=1) (v:=.int .i64 o.d) rfl;have k4_:=cell_row hw_.2 (k:=2) (v:=.int .i64 o.e) rfl;go_simp;(try with_reducible rfl);done));(try simp only [Act.put,List.setIfInBounds_toArray,List.set_cons_zero,List.set_cons_succ])) | (refine runL_call (f:=?_) (args:=?_) (w1:=?_) (by rfl) (by rfl) ?_ ?_;rotate_left 3;(focus (go_simp;refine ⟨⟨?_,?_⟩,?_⟩ <;> with_reducible rfl));with_reducible refine (HP.out).mono ?_;rintro e w1 ⟨rfl,hch,hca⟩;have HCH:=Lh hch;have HCA:=Lh hca;clear hch hca;refine ⟨_,rfl,.inl ⟨rfl,by kernel_rfl⟩,?_⟩;(try simp only [Act.put,List.setIfInBounds_toArray,List.set_cons_zero,List.set_cons_succ])) | (refine runL_op (v:=.slice (some ⟨w.heap.size,0,none⟩) 2 2) (w1:=W1) (by rfl) (by rfl) (by rw [HW1.out];exact exec_int2 _ _ rfl rfl rfl) (.inr (by exact ⟨chk_next HC.out HB1.out,op_next HO.out HB1.out⟩)) ?_;(try simp only [Act.put,List.setIfInBounds_toArray,List.set_cons_zero,List.set_cons_succ])))
 (refine runL_nil ?_)
 exact HK.out _ _ _ _ _ _ _ _ _ _ ((Chg.of_below HB1.out).trans' HCH.out (fun _ _ h=>h)) HCA.out
set_option maxHeartbeats 4000000 in
theorem op_r19 {p:LP} {Ab Ao:Option Addr} {nb cb no co:Nat} {o:LOp} {b bo:Nat} {m:List Bool} {A:Option Addr} {n c:Nat} {loops:List Int} {base:Nat} (w:World) (Q:Exit→Act→World→Prop) (hC:ChkAt w b p.regs (.slice Ab nb cb) (.slice Ao no co) m (.slice A n c)) (hO:OpAt w bo o) (hm:m.length=64) (hnl:loops.length=n) (hown:w.ownsRow base 3 1 (.slice A n c) n (intV loops)) (hne:(Value.slice A n c).ownBlock≠some b∧(Value.slice A n c).ownBlock≠some bo) (hn:n≤1000000000) (hbase:base≤w.heap.size)
   (k:∀ (jX jY jZ j5 j6 j7 j8 j9 kF kG kH:Value) (w':World),∀ vl':Value,w'.ownsRow base 3 1 vl' (n+1) (intV (loops++[o.d]))→ChkAt w' b p.regs (.slice Ab nb cb) (.slice Ao no co) m vl'→Chg (fun k=>k=b∨(Value.slice A n c).ownBlock=some k) w w'→(vl'.ownBlock=(Value.slice A n c).ownBlock∨∃ g,vl'.ownBlock=some g∧w.heap.size≤g)→Q .normal ⟨#[.pointer (some ⟨b,0,none⟩),aA,kV,.pointer (some ⟨bo,0,none⟩),aC,aD,kX,kY,kZ,lA,lB,lC,aE,aF,aG,aH,aI,aJ,aK,aL,aM,aN,aO,aP,aQ,aR,aS,aT,aU,aV,aW,aX,aY,aZ,a8,bA,bB,bC,bD,bE,bF,bG,bH,bI,bJ,bK,bL,bM,bN,bO,bP,bQ,bS,bT,bU,bV,bW,bX,bY,bZ,b4,b6,cA,cC,cD,cE,cF,cG,cH,cI,cJ,cK,cL,cM,cN,cO,cP,cQ,cR,cT,cU,cV,cW,cX,cY,cZ,c8,dA,dB,dC,dD,dE,dF,dG,dH,dI,dJ,dK,dL,dM,dN,dO,dP,dQ,dR,dS,dT,dU,dV,jX,jY,jZ,j5,j6,j7,j8,j9,kF,kG,kH],[]⟩ w'):(partR Tryd.f49 19).wp Tryd.prog Q ⟨#[.pointer (some ⟨b,0,none⟩),aA,kV,.pointer (some ⟨bo,0,none⟩),aC,aD,kX,kY,kZ,lA,lB,lC,aE,aF,aG,aH,aI,aJ,aK,aL,aM,aN,aO,aP,aQ,aR,aS,aT,aU,aV,aW,aX,aY,aZ,a8,bA,bB,bC,bD,bE,bF,bG,bH,bI,bJ,bK,bL,bM,bN,bO,bP,bQ,bS,bT,bU,bV,bW,bX,bY,bZ,b4,b6,cA,cC,cD,cE,cF,cG,cH,cI,cJ,cK,cL,cM,cN,cO,cP,cQ,cR,cT,cU,cV,cW,cX,cY,cZ,c8,dA,dB,dC,dD,dE,dF,dG,dH,dI,dJ,dK,dL,dM,dN,dO,dP,dQ,dR,dS,dT,dU,dV,dW,dX,dY,dZ,d7,eA,eB,eC,eD,eE,eF],[]⟩ w:=by
 obtain ⟨W1,hW1⟩:∃ W,W=(w.alloc (.cells (intV [o.d]).toArray 3)).drew:=⟨_,rfl⟩
 have hB1:Below w.heap.size w W1:=by rw [hW1];exact ((Below.refl _ _).alloc (Nat.le_refl _) _).drew
 have hz1:W1.heap.size=w.heap.size+1:=by rw [hW1];simp
 have hb1:W1.heap[w.heap.size]? = some (.cells (intV [o.d]).toArray 3 (0,0)):=by rw [hW1];exact heap_alloc_new w _
 have HLO:=Lh (lt_of_block hO)
 have hown1:W1.ownsRow base 3 1 (.slice A n c) n (intV loops):=row_keep (fun g hg=>hB1.block g (own_lt hown g hg).1) hown
 have HC:=Lh hC
 have HO:=Lh hO
 have HM:=Lh hm
 have HB1:=Lh hB1
 have HW1:=Lh hW1
 have HK:=Lh k
 have HOWN:=Lh hown
 have HOWN1:=Lh hown1
 have HNE:=Lh hne
 have HNL:=Lh hnl
 have HBK:=Lh hb1
 have HN:=Lh (And.intro hn (Nat.le_trans hbase (show w.heap.size≤W1.heap.size by omega)))
 have HLT:=Lh (And.intro (lt_of_block hC) hz1)
 clear hC hO hm hB1 hz1 hb1 hW1 k hown hown1 hne hnl hn hbase
 conv=>arg 2;whnf
 (refine wp_region_lines (fun w_=>ChkAt w_ b p.regs (.slice Ab nb cb) (.slice Ao no co) m (.slice A n c)∧OpAt w_ bo o) (by kernel_rfl) (by kernel_rfl) ⟨HC.out,HO.out⟩ ?_)
 (try simp only [])
 repeat (first | (refine runL_no (by rfl) ?_;(try simp only [Act.put,List.setIfInBounds_toArray,List.set_cons_zero,List.set_cons_succ])) | (refine runL_val (v:=?_) (by rfl) ?_ ?_;rotate_left;(focus (intro w_ hw_;have k67_:=cell_row hw_.1 (chk_loops HM.out);have k1_:=cell_row hw_.2 (k:=1) (v:=.int .i64 o.d) rfl;go_simp;(try with_reducible rfl);done));(try simp only [Act.put,List.setIfInBounds_toArray,List.set_cons_zero,List.set_cons_succ])) | (refine runL_op (v:=.slice (some ⟨w.heap.size,0,none⟩) 1 1) (w1:=W1) (by rfl) (by rfl) (by rw [HW1.out];exact exec_int1 _ rfl rfl) (.inr (by exact ⟨chk_next HC.out HB1.out,op_next HO.out HB1.out⟩)) ?_;(try simp only [Act.put,List.setIfInBounds_toArray,List.set_cons_zero,List.set_cons_succ])) | (refine runL_append1 (by rfl) (by rfl) _ _ rfl (v:=.slice A n c) rfl HNL.out HOWN1.out rfl HBK.out HN.out.1 HN.out.2 ?_;intro mZ w2 ho2 hg2 hb2;have HO2:=Lh ho2;have HC2:=Lh ((hg2.block b (by have:=HLT.out;omega) (fun e=>HNE.out.1 e.symm)).trans (chk_next HC.out HB1.out));have HP2:=Lh ((hg2.block bo (by have:=HLT.out;have:=HLO.out;omega) (fun e=>HNE.out.2 e.symm)).trans (op_next HO.out HB1.out));have HG2:=Lh hg2;have HB2:=Lh (own_where HB1.out hb2);clear ho2 hg2 hb2;obtain ⟨A2,c2,rfl⟩:=own_form HO2.out;refine ⟨by exact ⟨HC2.out,HP2.out⟩,?_⟩;(try simp only [Act.put,List.setIfInBounds_toArray,List.set_cons_zero,List.set_cons_succ])) | (refine runL_skip (w1:=w2.setCell ⟨b,67,none⟩ (.slice A2 (n+1) c2)) (by rfl) (by rfl) (exec_store1 35 _ _ rfl b 67 _ rfl rfl (by kernel_rfl) (by rw [cell_row HC2.out (chk_loops HM.out)];rfl) (frozen_row HC2.out 67) rfl) (.inl ⟨rfl,by kernel_rfl⟩) ?_;(try simp only [Act.put])))
 (refine runL_nil ?_)
 have HNB:=own_ne HB2.out HNE.out.1 HLT.out.1
 have HO4:=row_keep (w':=w2.setCell ⟨b,67,none⟩ (.slice A2 (n+1) c2)) (fun g hg=>Below.heap_setCell _ _ _ _ (fun e=>HNB (by rw [hg,e]))) HO2.out
 have HC4:=setCell_row HC2.out 67 (.slice A2 (n+1) c2)
 rw [chk_setL _ HM.out] at HC4
 have HCG:Chg (fun k=>k=b∨(Value.slice A n c).ownBlock=some k) w (w2.setCell ⟨b,67,none⟩ (.slice A2 (n+1) c2)):=((Chg.of_below HB1.out).trans' (F:=fun k=>k=b∨(Value.slice A n c).ownBlock=some k) ⟨HG2.out.os,HG2.out.tape,HG2.out.output,HG2.out.size,fun k hk hF=>HG2.out.block k hk (fun e=>hF (.inr e.symm))⟩ (fun _ _ h=>h)).setCell (.inl (.inl rfl)) _
 exact HK.out _ _ _ _ _ _ _ _ _ _ _ _ _ HO4 HC4 HCG HB2.out
end Go.Proofs.YtppoiahhaclleaaDoor
namespace Go.Proofs.YtppoiahhaclleaaDoor
open Go.RowKit
set_option maxRecDepth 100000
structure CAt (w0 w:World) (b:Nat) (regs:Int) (vb vo:Value) (s:CSt):Prop where
 below:Below w0.heap.size w0 w
 bge:w0.heap.size≤b
 m64:s.made.length=64
 few:s.loops.length≤8
 inr:∀ r∈s.loops,0≤r∧r < 64
 vl:∃ A c,ChkAt w b regs vb vo s.made (.slice A s.loops.length c)∧w.ownsRow w0.heap.size 3 1 (.slice A s.loops.length c) s.loops.length (intV s.loops)∧(Value.slice A s.loops.length c).ownBlock≠some b
theorem CAt.next {w0 w w':World} {b:Nat} {regs:Int} {vb vo:Value} {s:CSt} (h:CAt w0 w b regs vb vo s) (hb:Below w.heap.size w w'):CAt w0 w' b regs vb vo s:=by
 obtain ⟨A,c,h1,h2,h3⟩:=h.vl
 exact ⟨h.below.trans (hb.mono h.below.size),h.bge,h.m64,h.few,h.inr,A,c,chk_next h1 hb,row_keep (fun g hg=>hb.block g (own_lt h2 g hg).1) h2,h3⟩
theorem below_chg {w0 w w':World} {F:Nat→Prop} (h:Below w0.heap.size w0 w) (hc:Chg F w w') (hF:∀ k,F k→w0.heap.size≤k):Below w0.heap.size w0 w' :=
 h.trans (hc.below (fun k hk hk'=>by have:=hF k hk';omega) h.size)
theorem slice_own {A:Option Addr} {n n' c:Nat}:(Value.slice A n c).ownBlock=(Value.slice A n' c).ownBlock:=by cases A <;> rfl
theorem intV_take (l:List Int) (k:Nat):(intV l).take k=intV (l.take k):=by unfold intV;rw [List.map_take]
theorem reg_lt {p:LP} {o:LOp} (h:fieldsF p o=true) (h64:p.regs≤64):o.d < 64∧o.e < 64∧o.a < 64∧o.b < 64∧o.c < 64∧((o.kind == 16)=true→0≤o.d):=by
 unfold fieldsF regsOk at h
 simp only [Bool.and_eq_true] at h
 obtain ⟨_,_,⟨hd,he,ha,hb,hc⟩,_⟩:=h
 have key:∀ (r:Int) (q:Bool),regIs p r q=true→r < 64:=fun r q h=>by
   unfold regIs at h
   cases q <;> simp at h <;> omega
 refine ⟨key _ _ hd,key _ _ he,?_,key _ _ hb,key _ _ hc,fun hk=>?_⟩
 · rw [Bool.or_eq_true] at ha
   rcases ha with ha | ha
   · exact key _ _ ha
   · simp at ha;omega
 · have h16:o.kind=16:=by simpa using hk
   rw [h16] at hd
   unfold regIs at hd
   rw [show kD 16=true from rfl] at hd
   simp at hd
   omega
set_option maxHeartbeats 8000000 in
theorem op_any (p:LP) (Ab Ao:Option Addr) (nb cb no co:Nat) (o:LOp) (b:Nat) (s:CSt) (w0 w:World) (hs:CAt w0 w b p.regs (.slice Ab nb cb) (.slice Ao no co) s) (h64:p.regs≤64)
   (hp:ProgAt w (fun k=>k < w.heap.size) [.int .i64 p.regs,.slice Ab nb cb,.slice Ao no co] p) (hsz:∀ b∈p.bufs,0≤b.size) :
   Calls Tryd.prog 49 #[.pointer (some ⟨b,0,none⟩),.agg (opRow o).toArray] w fun e w'=>e=.returned (.int .i64 (opF p o s).1)∧CAt w0 w' b p.regs (.slice Ab nb cb) (.slice Ao no co) (opF p o s).2:=by
 obtain ⟨W,hW,hbW,hzW,_,_⟩:=boxed w (opRow o).toArray 47
 have hO:OpAt W w.heap.size o:=by unfold OpAt;rw [hW];exact heap_alloc_new w _
 have hs1:=hs.next hbW
 have hp1:=prog_next hp hbW
 obtain ⟨A,c,hC0,hown0,hnb⟩:=hs.vl
 have hbo:b≠w.heap.size:=by
   have:=lt_of_block hC0
   omega
 have hno:(Value.slice A s.loops.length c).ownBlock≠some w.heap.size:=fun e=>by
   have:=(own_lt hown0 _ e).1
   omega
 have hC:=chk_next hC0 hbW
 have hown:=row_keep (fun g hg=>hbW.block g (own_lt hown0 g hg).1) hown0
 have HW:=Lh hW
 generalize hbo2:w.heap.size=bo at *
 go_enter Tryd.func49,Tryd.ntmps49
 go_upto_region 1 with fail
 rw [←HW.out]
 refine wp_code (c:=partR Tryd.f49 1) (by kernel_rfl) ?_
 refine op_r1 (p:=p) (o:=o) (vl:=.slice A s.loops.length c) _ _ hC hO hp1 hsz ?_
 intro mK mL mM mN mO mP w1 hb1
 have HS1:=Lh (hs1.next hb1)
 have HO1:=Lh (op_next hO hb1)
 have hown1:=row_keep (fun g hg=>hb1.block g (own_lt hown g hg).1) hown
 have HC1:=Lh (chk_next hC hb1)
 have HOWN1:=Lh hown1
 have HNB:=Lh hnb
 have HNO:=Lh hno
 have HBB:=Lh (And.intro hbo hbo2)
 have H64:=Lh h64
 have HFEW:=Lh hs.few
 have HM:=Lh hs.m64
 have HINR:=Lh hs.inr
 clear hs hp hsz hbW hzW hO hs1 hp1 hbo hown0 hC0 hno hbo2 hC hown hnb hb1 hown1 h64
 obtain ⟨x,hx⟩:∃ x,fieldsF p o=x:=⟨_,rfl⟩
 rw [hx]
 have HX:=Lh hx
 clear hx
 cases x
 · have hv:opF p o s=(2,s):=by unfold opF;rw [if_pos HX.out]
   have d1:(!false)=true:=rfl
   have HV:=Lh hv
   clear hv
   go_wp2
   go_ret
   rw [HV.out]
   exact ⟨rfl,HS1.out⟩
 have HREG:=Lh (reg_lt HX.out H64.out)
 have c0:w1.cell? ⟨bo,0,none⟩=some (.int .i64 o.kind):=cell_row HO1.out rfl
 have c67:w1.cell? ⟨b,67,none⟩=some (.slice A s.loops.length c):=cell_row HC1.out (chk_loops HM.out)
 have f67:w1.frozen? ⟨b,67,none⟩=false:=frozen_row HC1.out 67
 have HCELL:=Lh (And.intro c0 (And.intro c67 f67))
 by_cases h17:o.kind=17
 · have e17:(o.kind == 17)=true:=by simpa using h17
   by_cases hl:s.loops=[]
   · have hv:opF p o s=(9,s):=by unfold opF;rw [if_neg (by rw [HX.out];decide),if_pos h17,if_pos hl]
     have HV:=Lh hv
     have d1:(((s.loops.length:Nat):Int) == 0)=true:=by rw [hl];rfl
     clear hv hl h17
     go_wp2
     go_ret
     rw [HV.out]
     exact ⟨rfl,HS1.out⟩
   · have hv:opF p o s=(0,⟨putF s.made (s.loops.getLastD 0) false,s.loops.dropLast⟩):=by unfold opF;rw [if_neg (by rw [HX.out];decide),if_pos h17,if_neg hl]
     have HV:=Lh hv
     have hpos:0 < s.loops.length:=List.length_pos_iff.2 hl
     obtain ⟨q,hq⟩:∃ q,s.loops.length=q+1:=⟨s.loops.length - 1,by omega⟩
     have hq9:q≤8:=by have:=HFEW.out;omega
     have hlast:s.loops[q]? = some (s.loops.getLastD 0):=by
       rw [List.getLastD_eq_getLast?,List.getLast?_eq_getElem?,show s.loops.length - 1=q by omega,List.getElem?_eq_getElem (by omega)]
       rfl
     have HQ:=Lh hq
     have HLAST:=Lh hlast
     have d1:(((s.loops.length:Nat):Int) == 0)=false:=by simpa using (by omega:s.loops.length≠0)
     have d2:IntKind.i64.wrap (((s.loops.length:Nat):Int) - 1)=q:=by rw [hq];simp [IntKind.wrap,IntKind.bits,IntKind.signed];omega
     clear hv hl h17 hpos hq hlast
     go_upto_region 7 with fail
     refine wp_code (c:=partR Tryd.f49 7) (by kernel_rfl) ?_
     refine op_r7 (q:=q) (loops:=s.loops) (p:=p) (m:=s.made) (x:=s.loops.getLastD 0) _ _ HC1.out HM.out (nums_own HOWN1.out) (fun g hg=>(own_lt HOWN1.out g hg).1) HLAST.out ((HINR.out _ (List.mem_of_getElem? HLAST.out)).2) (by have:=HQ.out;omega) (by have:=HFEW.out;omega) ?_
     intro mQ mR mS mT mU mV mW mX lD lE lF lG w7 hch hca
     have HCA:=Lh hca
     have HCH:=Lh hch
     have HOWN7:=Lh (row_keep (w':=w7) (fun g hg=>hch.block g (own_lt HOWN1.out g hg).1 (fun e=>HNB.out (by rw [hg,e]))) HOWN1.out)
     clear c0 c67 f67 hch hca
     have c67:w7.cell? ⟨b,67,none⟩=some (.slice A s.loops.length c):=cell_row HCA.out (chk_loops (by rw [putL_len];exact HM.out))
     have f67:w7.frozen? ⟨b,67,none⟩=false:=frozen_row HCA.out 67
     have q0:(0:Int)≤(q:Int):=by omega
     have q1:(q:Int)≤(s.loops.length:Int):=by have:=HQ.out;omega
     have q2:(q:Int)≤(c:Int):=by
       rcases HOWN7.out.2 with ⟨h1,h2⟩ | ⟨g,cap,cur,hv,_,_,hnc,_⟩
       · have:=HQ.out;omega
       · cases hv;omega
     go_wp2
     go_ret
     rw [HV.out]
     refine ⟨rfl,?_⟩
     have hdl:s.loops.take q=s.loops.dropLast:=by rw [List.dropLast_eq_take,show s.loops.length - 1=q by have:=HQ.out;omega]
     have hln:s.loops.dropLast.length=q:=by rw [List.length_dropLast];have:=HQ.out;omega
     have hput:putL [s.loops.getLastD 0] s.made false=putF s.made (s.loops.getLastD 0) false:=rfl
     have hset:=setCell_row HCA.out 67 (.slice A q c)
     rw [chk_setL _ (by rw [putL_len];exact HM.out),hput] at hset
     have hbel:Below w0.heap.size w0 (w7.setCell ⟨b,67,none⟩ (.slice A q c)):=below_chg HS1.out.below (HCH.out.setCell (.inl rfl) _) (fun k hk=>by rw [hk];exact HS1.out.bge)
     have hown7:=own_take HOWN7.out (k:=q) (by have:=HQ.out;omega)
     rw [intV_take,hdl] at hown7
     refine ⟨hbel,HS1.out.bge,by rw [put_len];exact HM.out,by rw [hln];omega,fun r hr=>HINR.out r ((List.dropLast_sublist _).subset hr),A,c,?_,?_,?_⟩
     · rw [hln];exact hset
     · rw [hln];exact row_keep (fun g hg=>Below.heap_setCell _ _ _ _ (fun e=>HNB.out (by rw [slice_own (n':=q),hg,e]))) hown7
     · rw [slice_own (n':=s.loops.length)];exact HNB.out
 · have e17:(o.kind == 17)=false:=by simpa using h17
   obtain ⟨lp,hlp⟩:∃ x,(o.kind == 16)=x:=⟨_,rfl⟩
   have HLP:=Lh hlp
   have hmd:lp=true→∃ q:Nat,o.d=q∧q < s.made.length:=fun h=>by
     have h1:=HREG.out.2.2.2.2.2 (by rw [hlp];exact h)
     have h2:=HREG.out.1
     exact ⟨o.d.toNat,by omega,by rw [HM.out];omega⟩
   have HMD:=Lh hmd
   have H17:=Lh h17
   clear hmd h17
   go_upto_region 11 with fail
   refine wp_code (c:=partR Tryd.f49 11) (by kernel_rfl) ?_
   refine op_r11 (p:=p) (o:=o) (lp:=lp) (m:=s.made) (vl:=.slice A s.loops.length c) (loops:=s.loops) _ _ HC1.out HO1.out HM.out (nums_own HOWN1.out) (by have:=HFEW.out;omega) HMD.out ?_
   intro lU lV lW lX lY lZ l5 l6 l7 l8 l9 mA mB mC mD mE mF mG mH mI mJ mY w2 hb2
   have HS2:=Lh (HS1.out.next hb2)
   have HO2:=Lh (op_next HO1.out hb2)
   have HC2:=Lh (chk_next HC1.out hb2)
   have HOWN2:=Lh (row_keep (fun g hg=>hb2.block g (own_lt HOWN1.out g hg).1) HOWN1.out)
   clear c0 c67 f67 hlp hb2
   obtain ⟨y,hy⟩:∃ y,(inF s.loops o.d || (inF s.loops o.e || (lp && madeF s.made o.d)))=y:=⟨_,rfl⟩
   rw [hy]
   have HY:=Lh (show (inF s.loops o.d || inF s.loops o.e || (o.kind == 16 && madeF s.made o.d))=y by rw [HLP.out,←hy,Bool.or_assoc])
   clear hy
   cases y
   rotate_left
   · have HV:=Lh (show opF p o s=(9,s) by unfold opF;rw [if_neg (by rw [HX.out];decide),if_neg H17.out,if_pos HY.out])
     go_wp2
     go_ret
     rw [HV.out]
     exact ⟨rfl,HS2.out⟩
   cases lp
   · go_upto_region 15 with fail
     refine wp_code (c:=partR Tryd.f49 15) (by kernel_rfl) ?_
     refine op_r15 (p:=p) (o:=o) (m:=s.made) (vl:=.slice A s.loops.length c) _ _ HC2.out HO2.out HM.out (by have:=HREG.out;simp only [List.mem_cons,List.not_mem_nil,or_false];rintro r (rfl | rfl | rfl) <;> omega) ?_
     intro jA jB jC jD jE jF jG jH jI jJ jK jL w3 hb3
     have HS3:=Lh (HS2.out.next hb3)
     have HO3:=Lh (op_next HO2.out hb3)
     have HC3:=Lh (chk_next HC2.out hb3)
     have HOWN3:=Lh (row_keep (fun g hg=>hb3.block g (own_lt HOWN2.out g hg).1) HOWN2.out)
     clear hb3
     (try clear c67)
     obtain ⟨z,hz⟩:∃ z,[o.a,o.b,o.c].any (lackF s.made)=z:=⟨_,rfl⟩
     rw [hz]
     have HZ:=Lh (show (lackF s.made o.a || lackF s.made o.b || lackF s.made o.c)=z by rw [←hz];simp [Bool.or_assoc])
     clear hz
     cases z
     rotate_left
     · have HV:=Lh (show opF p o s=(5,s) by unfold opF;rw [if_neg (by rw [HX.out];decide),if_neg H17.out,if_neg (by rw [HY.out];decide),if_neg (by have:=HLP.out;first | exact fun h=>H8.out h.2 | (intro h;rw [h.1] at this;cases this)),if_pos HZ.out])
       go_wp2
       go_ret
       rw [HV.out]
       exact ⟨rfl,HS3.out⟩
     go_upto_region 17 with fail
     refine wp_code (c:=partR Tryd.f49 17) (by kernel_rfl) ?_
     refine op_r17 (p:=p) (o:=o) (m:=s.made) (vl:=.slice A s.loops.length c) _ _ HC3.out HO3.out HM.out (by have:=HREG.out;simp only [List.mem_cons,List.not_mem_nil,or_false];rintro r (rfl | rfl) <;> omega) ?_
     intro jM jO jP jQ jR jS jT jU jV w4 hch4 hca4
     have HB4:=Lh (below_chg HS3.out.below hch4 (fun k hk=>by rw [hk];exact HS3.out.bge))
     have HCH4:=Lh hch4
     have HC4:=Lh hca4
     have HOWN4:=Lh (row_keep (w':=w4) (fun g hg=>hch4.block g (own_lt HOWN3.out g hg).1 (fun e=>HNB.out (by rw [hg,e]))) HOWN3.out)
     clear hch4 hca4
     have HV:=Lh (show opF p o s=(0,⟨putF (putF s.made o.d true) o.e true,if o.kind=16 then s.loops++[o.d] else s.loops⟩) by unfold opF;rw [if_neg (by rw [HX.out];decide),if_neg H17.out,if_neg (by rw [HY.out];decide),if_neg (by have:=HLP.out;first | exact fun h=>H8.out h.2 | (intro h;rw [h.1] at this;cases this)),if_neg (by rw [HZ.out];decide)])
     have HV:=Lh (HV.out.trans (show _=((0:Int),(⟨putF (putF s.made o.d true) o.e true,s.loops⟩:CSt)) by have:=HLP.out;first | rw [if_pos (by simpa using this)] | rw [if_neg (by simpa using this)]))
     go_wp2
     go_ret
     rw [HV.out]
     refine ⟨rfl,HB4.out,HS2.out.bge,by rw [put_len,put_len];exact HM.out,HFEW.out,HINR.out,A,c,HC4.out,HOWN4.out,HNB.out⟩
   · have c67:w2.cell? ⟨b,67,none⟩=some (.slice A s.loops.length c):=cell_row HC2.out (chk_loops HM.out)
     by_cases h8:s.loops.length=8
     · have d8:(((s.loops.length:Nat):Int) == 8)=true:=by rw [h8];rfl
       have HV:=Lh (show opF p o s=(10,s) by unfold opF;rw [if_neg (by rw [HX.out];decide),if_neg H17.out,if_neg (by rw [HY.out];decide),if_pos ⟨by simpa using HLP.out,h8⟩])
       clear h8
       go_wp2
       go_ret
       rw [HV.out]
       exact ⟨rfl,HS2.out⟩
     · have d8:(((s.loops.length:Nat):Int) == 8)=false:=beq_eq_false_iff_ne.2 (by omega)
       have H8:=Lh h8
       clear h8
       go_upto_region 15 with fail
       refine wp_code (c:=partR Tryd.f49 15) (by kernel_rfl) ?_
       refine op_r15 (p:=p) (o:=o) (m:=s.made) (vl:=.slice A s.loops.length c) _ _ HC2.out HO2.out HM.out (by have:=HREG.out;simp only [List.mem_cons,List.not_mem_nil,or_false];rintro r (rfl | rfl | rfl) <;> omega) ?_
       intro jA jB jC jD jE jF jG jH jI jJ jK jL w3 hb3
       have HS3:=Lh (HS2.out.next hb3)
       have HO3:=Lh (op_next HO2.out hb3)
       have HC3:=Lh (chk_next HC2.out hb3)
       have HOWN3:=Lh (row_keep (fun g hg=>hb3.block g (own_lt HOWN2.out g hg).1) HOWN2.out)
       clear hb3
       (try clear c67)
       obtain ⟨z,hz⟩:∃ z,[o.a,o.b,o.c].any (lackF s.made)=z:=⟨_,rfl⟩
       rw [hz]
       have HZ:=Lh (show (lackF s.made o.a || lackF s.made o.b || lackF s.made o.c)=z by rw [←hz];simp [Bool.or_assoc])
       clear hz
       cases z
       rotate_left
       · have HV:=Lh (show opF p o s=(5,s) by unfold opF;rw [if_neg (by rw [HX.out];decide),if_neg H17.out,if_neg (by rw [HY.out];decide),if_neg (by have:=HLP.out;first | exact fun h=>H8.out h.2 | (intro h;rw [h.1] at this;cases this)),if_pos HZ.out])
         go_wp2
         go_ret
         rw [HV.out]
         exact ⟨rfl,HS3.out⟩
       go_upto_region 17 with fail
       refine wp_code (c:=partR Tryd.f49 17) (by kernel_rfl) ?_
       refine op_r17 (p:=p) (o:=o) (m:=s.made) (vl:=.slice A s.loops.length c) _ _ HC3.out HO3.out HM.out (by have:=HREG.out;simp only [List.mem_cons,List.not_mem_nil,or_false];rintro r (rfl | rfl) <;> omega) ?_
       intro jM jO jP jQ jR jS jT jU jV w4 hch4 hca4
       have HB4:=Lh (below_chg HS3.out.below hch4 (fun k hk=>by rw [hk];exact HS3.out.bge))
       have HCH4:=Lh hch4
       have HC4:=Lh hca4
       have HOWN4:=Lh (row_keep (w':=w4) (fun g hg=>hch4.block g (own_lt HOWN3.out g hg).1 (fun e=>HNB.out (by rw [hg,e]))) HOWN3.out)
       clear hch4 hca4
       have HV:=Lh (show opF p o s=(0,⟨putF (putF s.made o.d true) o.e true,if o.kind=16 then s.loops++[o.d] else s.loops⟩) by unfold opF;rw [if_neg (by rw [HX.out];decide),if_neg H17.out,if_neg (by rw [HY.out];decide),if_neg (by have:=HLP.out;first | exact fun h=>H8.out h.2 | (intro h;rw [h.1] at this;cases this)),if_neg (by rw [HZ.out];decide)])
       have HV:=Lh (HV.out.trans (show _=((0:Int),(⟨putF (putF s.made o.d true) o.e true,s.loops++[o.d]⟩:CSt)) by have:=HLP.out;first | rw [if_pos (by simpa using this)] | rw [if_neg (by simpa using this)]))
       go_upto_region 19 with fail
       refine wp_code (c:=partR Tryd.f49 19) (by kernel_rfl) ?_
       have HO4:=Lh (show OpAt w4 bo o from (HCH4.out.block bo (lt_of_block HO3.out) (fun e=>HBB.out.1 e.symm)).trans HO3.out)
       refine op_r19 (p:=p) (o:=o) (m:=putL [o.d,o.e] s.made true) (n:=s.loops.length) (base:=w0.heap.size) (loops:=s.loops) _ _ HC4.out HO4.out (by rw [putL_len];exact HM.out) rfl HOWN4.out ⟨HNB.out,HNO.out⟩ (by have:=HFEW.out;omega) HB4.out.size ?_
       intro jX jY jZ j5 j6 j7 j8 j9 kF kG kH w5 vl' hown5 hca5 hch5 hwh5
       have HLT:=Lh (lt_of_block HC4.out)
       obtain ⟨A5,c5,rfl⟩:=own_form hown5
       have HOWN5:=Lh hown5
       have HC5:=Lh hca5
       have HCH5:=Lh hch5
       have HNB5:=Lh (own_ne hwh5 HNB.out HLT.out)
       clear hown5 hca5 hch5 hwh5
       go_wp2
       go_ret
       rw [HV.out]
       have hl5:(s.loops++[o.d]).length=s.loops.length+1:=by simp
       refine ⟨rfl,below_chg HB4.out HCH5.out (fun k hk=>?_),HS2.out.bge,by rw [put_len,put_len];exact HM.out,?_,fun r hr=>?_,A5,c5,?_,?_,?_⟩
       · rcases hk with hk | hk
         · rw [hk];exact HS2.out.bge
         · exact (own_lt HOWN4.out k hk).2
       · show (s.loops++[o.d]).length≤8
         rw [hl5];have:=HFEW.out;have:=H8.out;omega
       · rcases List.mem_append.1 hr with hr | hr
         · exact HINR.out r hr
         · rw [List.mem_singleton.1 hr]
           exact ⟨HREG.out.2.2.2.2.2 HLP.out,HREG.out.1⟩
       · show ChkAt w5 b _ _ _ _ (.slice A5 (s.loops++[o.d]).length c5)
         rw [hl5];exact HC5.out
       · show w5.ownsRow _ _ _ (.slice A5 (s.loops++[o.d]).length c5) (s.loops++[o.d]).length (intV (s.loops++[o.d]))
         rw [hl5];exact HOWN5.out
       · show (Value.slice A5 (s.loops++[o.d]).length c5).ownBlock≠_
         rw [hl5];exact HNB5.out
end Go.Proofs.YtppoiahhaclleaaDoor
namespace Go.Proofs.YtppoiahhaclleaaDoor
open Go.RowKit
set_option maxRecDepth 100000
def big1 (b:Bf):Bool:=decide (65536 < b.size)
def bad1 (b:Bf):Bool:=decide (b.size < 1) || (decide (b.kind < 1) || decide (3 < b.kind))
set_option maxHeartbeats 800000 in
theorem head1_any (b:Bf) (w:World):Calls Tryd.prog 64 #[.agg #[.int .i64 b.size,.int .i64 b.kind,.bool b.secret]] w fun e w'=>e=.returned (.bool (big1 b))∧Below w.heap.size w w':=by
 obtain ⟨W,hW,hbW,hzW,hcW,_⟩:=boxed w #[.int .i64 b.size,.int .i64 b.kind,.bool b.secret] 60
 have c0:W.cell? ⟨w.heap.size,0,none⟩=some (.int .i64 b.size):=by rw [hcW];rfl
 have c1:W.cell? ⟨w.heap.size,1,none⟩=some (.int .i64 b.kind):=by rw [hcW];rfl
 have HW:=Lh hW
 have HB:=Lh hbW
 clear hW hbW hzW hcW
 obtain ⟨z,hz⟩:∃ z,b.size=z:=⟨_,rfl⟩
 obtain ⟨k,hk⟩:∃ z,b.kind=z:=⟨_,rfl⟩
 rw [hz] at c0
 rw [hk] at c1
 have hv:big1 b=decide (65536 < z):=by unfold big1;rw [hz]
 rw [hv]
 clear hv c1 hz hk
 go_enter Tryd.func64,Tryd.ntmps64
 go_upto_region 1 with fail
 (first | rw [←hz,←hk,←HW.out] | rw [←HW.out])
 go_wp2
 go_ret
 exact ⟨rfl,HB.out⟩
set_option maxHeartbeats 800000 in
theorem head2_any (b:Bf) (w:World):Calls Tryd.prog 65 #[.agg #[.int .i64 b.size,.int .i64 b.kind,.bool b.secret]] w fun e w'=>e=.returned (.bool (bad1 b))∧Below w.heap.size w w':=by
 obtain ⟨W,hW,hbW,hzW,hcW,_⟩:=boxed w #[.int .i64 b.size,.int .i64 b.kind,.bool b.secret] 60
 have c0:W.cell? ⟨w.heap.size,0,none⟩=some (.int .i64 b.size):=by rw [hcW];rfl
 have c1:W.cell? ⟨w.heap.size,1,none⟩=some (.int .i64 b.kind):=by rw [hcW];rfl
 have HW:=Lh hW
 have HB:=Lh hbW
 clear hW hbW hzW hcW
 obtain ⟨z,hz⟩:∃ z,b.size=z:=⟨_,rfl⟩
 obtain ⟨k,hk⟩:∃ z,b.kind=z:=⟨_,rfl⟩
 rw [hz] at c0
 rw [hk] at c1
 have hv:bad1 b=(decide (z < 1) || (decide (k < 1) || decide (3 < k))):=by unfold bad1;rw [hz,hk]
 rw [hv]
 clear hv hz hk
 cases d1:decide (z < 1)
 · cases d2:decide (k < 1)
   · cases d3:decide (3 < k)
     · go_enter Tryd.func65,Tryd.ntmps65
       go_upto_region 1 with fail
       (first | rw [←hz,←hk,←HW.out] | rw [←HW.out])
       go_wp2
       go_ret
       exact ⟨rfl,HB.out⟩
     · go_enter Tryd.func65,Tryd.ntmps65
       go_upto_region 1 with fail
       (first | rw [←hz,←hk,←HW.out] | rw [←HW.out])
       go_wp2
       go_ret
       exact ⟨rfl,HB.out⟩
   · go_enter Tryd.func65,Tryd.ntmps65
     go_upto_region 1 with fail
     (first | rw [←hz,←hk,←HW.out] | rw [←HW.out])
     go_wp2
     go_ret
     exact ⟨rfl,HB.out⟩
 · go_enter Tryd.func65,Tryd.ntmps65
   go_upto_region 1 with fail
   (first | rw [←hz,←hk,←HW.out] | rw [←HW.out])
   go_wp2
   go_ret
   exact ⟨rfl,HB.out⟩
set_option maxHeartbeats 4000000 in
theorem head_any (p:LP) (Ab Ao:Option Addr) (nb cb no co:Nat) (w:World) (hp:ProgAt w (fun k=>k < w.heap.size) [.int .i64 p.regs,.slice Ab nb cb,.slice Ao no co] p) :
   Calls Tryd.prog 48 #[.agg #[.int .i64 p.regs,.slice Ab nb cb,.slice Ao no co]] w fun e w'=>e=.returned (.int .i64 (headF p))∧Below w.heap.size w w':=by
 obtain ⟨W,hW,hbW,hzW,hcW,_⟩:=boxed w #[.int .i64 p.regs,.slice Ab nb cb,.slice Ao no co] 25
 have c0:W.cell? ⟨w.heap.size,0,none⟩=some (.int .i64 p.regs):=by rw [hcW];rfl
 have c1:W.cell? ⟨w.heap.size,1,none⟩=some (.slice Ab nb cb):=by rw [hcW];rfl
 have c2:W.cell? ⟨w.heap.size,2,none⟩=some (.slice Ao no co):=by rw [hcW];rfl
 have hlt:w.heap.size < W.heap.size:=by omega
 obtain ⟨hBuf,hOps⟩:BufsAt w (fun k=>k < w.heap.size) (.slice Ab nb cb) p.bufs∧OpsAt w (fun k=>k < w.heap.size) (.slice Ao no co) p.ops:=by
   obtain ⟨vb,vo,h,h1,h2⟩:=hp.row
   simp only [List.cons.injEq] at h
   rw [h.2.1,h.2.2.1];exact ⟨h1,h2⟩
 have hnb:p.bufs.length=nb:=by obtain ⟨A,c,hv,_⟩:=rows_form hBuf;cases hv;rfl
 have hno:p.ops.length=no:=by obtain ⟨A,c,hv,_⟩:=rows_form hOps;cases hv;rfl
 have hB1:∀ wr,Below w.heap.size w wr→BufsAt wr (fun k=>k < w.heap.size) (.slice Ab nb cb) p.bufs:=fun wr hb=>Rows.keep hBuf (SameOn.of_below hb fun _ h=>h)
 have HC1:=Lh (fun wr (hb:Below w.heap.size w wr)=>ContainsFunc_Bf (.slice Ab nb cb) 64 #[] wr _ p.bufs big1 hp.nb (fun _ _=>rfl) (hB1 wr hb) (fun k hk=>Nat.lt_of_lt_of_le hk hb.size) (fun r _ w2 _=>head1_any r w2))
 have HC2:=Lh (fun wr (hb:Below w.heap.size w wr)=>ContainsFunc_Bf (.slice Ab nb cb) 65 #[] wr _ p.bufs bad1 hp.nb (fun _ _=>rfl) (hB1 wr hb) (fun k hk=>Nat.lt_of_lt_of_le hk hb.size) (fun r _ w2 _=>head2_any r w2))
 have HW:=Lh hW
 have HB:=Lh hbW
 have HL:=Lh (And.intro hnb hno)
 obtain ⟨r,hr⟩:∃ r,p.regs=r:=⟨_,rfl⟩
 obtain ⟨x1,hx1⟩:∃ x,p.bufs.any big1=x:=⟨_,rfl⟩
 obtain ⟨x2,hx2⟩:∃ x,p.bufs.any bad1=x:=⟨_,rfl⟩
 have hv:headF p=if 64 < r∨32 < nb∨65536 < no then 3 else if x1=true then 3 else if r < 0∨x2=true then 2 else 0:=by
   unfold headF;rw [hr,hnb,hno,←hx1,←hx2];rfl
 have HV:=Lh hv
 rw [hx1] at HC1
 rw [hx2] at HC2
 have HCA:=Lh (HC1.out W hbW)
 rw [hr] at c0 HW
 have HR:=Lh hr
 have HLT:=Lh hlt
 clear hW hbW hzW hcW hBuf hOps hB1 hnb hno hp hx1 hx2 hv HC1 hlt
 rw [hr]
 clear hr
 by_cases m1:64 < r
 · have HV:=Lh (HV.out.trans (if_pos (.inl m1)))
   have d1:decide ((64:Int) < r)=true:=decide_eq_true m1
   clear m1
   go_enter Tryd.func48,Tryd.ntmps48
   go_upto_region 1 with fail
   rw [←HW.out]
   go_wp2
   go_ret
   rw [HV.out]
   exact ⟨rfl,HB.out⟩
 have d1:decide ((64:Int) < r)=false:=decide_eq_false m1
 by_cases m2:32 < nb
 · have HV:=Lh (HV.out.trans (if_pos (.inr (.inl m2))))
   have d2:decide ((32:Int) < (nb:Int))=true:=decide_eq_true (by omega)
   clear m1 m2
   go_enter Tryd.func48,Tryd.ntmps48
   go_upto_region 1 with fail
   rw [←HW.out]
   go_wp2
   go_ret
   rw [HV.out]
   exact ⟨rfl,HB.out⟩
 have d2:decide ((32:Int) < (nb:Int))=false:=decide_eq_false (by omega)
 by_cases m3:65536 < no
 · have HV:=Lh (HV.out.trans (if_pos (.inr (.inr m3))))
   have d3:decide ((65536:Int) < (no:Int))=true:=decide_eq_true (by omega)
   clear m1 m2 m3
   go_enter Tryd.func48,Tryd.ntmps48
   go_upto_region 1 with fail
   rw [←HW.out]
   go_wp2
   go_ret
   rw [HV.out]
   exact ⟨rfl,HB.out⟩
 have d3:decide ((65536:Int) < (no:Int))=false:=decide_eq_false (by omega)
 have HV:=Lh (HV.out.trans (if_neg (by omega)))
 clear m1 m2 m3
 cases x1
 rotate_left
 · go_enter Tryd.func48,Tryd.ntmps48
   go_upto_region 1 with fail
   rw [←HW.out]
   go_wp2_with ((with_reducible refine (HCA.out).mono ?_);rintro e w1 ⟨rfl,hb1⟩)
   go_ret
   rw [HV.out]
   exact ⟨rfl,HB.out.trans (hb1.mono HB.out.size)⟩
 have HV:=Lh (HV.out.trans (if_neg (by decide)))
 go_enter Tryd.func48,Tryd.ntmps48
 go_upto_region 1 with fail
 rw [←HW.out]
 go_upto_region 5 with ((with_reducible refine (HCA.out).mono ?_);rintro e w1 ⟨rfl,hb1⟩)
 have HCB:=Lh (HC2.out w1 (HB.out.trans (hb1.mono HB.out.size)))
 have HB1:=Lh (HB.out.trans (hb1.mono HB.out.size))
 have e0:=(hb1.cell (p:=⟨w.heap.size,0,none⟩) HLT.out).trans c0
 have e1:=(hb1.cell (p:=⟨w.heap.size,1,none⟩) HLT.out).trans c1
 clear hb1 c0 c1 c2
 by_cases m4:r < 0
 · have HV:=Lh (HV.out.trans (if_pos (.inl m4)))
   have d4:decide (r < (0:Int))=true:=decide_eq_true m4
   clear m4
   go_wp2
   go_ret
   rw [HV.out]
   exact ⟨rfl,HB1.out⟩
 have d4:decide (r < (0:Int))=false:=decide_eq_false m4
 cases x2
 · have HV:=Lh (HV.out.trans (if_neg (by simp [m4])))
   clear m4
   go_wp2_with ((with_reducible refine (HCB.out).mono ?_);rintro e w2 ⟨rfl,hb2⟩)
   go_ret
   rw [HV.out]
   exact ⟨rfl,HB1.out.trans (hb2.mono HB1.out.size)⟩
 · have HV9:=Lh (show headF p=2 from HV.out.trans (if_pos (.inr rfl)))
   clear m4 HV
   go_wp2_with ((with_reducible refine (HCB.out).mono ?_);rintro e w2 ⟨rfl,hb2⟩)
   go_ret
   rw [HV9.out]
   exact ⟨rfl,HB1.out.trans (hb2.mono HB1.out.size)⟩
end Go.Proofs.YtppoiahhaclleaaDoor
