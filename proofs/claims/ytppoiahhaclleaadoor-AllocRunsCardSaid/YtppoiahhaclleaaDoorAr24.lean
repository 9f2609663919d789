/- Part 24 of a claim; what it proves stands in its last text. -/
import Derived.Test.YtppoiahhaclleaaDoorAr23
import Derived.Test.YtppoiahhaclleaaDoorAr21
import Derived.Test.YtppoiahhaclleaaDoorAr5
import Derived.Deep.RegionLaw
import Derived.ChangeAlike
namespace Go.Proofs.YtppoiahhaclleaaDoor
open Go.RowKit
set_option maxRecDepth 100000
variable {aB aA kV kW aC aD kX kY kZ lA lB lC aE aF aG aH aI aJ aK aL aM aN aO aP aQ aR aS aT aU aV aW aX aY aZ a8 bA bB bC bD bE bF bG bH bI bJ bK bL bM bN bO bP bQ bS bT bU bV bW bX bY bZ b4 b6 cA cC cD cE cF cG cH cI cJ cK cL cM cN cO cP cQ cR cT cU cV cW cX cY cZ c8 dA dB dC dD dE dF dG dH dI dJ dK dL dM dN dO dP dQ dR dS dT dU dV dW dX dY dZ d7 eA eB eC eD eE eF eG eH eI eJ eK eL eM eN eO eP eQ eR eS eT eU eV eW eX eY eZ fA fB fC fD fE fF fG fH fI fJ fK fL fM fN fO fP fQ fR fS fT fU fV fW fX fY : Value}
theorem exec_alloc {P:Program} {o:Oper} {a:Act} {w w':World} {t:TypeId} {v:Value} (ho:o.op=.alloc t) (h:(Instr.alloc t true (.tuple #[])).run P w=.ok v w'):(execOp a.eval o).run P w=.ok (.value v) w':=by
 unfold execOp
 simp only [ho,Sem.run_bind,Sem.run_pure,h,Result.andThen_ok]
theorem alloc_op (w:World):(Instr.alloc 47 true (.tuple #[])).run Tryd.prog w=.ok (.pointer (some ⟨w.heap.size,0,none⟩)) (w.alloc (.cells #[.int .i64 0,.int .i64 0,.int .i64 0,.int .i64 0,.int .i64 0,.int .i64 0,.int .i64 0,.int .u64 0] 47)):=by kernel_rfl
set_option maxHeartbeats 4000000 in
theorem run_r26 {B:Nat} {F0:Nat→Prop} {w0:World} {bx gr bo:Nat} {o:LOp} {regs:Int} {vb vo vB vl:Value} {gs r:List Nat} {bufs:List (List Nat)} {l:List (Int×Int)} {dn:Nat} (w:World) (Q:Exit→Act→World→Prop) (h:DoAt B w0 F0 w bx gr bo o regs vb vo vB gs vl r bufs l) (hd:o.d=(dn:Nat)) (hn:dn < r.length)
   (k:∀ (jQ jR jS jT jU jV jW:Value) (w':World),DoAt B w0 F0 w' bx gr bo o regs vb vo vB gs vl (r.set dn 0) bufs l→Q .normal ⟨#[aB,aA,kV,kW,aC,aD,kX,kY,kZ,.pointer (some ⟨bx,0,none⟩),lB,lC,aE,aF,aG,.pointer (some ⟨bo,0,none⟩),aI,aJ,aK,aL,aM,aN,aO,aP,aQ,aR,aS,aT,aU,aV,aW,aX,aY,aZ,a8,bA,bB,bC,bD,bE,bF,bG,bH,bI,bJ,bK,bL,bM,bN,bO,bP,bQ,bS,bT,bU,bV,bW,bX,bY,bZ,b4,b6,cA,cC,cD,cE,cF,cG,cH,cI,cJ,cK,cL,cM,cN,cO,cP,cQ,cR,cT,cU,cV,cW,cX,cY,cZ,c8,dA,dB,dC,dD,dE,dF,dG,dH,dI,dJ,dK,dL,dM,dN,dO,jQ,jR,jS,jT,jU,jV,jW,dW,dX,dY,dZ,d7,eA,eB,eC,eD,eE,eF,eG,eH,eI,eJ,eK,eL,eM,eN,eO,eP,eQ,eR,eS,eT,eU,eV,eW,eX,eY,eZ,fA,fB,fC,fD,fE,fF,fG,fH,fI,fJ,fK,fL,fM,fN,fO,fP,fQ,fR,fS,fT,fU,fV,fW,fX,fY],[]⟩ w'):(partR Tryd.f18 26).wp Tryd.prog Q ⟨#[aB,aA,kV,kW,aC,aD,kX,kY,kZ,.pointer (some ⟨bx,0,none⟩),lB,lC,aE,aF,aG,.pointer (some ⟨bo,0,none⟩),aI,aJ,aK,aL,aM,aN,aO,aP,aQ,aR,aS,aT,aU,aV,aW,aX,aY,aZ,a8,bA,bB,bC,bD,bE,bF,bG,bH,bI,bJ,bK,bL,bM,bN,bO,bP,bQ,bS,bT,bU,bV,bW,bX,bY,bZ,b4,b6,cA,cC,cD,cE,cF,cG,cH,cI,cJ,cK,cL,cM,cN,cO,cP,cQ,cR,cT,cU,cV,cW,cX,cY,cZ,c8,dA,dB,dC,dD,dE,dF,dG,dH,dI,dJ,dK,dL,dM,dN,dO,dP,dQ,dR,dS,dT,dU,dV,dW,dX,dY,dZ,d7,eA,eB,eC,eD,eE,eF,eG,eH,eI,eJ,eK,eL,eM,eN,eO,eP,eQ,eR,eS,eT,eU,eV,eW,eX,eY,eZ,fA,fB,fC,fD,fE,fF,fG,fH,fI,fJ,fK,fL,fM,fN,fO,fP,fQ,fR,fS,fT,fU,fV,fW,fX,fY],[]⟩ w:=by
 have HD:=Lh h
 have HQ:=Lh k
 obtain ⟨y,hy⟩:∃ y,r[dn]? = some y:=⟨_,List.getElem?_eq_getElem hn⟩
 have HY:=Lh hy
 have c3:w.drew.cell? ⟨bx,3,none⟩=some (.slice (some ⟨gr,0,none⟩) r.length r.length):=h.drew.run.box 3 rfl
 have c1:w.drew.cell? ⟨bo,1,none⟩=some (.int .i64 (dn:Nat)):=by have:=cell_row h.drew.op (k:=1) (v:=.int .i64 o.d) rfl;rw [hd] at this;exact this
 have cr:=h.drew.run.reg hy
 obtain ⟨rl,hrl⟩:∃ q,r.length=q:=⟨_,rfl⟩
 rw [hrl] at c3 hn
 have HC:=Lh (And.intro c3 (And.intro c1 cr))
 have i0:(0:Int)≤(dn:Int):=by omega
 have i1:(dn:Int) < (rl:Int):=by omega
 clear h k hy hd c3 c1 cr hn hrl
 conv=>arg 2;whnf
 (refine wp_region_lines (fun w_=>w_.cell? ⟨bx,3,none⟩=some (.slice (some ⟨gr,0,none⟩) rl rl)∧w_.cell? ⟨bo,1,none⟩=some (.int .i64 (dn:Nat))∧w_.cell? ⟨gr,dn,none⟩=some (.int .u64 (y:Nat))) (by kernel_rfl) (by kernel_rfl) HC.out ?_)
 (try simp only [])
 repeat (first | (refine runL_no (by rfl) ?_;(try simp only [Act.put,List.setIfInBounds_toArray,List.set_cons_zero,List.set_cons_succ])) | (refine runL_val (v:=?_) (by rfl) ?_ ?_;rotate_left;(focus (intro w_ hw_;obtain ⟨f1_,f2_,f3_⟩:=hw_;go_simp;(try with_reducible rfl);done));(try simp only [Act.put,List.setIfInBounds_toArray,List.set_cons_zero,List.set_cons_succ])) | (refine runL_skip (w1:=w.drew.setCell ⟨gr,dn,none⟩ (.int .u64 ((0:Nat):Int))) (by rfl) (by rfl) (exec_store1 45 _ _ rfl gr dn _ (by go_simp) rfl (by kernel_rfl) (by rw [HD.out.drew.run.reg HY.out];rfl) (HD.out.drew.run.frozen_reg dn) rfl) (.inl ⟨rfl,by kernel_rfl⟩) ?_;(try simp only [Act.put])))
 (refine runL_nil ?_)
 exact HQ.out _ _ _ _ _ _ _ _ (HD.out.drew.setReg dn 0)
set_option maxHeartbeats 4000000 in
theorem run_r31 {B:Nat} {F0:Nat→Prop} {w0:World} {bx gr bo:Nat} {o:LOp} {regs:Int} {vb vo vB vl:Value} {gs r:List Nat} {bufs:List (List Nat)} {l:List (Int×Int)} {dn x:Nat} {q:Bool} (w:World) (Q:Exit→Act→World→Prop) (h:DoAt B w0 F0 w bx gr bo o regs vb vo vB gs vl r bufs l) (hd:o.d=(dn:Nat)) (hn:dn < r.length) (hx:r[dn]? = some x) (hq:q=decide ((x+1) % 18446744073709551616 < o.imm))
   (k:∀ (kT kU m5 m6 m7 m8 oB oC oD oE oF:Value) (w':World),DoAt B w0 F0 w' bx gr bo o regs vb vo vB gs vl r bufs l→Q .normal ⟨#[aB,aA,kV,kW,aC,aD,kX,kY,kZ,.pointer (some ⟨bx,0,none⟩),lB,lC,aE,aF,aG,aH,.pointer (some ⟨bo,0,none⟩),aJ,aK,aL,aM,aN,aO,aP,aQ,aR,aS,aT,aU,aV,aW,aX,aY,aZ,a8,bA,bB,bC,bD,bE,bF,bG,bH,bI,bJ,bK,bL,bM,bN,bO,bP,bQ,bS,bT,bU,bV,bW,bX,bY,bZ,b4,b6,cA,cC,cD,cE,cF,cG,cH,cI,cJ,cK,cL,cM,cN,cO,cP,cQ,cR,cT,cU,cV,cW,cX,cY,cZ,c8,dA,dB,dC,dD,dE,dF,dG,dH,dI,dJ,dK,dL,dM,dN,dO,dP,dQ,dR,dS,dT,dU,dV,dW,dX,dY,dZ,d7,eA,eB,eC,eD,eE,eF,eG,eH,eI,eJ,eK,eL,eM,eN,eO,eP,kT,kU,m5,m6,m7,m8,oB,oC,oD,oE,oF,.bool q,fC,fD,fE,fF,fG,fH,fI,fJ,fK,fL,fM,fN,fO,fP,fQ,fR,fS,fT,fU,fV,fW,fX,fY],[]⟩ w'):(partR Tryd.f18 31).wp Tryd.prog Q ⟨#[aB,aA,kV,kW,aC,aD,kX,kY,kZ,.pointer (some ⟨bx,0,none⟩),lB,lC,aE,aF,aG,aH,.pointer (some ⟨bo,0,none⟩),aJ,aK,aL,aM,aN,aO,aP,aQ,aR,aS,aT,aU,aV,aW,aX,aY,aZ,a8,bA,bB,bC,bD,bE,bF,bG,bH,bI,bJ,bK,bL,bM,bN,bO,bP,bQ,bS,bT,bU,bV,bW,bX,bY,bZ,b4,b6,cA,cC,cD,cE,cF,cG,cH,cI,cJ,cK,cL,cM,cN,cO,cP,cQ,cR,cT,cU,cV,cW,cX,cY,cZ,c8,dA,dB,dC,dD,dE,dF,dG,dH,dI,dJ,dK,dL,dM,dN,dO,dP,dQ,dR,dS,dT,dU,dV,dW,dX,dY,dZ,d7,eA,eB,eC,eD,eE,eF,eG,eH,eI,eJ,eK,eL,eM,eN,eO,eP,eQ,eR,eS,eT,eU,eV,eW,eX,eY,eZ,fA,fB,fC,fD,fE,fF,fG,fH,fI,fJ,fK,fL,fM,fN,fO,fP,fQ,fR,fS,fT,fU,fV,fW,fX,fY],[]⟩ w:=by
 have HD:=Lh h
 have HQ:=Lh k
 obtain ⟨y,hy⟩:∃ y,r[dn]? = some y:=⟨_,List.getElem?_eq_getElem hn⟩
 have HY:=Lh hy
 have c3:w.drew.cell? ⟨bx,3,none⟩=some (.slice (some ⟨gr,0,none⟩) r.length r.length):=h.drew.run.box 3 rfl
 have c1:w.drew.cell? ⟨bo,1,none⟩=some (.int .i64 (dn:Nat)):=by have:=cell_row h.drew.op (k:=1) (v:=.int .i64 o.d) rfl;rw [hd] at this;exact this
 have cr:=h.drew.run.reg hy
 obtain ⟨rl,hrl⟩:∃ q,r.length=q:=⟨_,rfl⟩
 rw [hrl] at c3 hn
 have HC:=Lh (And.intro c3 (And.intro c1 cr))
 have i0:(0:Int)≤(dn:Int):=by omega
 have i1:(dn:Int) < (rl:Int):=by omega
 have exy:y=x:=by rw [hy] at hx;exact Option.some.inj hx
 subst exy
 have c7:=cell_row h.drew.op (k:=7) (v:=.int .u64 o.imm) rfl
 have HC7:=Lh (And.intro HC.out c7)
 obtain ⟨im,him⟩:∃ q,o.imm=q:=⟨_,rfl⟩
 rw [him] at hq HC7
 obtain ⟨x1,hx1⟩:∃ q,q=(y+1) % 18446744073709551616:=⟨_,rfl⟩
 have q1:IntKind.u64.wrap ((y:Int)+1)=(x1:Int):=by rw [wrapU'];omega
 rw [←hx1] at hq
 have q2:decide (x1 < im)=q:=hq.symm
 have q3:decide ((x1:Int) < (im:Int))=q:=by rw [hq];simp
 clear h k hy hd c3 c1 cr hn hrl hx hq c7 him hx1
 conv=>arg 2;whnf
 (refine wp_region_lines (fun w_=>(fun w_=>w_.cell? ⟨bx,3,none⟩=some (.slice (some ⟨gr,0,none⟩) rl rl)∧w_.cell? ⟨bo,1,none⟩=some (.int .i64 (dn:Nat))∧w_.cell? ⟨gr,dn,none⟩=some (.int .u64 (y:Nat))) w_∧w_.cell? ⟨bo,7,none⟩=some (.int .u64 (im:Nat))) (by kernel_rfl) (by kernel_rfl) HC7.out ?_)
 (try simp only [])
 repeat (first | (refine runL_no (by rfl) ?_;(try simp only [Act.put,List.setIfInBounds_toArray,List.set_cons_zero,List.set_cons_succ])) | (refine runL_val (v:=?_) (by rfl) ?_ ?_;rotate_left;(focus (intro w_ hw_;obtain ⟨⟨f1_,f2_,f3_⟩,f4_⟩:=hw_;go_simp;(try with_reducible rfl);done));(try simp only [Act.put,List.setIfInBounds_toArray,List.set_cons_zero,List.set_cons_succ])))
 (refine runL_nil ?_)
 exact HQ.out _ _ _ _ _ _ _ _ _ _ _ _ HD.out.drew
set_option maxHeartbeats 4000000 in
theorem run_r32 {B:Nat} {F0:Nat→Prop} {w0:World} {bx gr bo:Nat} {o:LOp} {regs:Int} {vb vo vB vl:Value} {gs r:List Nat} {bufs:List (List Nat)} {l:List (Int×Int)} {dn x:Nat} (w:World) (Q:Exit→Act→World→Prop) (h:DoAt B w0 F0 w bx gr bo o regs vb vo vB gs vl r bufs l) (hd:o.d=(dn:Nat)) (hn:dn < r.length) (hx:r[dn]? = some x)
   (k:∀ (oH oI oJ oK oL oM oN oO oP oQ:Value) (w':World),DoAt B w0 F0 w' bx gr bo o regs vb vo vB gs vl (r.set dn ((x+1) % 18446744073709551616)) bufs l→Q .normal ⟨#[aB,aA,kV,kW,aC,aD,kX,kY,kZ,.pointer (some ⟨bx,0,none⟩),lB,lC,aE,aF,aG,aH,.pointer (some ⟨bo,0,none⟩),aJ,aK,aL,aM,aN,aO,aP,aQ,aR,aS,aT,aU,aV,aW,aX,aY,aZ,a8,bA,bB,bC,bD,bE,bF,bG,bH,bI,bJ,bK,bL,bM,bN,bO,bP,bQ,bS,bT,bU,bV,bW,bX,bY,bZ,b4,b6,cA,cC,cD,cE,cF,cG,cH,cI,cJ,cK,cL,cM,cN,cO,cP,cQ,cR,cT,cU,cV,cW,cX,cY,cZ,c8,dA,dB,dC,dD,dE,dF,dG,dH,dI,dJ,dK,dL,dM,dN,dO,dP,dQ,dR,dS,dT,dU,dV,dW,dX,dY,dZ,d7,eA,eB,eC,eD,eE,eF,eG,eH,eI,eJ,eK,eL,eM,eN,eO,eP,eQ,eR,eS,eT,eU,eV,eW,eX,eY,eZ,fA,fB,oH,oI,oJ,oK,oL,oM,oN,oO,oP,oQ,fM,fN,fO,fP,fQ,fR,fS,fT,fU,fV,fW,fX,fY],[]⟩ w'):(partR Tryd.f18 32).wp Tryd.prog Q ⟨#[aB,aA,kV,kW,aC,aD,kX,kY,kZ,.pointer (some ⟨bx,0,none⟩),lB,lC,aE,aF,aG,aH,.pointer (some ⟨bo,0,none⟩),aJ,aK,aL,aM,aN,aO,aP,aQ,aR,aS,aT,aU,aV,aW,aX,aY,aZ,a8,bA,bB,bC,bD,bE,bF,bG,bH,bI,bJ,bK,bL,bM,bN,bO,bP,bQ,bS,bT,bU,bV,bW,bX,bY,bZ,b4,b6,cA,cC,cD,cE,cF,cG,cH,cI,cJ,cK,cL,cM,cN,cO,cP,cQ,cR,cT,cU,cV,cW,cX,cY,cZ,c8,dA,dB,dC,dD,dE,dF,dG,dH,dI,dJ,dK,dL,dM,dN,dO,dP,dQ,dR,dS,dT,dU,dV,dW,dX,dY,dZ,d7,eA,eB,eC,eD,eE,eF,eG,eH,eI,eJ,eK,eL,eM,eN,eO,eP,eQ,eR,eS,eT,eU,eV,eW,eX,eY,eZ,fA,fB,fC,fD,fE,fF,fG,fH,fI,fJ,fK,fL,fM,fN,fO,fP,fQ,fR,fS,fT,fU,fV,fW,fX,fY],[]⟩ w:=by
 have HD:=Lh h
 have HQ:=Lh k
 obtain ⟨y,hy⟩:∃ y,r[dn]? = some y:=⟨_,List.getElem?_eq_getElem hn⟩
 have HY:=Lh hy
 have c3:w.drew.cell? ⟨bx,3,none⟩=some (.slice (some ⟨gr,0,none⟩) r.length r.length):=h.drew.run.box 3 rfl
 have c1:w.drew.cell? ⟨bo,1,none⟩=some (.int .i64 (dn:Nat)):=by have:=cell_row h.drew.op (k:=1) (v:=.int .i64 o.d) rfl;rw [hd] at this;exact this
 have cr:=h.drew.run.reg hy
 obtain ⟨rl,hrl⟩:∃ q,r.length=q:=⟨_,rfl⟩
 rw [hrl] at c3 hn
 have HC:=Lh (And.intro c3 (And.intro c1 cr))
 have i0:(0:Int)≤(dn:Int):=by omega
 have i1:(dn:Int) < (rl:Int):=by omega
 have exy:y=x:=by rw [hy] at hx;exact Option.some.inj hx
 subst exy
 obtain ⟨x1,hx1⟩:∃ q,q=(y+1) % 18446744073709551616:=⟨_,rfl⟩
 have q1:IntKind.u64.wrap ((y:Int)+1)=(x1:Int):=by rw [wrapU'];omega
 rw [←hx1] at HQ
 clear h k hy hd c3 c1 cr hn hrl hx hx1
 conv=>arg 2;whnf
 (refine wp_region_lines (fun w_=>w_.cell? ⟨bx,3,none⟩=some (.slice (some ⟨gr,0,none⟩) rl rl)∧w_.cell? ⟨bo,1,none⟩=some (.int .i64 (dn:Nat))∧w_.cell? ⟨gr,dn,none⟩=some (.int .u64 (y:Nat))) (by kernel_rfl) (by kernel_rfl) HC.out ?_)
 (try simp only [])
 repeat (first | (refine runL_no (by rfl) ?_;(try simp only [Act.put,List.setIfInBounds_toArray,List.set_cons_zero,List.set_cons_succ])) | (refine runL_val (v:=?_) (by rfl) ?_ ?_;rotate_left;(focus (intro w_ hw_;obtain ⟨f1_,f2_,f3_⟩:=hw_;go_simp;(try with_reducible rfl);done));(try simp only [Act.put,List.setIfInBounds_toArray,List.set_cons_zero,List.set_cons_succ])) | (refine runL_skip (w1:=w.drew.setCell ⟨gr,dn,none⟩ (.int .u64 (x1:Nat))) (by rfl) (by rfl) (exec_store1 45 _ _ rfl gr dn _ (by go_simp) rfl (by kernel_rfl) (by rw [HD.out.drew.run.reg HY.out];rfl) (HD.out.drew.run.frozen_reg dn) rfl) (.inl ⟨rfl,by kernel_rfl⟩) ?_;(try simp only [Act.put])))
 (refine runL_nil ?_)
 exact HQ.out _ _ _ _ _ _ _ _ _ _ _ (HD.out.drew.setReg dn x1)
set_option maxHeartbeats 4000000 in
theorem run_r27 {B:Nat} {F0:Nat→Prop} {w0:World} {bx gr:Nat} {regs:Int} {vb vo vB vl:Value} {gs r:List Nat} {bufs:List (List Nat)} {l:List (Int×Int)} {i:Int} (w:World) (Q:Exit→Act→World→Prop) (h:RunAt B w0 F0 w bx gr regs vb vo vB gs vl r bufs l) (h5:l.length≤5000)
   (k:∀ (vl_:Value) (jX jY jZ j5 j6 j7 j8 j9 kF kG kH:Value) (w':World),RunAt B w0 F0 w' bx gr regs vb vo vB gs vl_ r bufs (l++[(i,-1)])→Q .normal ⟨#[aB,aA,kV,kW,aC,aD,kX,kY,kZ,.pointer (some ⟨bx,0,none⟩),lB,lC,aE,aF,.int .i64 i,aH,aI,aJ,aK,aL,aM,aN,aO,aP,aQ,aR,aS,aT,aU,aV,aW,aX,aY,aZ,a8,bA,bB,bC,bD,bE,bF,bG,bH,bI,bJ,bK,bL,bM,bN,bO,bP,bQ,bS,bT,bU,bV,bW,bX,bY,bZ,b4,b6,cA,cC,cD,cE,cF,cG,cH,cI,cJ,cK,cL,cM,cN,cO,cP,cQ,cR,cT,cU,cV,cW,cX,cY,cZ,c8,dA,dB,dC,dD,dE,dF,dG,dH,dI,dJ,dK,dL,dM,dN,dO,dP,dQ,dR,dS,dT,dU,dV,jX,jY,jZ,j5,j6,j7,j8,j9,kF,kG,kH,eG,eH,eI,eJ,eK,eL,eM,eN,eO,eP,eQ,eR,eS,eT,eU,eV,eW,eX,eY,eZ,fA,fB,fC,fD,fE,fF,fG,fH,fI,fJ,fK,fL,fM,fN,fO,fP,fQ,fR,fS,fT,fU,fV,fW,fX,fY],[]⟩ w'):(partR Tryd.f18 27).wp Tryd.prog Q ⟨#[aB,aA,kV,kW,aC,aD,kX,kY,kZ,.pointer (some ⟨bx,0,none⟩),lB,lC,aE,aF,.int .i64 i,aH,aI,aJ,aK,aL,aM,aN,aO,aP,aQ,aR,aS,aT,aU,aV,aW,aX,aY,aZ,a8,bA,bB,bC,bD,bE,bF,bG,bH,bI,bJ,bK,bL,bM,bN,bO,bP,bQ,bS,bT,bU,bV,bW,bX,bY,bZ,b4,b6,cA,cC,cD,cE,cF,cG,cH,cI,cJ,cK,cL,cM,cN,cO,cP,cQ,cR,cT,cU,cV,cW,cX,cY,cZ,c8,dA,dB,dC,dD,dE,dF,dG,dH,dI,dJ,dK,dL,dM,dN,dO,dP,dQ,dR,dS,dT,dU,dV,dW,dX,dY,dZ,d7,eA,eB,eC,eD,eE,eF,eG,eH,eI,eJ,eK,eL,eM,eN,eO,eP,eQ,eR,eS,eT,eU,eV,eW,eX,eY,eZ,fA,fB,fC,fD,fE,fF,fG,fH,fI,fJ,fK,fL,fM,fN,fO,fP,fQ,fR,fS,fT,fU,fV,fW,fX,fY],[]⟩ w:=by
 have HQ:=Lh k
 have ho:w.ownsRow B 84 2 vl l.length (evV l):=h.sep.get 3 rfl
 obtain ⟨A,c,rfl⟩:=own_form ho
 have HOWN:=Lh ho
 have HB:=Lh (show B≤w.heap.size from h.size)
 have c5:w.cell? ⟨bx,5,none⟩=some (.slice A l.length c):=h.box 5 rfl
 have c5':(w.alloc (.cells #[.int .i64 i,.int .i64 (-1)] 84)).cell? ⟨bx,5,none⟩=some (.slice A l.length c):=(h.next ((Below.refl _ _).alloc (Nat.le_refl _) _)).box 5 rfl
 obtain ⟨ln,hln⟩:∃ q,l.length=q:=⟨_,rfl⟩
 have HL:=Lh hln
 have HD:=Lh (show RunAt B w0 F0 w bx gr regs vb vo vB gs (.slice A ln c) r bufs l by rw [←hln];exact h)
 have hbx:=h.lt.1
 rw [hln] at HOWN c5 c5' h5
 obtain ⟨j0,hie,hy0,hy1,hy2⟩:=info_parts infoEv
 clear h k ho hln
 conv=>arg 2;whnf
 go_wp2_with ((at_builtin;refine wpList_append_own_at _ rfl _ _ 49 rfl B 84 j0 (.agg #[.int .i64 0,.int .i64 0]) 2 16 Tryd.underlying49 hie hy0 hy1 hy2 rfl (by decide) (.slice A ln c) ln (evV l) rfl (HOWN.out.alloc _) ⟨w.heap.size,0,none⟩ 1 1 [.int .i64 i,.int .i64 (-1)] rfl (by simp) (World.news_of_block (cs:=#[.int .i64 i,.int .i64 (-1)]) (t:=84) (fr:=(0,0)) (heap_alloc_new w _)) (by simp [Value.oneCell']) (by unfold maxLen;omega) (by omega) (by have:=HB.out;simp;omega) ?_);intro pP w6 hown6 hg6 _ hwh6;obtain ⟨A6,c6,rfl⟩:=own_form hown6;have HOWN6:=Lh hown6;have HG6:=Lh hg6;have HWH6:=Lh hwh6;clear hown6 hg6 hwh6;have HR6:=Lh (event_box (HD.out.next ((Below.refl _ _).alloc (Nat.le_refl _) (.cells #[.int .i64 i,.int .i64 (-1)] 84))) HG6.out);obtain ⟨s2,s3⟩:=HR6.out)
 exact HQ.out _ _ _ _ _ _ _ _ _ _ _ _ _ ((HD.out.next ((Below.refl _ _).alloc (Nat.le_refl _) (.cells #[.int .i64 i,.int .i64 (-1)] 84))).event (x:=(i,-1)) (by rw [HL.out];exact HOWN6.out) HG6.out (fun k hk=>by
   rcases HWH6.out with h | h
   · rw [h] at hk;exact .inl hk
   · rw [h] at hk;exact .inr (by have:=Option.some.inj hk;omega)))
set_option maxHeartbeats 4000000 in
theorem run_r30 {o:LOp} {bp ge no co i m:Nat} {Ao:Option Addr} {ops:List LOp} {E:List Int} {G:Nat→Prop} (w:World) (Q:Exit→Act→World→Prop) (b2:w.cell? ⟨bp,2,none⟩=some (.slice Ao no co)) (hops:OpsAt w G (.slice Ao no co) ops) (hE:EndsAt w ge E) (he:E[i]? = some (m:Int)) (hi:i < no) (ho:ops[m]? = some o)
   (k:∀ (kK kL kN kO kP kQ kR kS:Value) (w':World),OpAt w' w.heap.size o∧Below w.heap.size w w'→Q .normal ⟨#[aB,aA,.pointer (some ⟨bp,0,none⟩),kW,aC,aD,kX,kY,kZ,lA,lB,lC,.slice (some ⟨ge,0,none⟩) no no,aF,.int .i64 (i:Nat),aH,.pointer (some ⟨w.heap.size,0,none⟩),aJ,aK,aL,aM,aN,aO,aP,aQ,aR,aS,aT,aU,aV,aW,aX,aY,aZ,a8,bA,bB,bC,bD,bE,bF,bG,bH,bI,bJ,bK,bL,bM,bN,bO,bP,bQ,bS,bT,bU,bV,bW,bX,bY,bZ,b4,b6,cA,cC,cD,cE,cF,cG,cH,cI,cJ,cK,cL,cM,cN,cO,cP,cQ,cR,cT,cU,cV,cW,cX,cY,cZ,c8,dA,dB,dC,dD,dE,dF,dG,dH,dI,dJ,dK,dL,dM,dN,dO,dP,dQ,dR,dS,dT,dU,dV,dW,dX,dY,dZ,d7,eA,eB,eC,eD,eE,eF,eG,eH,kK,kL,kN,kO,kP,kQ,kR,kS,eQ,eR,eS,eT,eU,eV,eW,eX,eY,eZ,fA,fB,fC,fD,fE,fF,fG,fH,fI,fJ,fK,fL,fM,fN,fO,fP,fQ,fR,fS,fT,fU,fV,fW,fX,fY],[]⟩ w'):(partR Tryd.f18 30).wp Tryd.prog Q ⟨#[aB,aA,.pointer (some ⟨bp,0,none⟩),kW,aC,aD,kX,kY,kZ,lA,lB,lC,.slice (some ⟨ge,0,none⟩) no no,aF,.int .i64 (i:Nat),aH,aI,aJ,aK,aL,aM,aN,aO,aP,aQ,aR,aS,aT,aU,aV,aW,aX,aY,aZ,a8,bA,bB,bC,bD,bE,bF,bG,bH,bI,bJ,bK,bL,bM,bN,bO,bP,bQ,bS,bT,bU,bV,bW,bX,bY,bZ,b4,b6,cA,cC,cD,cE,cF,cG,cH,cI,cJ,cK,cL,cM,cN,cO,cP,cQ,cR,cT,cU,cV,cW,cX,cY,cZ,c8,dA,dB,dC,dD,dE,dF,dG,dH,dI,dJ,dK,dL,dM,dN,dO,dP,dQ,dR,dS,dT,dU,dV,dW,dX,dY,dZ,d7,eA,eB,eC,eD,eE,eF,eG,eH,eI,eJ,eK,eL,eM,eN,eO,eP,eQ,eR,eS,eT,eU,eV,eW,eX,eY,eZ,fA,fB,fC,fD,fE,fF,fG,fH,fI,fJ,fK,fL,fM,fN,fO,fP,fQ,fR,fS,fT,fU,fV,fW,fX,fY],[]⟩ w:=by
 have HQ:=Lh k
 have hno:ops.length=no:=by obtain ⟨A,c,hv,_⟩:=rows_form hops;cases hv;simp
 have hm:=(List.getElem?_eq_some_iff.1 ho).1
 rw [hno] at hm
 obtain ⟨g,off,hA,_,x0,x1,x2,x3,x4,x5,x6,x7⟩:=hops.at_ ho
 subst hA
 have ce:=hE.cell he
 have hlb:=World.block_lt_of_cell? _ _ b2
 have hle:=World.block_lt_of_cell? _ _ ce
 have hlg:=World.block_lt_of_cell? _ _ x0
 have HC:=Lh (show ∀ w_,Below w.heap.size w w_→w_.cell? ⟨bp,2,none⟩=some (.slice (some ⟨g,off,none⟩) no co)∧w_.cell? ⟨ge,i,none⟩=some (.int .i64 (m:Nat))∧w_.cell? ⟨g,off+m*8,none⟩=some (.int .i64 o.kind)∧w_.cell? ⟨g,off+m*8+1,none⟩=some (.int .i64 o.d)∧w_.cell? ⟨g,off+m*8+2,none⟩=some (.int .i64 o.e)∧w_.cell? ⟨g,off+m*8+3,none⟩=some (.int .i64 o.a)∧w_.cell? ⟨g,off+m*8+4,none⟩=some (.int .i64 o.b)∧w_.cell? ⟨g,off+m*8+5,none⟩=some (.int .i64 o.c)∧w_.cell? ⟨g,off+m*8+6,none⟩=some (.int .i64 o.buf)∧w_.cell? ⟨g,off+m*8+7,none⟩=some (.int .u64 o.imm) from fun w_ hb=>⟨(hb.cell (p:=⟨bp,2,none⟩) hlb).trans b2,(hb.cell (p:=⟨ge,i,none⟩) hle).trans ce,(hb.cell (p:=⟨g,off+m*8,none⟩) hlg).trans x0,(hb.cell (p:=⟨g,off+m*8+1,none⟩) hlg).trans x1,(hb.cell (p:=⟨g,off+m*8+2,none⟩) hlg).trans x2,(hb.cell (p:=⟨g,off+m*8+3,none⟩) hlg).trans x3,(hb.cell (p:=⟨g,off+m*8+4,none⟩) hlg).trans x4,(hb.cell (p:=⟨g,off+m*8+5,none⟩) hlg).trans x5,(hb.cell (p:=⟨g,off+m*8+6,none⟩) hlg).trans x6,(hb.cell (p:=⟨g,off+m*8+7,none⟩) hlg).trans x7⟩)
 obtain ⟨W1,hW1⟩:∃ q,q=w.drew.alloc (.cells #[.int .i64 0,.int .i64 0,.int .i64 0,.int .i64 0,.int .i64 0,.int .i64 0,.int .i64 0,.int .u64 0] 47):=⟨_,rfl⟩
 have hb1:Below w.heap.size w W1:=by rw [hW1];exact (Below.refl _ _).drew.alloc (Nat.le_refl _) _
 have hh1:W1.heap[w.heap.size]? = some (.cells #[.int .i64 0,.int .i64 0,.int .i64 0,.int .i64 0,.int .i64 0,.int .i64 0,.int .i64 0,.int .u64 0] 47 (0,0)):=by rw [hW1];exact heap_alloc_new w.drew _
 have hal:(Instr.alloc 47 true (.tuple #[])).run Tryd.prog w.drew=.ok (.pointer (some ⟨w.heap.size,0,none⟩)) W1:=by rw [hW1];exact alloc_op w.drew
 have HB1:=Lh hb1
 have HH1:=Lh hh1
 have HAL:=Lh hal
 have HW:=Lh (Below.drew (Below.refl w.heap.size w))
 have i0:(0:Int)≤(i:Int):=by omega
 have i1:(i:Int) < (no:Int):=by omega
 have j0:(0:Int)≤(m:Int):=by omega
 have j1:(m:Int) < (no:Int):=by omega
 clear k b2 hops hE he hi ho hno hm x0 x1 x2 x3 x4 x5 x6 x7 ce hlb hle hlg hW1 hb1 hh1 hal
 conv=>arg 2;whnf
 (refine wp_region_lines (fun w_=>Below w.heap.size w w_) (by kernel_rfl) (by kernel_rfl) HW.out ?_)
 (try simp only [])
 repeat (first | (refine runL_no (by rfl) ?_;(try simp only [Act.put,List.setIfInBounds_toArray,List.set_cons_zero,List.set_cons_succ])) | (refine runL_val (v:=?_) (by rfl) ?_ ?_;rotate_left;(focus (intro w_ hw_;obtain ⟨f1_,f2_,y0_,y1_,y2_,y3_,y4_,y5_,y6_,y7_⟩:=HC.out _ hw_;go_simp;(try with_reducible rfl);done));(try simp only [Act.put,List.setIfInBounds_toArray,List.set_cons_zero,List.set_cons_succ])) | (refine runL_op (v:=.pointer (some ⟨w.heap.size,0,none⟩)) (w1:=W1) (by rfl) (by rfl) (exec_alloc rfl HAL.out) (.inr HB1.out) ?_;(try simp only [Act.put,List.setIfInBounds_toArray,List.set_cons_zero,List.set_cons_succ])) | (refine runL_skip (w1:=W1.setRow w.heap.size (opRow o).toArray) (by rfl) (by rfl) (sep_store 47 _ _ rfl w.heap.size _ rfl rfl 47 _ HH1.out (by kernel_rfl) rfl (by simp [opRow,Value.oneCell'])) (.inl ⟨rfl,by kernel_rfl⟩) ?_;(try simp only [Act.put])))
 (refine runL_nil ?_)
 exact HQ.out _ _ _ _ _ _ _ _ _ ⟨setRow_heap _ _ _ _ _ _ HH1.out,below_setRow HB1.out (Nat.le_refl _) _⟩
set_option maxHeartbeats 4000000 in
theorem run_r35 {bx n c nl cl:Nat} {A Al:Option Addr} (w:World) (Q:Exit→Act→World→Prop) (c4:w.cell? ⟨bx,4,none⟩=some (.slice A n c)) (c5:w.cell? ⟨bx,5,none⟩=some (.slice Al nl cl))
   (k:∀ (nC nD nE nF nG nH nI nJ:Value) (w':World),w'=w.drew→Q .normal ⟨#[aB,aA,kV,kW,.slice A n c,.slice Al nl cl,.int .i64 0,kY,kZ,.pointer (some ⟨bx,0,none⟩),lB,lC,aE,aF,aG,aH,aI,aJ,aK,aL,aM,aN,aO,aP,aQ,aR,aS,aT,aU,aV,aW,aX,aY,aZ,a8,bA,bB,bC,bD,bE,bF,bG,bH,bI,bJ,bK,bL,bM,bN,bO,bP,bQ,bS,bT,bU,bV,bW,bX,bY,bZ,b4,b6,cA,cC,cD,cE,cF,cG,cH,cI,cJ,cK,cL,cM,cN,cO,cP,cQ,cR,cT,cU,cV,cW,cX,cY,cZ,c8,dA,dB,dC,dD,dE,dF,dG,dH,dI,dJ,dK,dL,dM,dN,dO,dP,dQ,dR,dS,dT,dU,dV,dW,dX,dY,dZ,d7,eA,eB,eC,eD,eE,eF,eG,eH,eI,eJ,eK,eL,eM,eN,eO,eP,eQ,eR,eS,eT,eU,eV,eW,eX,eY,eZ,fA,fB,fC,fD,fE,fF,fG,fH,fI,fJ,fK,fL,fM,fN,fO,fP,fQ,nC,nD,nE,nF,nG,nH,nI,nJ],[]⟩ w'):(partR Tryd.f18 35).wp Tryd.prog Q ⟨#[aB,aA,kV,kW,aC,aD,kX,kY,kZ,.pointer (some ⟨bx,0,none⟩),lB,lC,aE,aF,aG,aH,aI,aJ,aK,aL,aM,aN,aO,aP,aQ,aR,aS,aT,aU,aV,aW,aX,aY,aZ,a8,bA,bB,bC,bD,bE,bF,bG,bH,bI,bJ,bK,bL,bM,bN,bO,bP,bQ,bS,bT,bU,bV,bW,bX,bY,bZ,b4,b6,cA,cC,cD,cE,cF,cG,cH,cI,cJ,cK,cL,cM,cN,cO,cP,cQ,cR,cT,cU,cV,cW,cX,cY,cZ,c8,dA,dB,dC,dD,dE,dF,dG,dH,dI,dJ,dK,dL,dM,dN,dO,dP,dQ,dR,dS,dT,dU,dV,dW,dX,dY,dZ,d7,eA,eB,eC,eD,eE,eF,eG,eH,eI,eJ,eK,eL,eM,eN,eO,eP,eQ,eR,eS,eT,eU,eV,eW,eX,eY,eZ,fA,fB,fC,fD,fE,fF,fG,fH,fI,fJ,fK,fL,fM,fN,fO,fP,fQ,fR,fS,fT,fU,fV,fW,fX,fY],[]⟩ w:=by
 have HQ:=Lh k
 have HC:=Lh (show w.drew.cell? ⟨bx,4,none⟩=some (.slice A n c)∧w.drew.cell? ⟨bx,5,none⟩=some (.slice Al nl cl) from ⟨c4,c5⟩)
 clear k c4 c5
 conv=>arg 2;whnf
 (refine wp_region_lines (fun w_=>w_.cell? ⟨bx,4,none⟩=some (.slice A n c)∧w_.cell? ⟨bx,5,none⟩=some (.slice Al nl cl)) (by kernel_rfl) (by kernel_rfl) HC.out ?_)
 (try simp only [])
 repeat (first | (refine runL_no (by rfl) ?_;(try simp only [Act.put,List.setIfInBounds_toArray,List.set_cons_zero,List.set_cons_succ])) | (refine runL_val (v:=?_) (by rfl) ?_ ?_;rotate_left;(focus (intro w_ hw_;obtain ⟨f1_,f2_⟩:=hw_;go_simp;(try with_reducible rfl);done));(try simp only [Act.put,List.setIfInBounds_toArray,List.set_cons_zero,List.set_cons_succ])))
 (refine runL_nil ?_)
 exact HQ.out _ _ _ _ _ _ _ _ _ rfl
set_option maxHeartbeats 4000000 in
theorem run_r23 {bx n c nl cl:Nat} {A Al:Option Addr} (w:World) (Q:Exit→Act→World→Prop) (c4:w.cell? ⟨bx,4,none⟩=some (.slice A n c)) (c5:w.cell? ⟨bx,5,none⟩=some (.slice Al nl cl))
   (k:∀ (jI jJ jK jL:Value) (w':World),w'=w.drew→Q .normal ⟨#[aB,aA,kV,kW,.slice none 0 0,.slice Al nl cl,.int .i64 11,kY,kZ,.pointer (some ⟨bx,0,none⟩),lB,lC,aE,aF,aG,aH,aI,aJ,aK,aL,aM,aN,aO,aP,aQ,aR,aS,aT,aU,aV,aW,aX,aY,aZ,a8,bA,bB,bC,bD,bE,bF,bG,bH,bI,bJ,bK,bL,bM,bN,bO,bP,bQ,bS,bT,bU,bV,bW,bX,bY,bZ,b4,b6,cA,cC,cD,cE,cF,cG,cH,cI,cJ,cK,cL,cM,cN,cO,cP,cQ,cR,cT,cU,cV,cW,cX,cY,cZ,c8,dA,dB,dC,dD,dE,dF,dG,dH,jI,jJ,jK,jL,dM,dN,dO,dP,dQ,dR,dS,dT,dU,dV,dW,dX,dY,dZ,d7,eA,eB,eC,eD,eE,eF,eG,eH,eI,eJ,eK,eL,eM,eN,eO,eP,eQ,eR,eS,eT,eU,eV,eW,eX,eY,eZ,fA,fB,fC,fD,fE,fF,fG,fH,fI,fJ,fK,fL,fM,fN,fO,fP,fQ,fR,fS,fT,fU,fV,fW,fX,fY],[]⟩ w'):(partR Tryd.f18 23).wp Tryd.prog Q ⟨#[aB,aA,kV,kW,aC,aD,kX,kY,kZ,.pointer (some ⟨bx,0,none⟩),lB,lC,aE,aF,aG,aH,aI,aJ,aK,aL,aM,aN,aO,aP,aQ,aR,aS,aT,aU,aV,aW,aX,aY,aZ,a8,bA,bB,bC,bD,bE,bF,bG,bH,bI,bJ,bK,bL,bM,bN,bO,bP,bQ,bS,bT,bU,bV,bW,bX,bY,bZ,b4,b6,cA,cC,cD,cE,cF,cG,cH,cI,cJ,cK,cL,cM,cN,cO,cP,cQ,cR,cT,cU,cV,cW,cX,cY,cZ,c8,dA,dB,dC,dD,dE,dF,dG,dH,dI,dJ,dK,dL,dM,dN,dO,dP,dQ,dR,dS,dT,dU,dV,dW,dX,dY,dZ,d7,eA,eB,eC,eD,eE,eF,eG,eH,eI,eJ,eK,eL,eM,eN,eO,eP,eQ,eR,eS,eT,eU,eV,eW,eX,eY,eZ,fA,fB,fC,fD,fE,fF,fG,fH,fI,fJ,fK,fL,fM,fN,fO,fP,fQ,fR,fS,fT,fU,fV,fW,fX,fY],[]⟩ w:=by
 have HQ:=Lh k
 have HC:=Lh (show w.drew.cell? ⟨bx,4,none⟩=some (.slice A n c)∧w.drew.cell? ⟨bx,5,none⟩=some (.slice Al nl cl) from ⟨c4,c5⟩)
 clear k c4 c5
 conv=>arg 2;whnf
 (refine wp_region_lines (fun w_=>w_.cell? ⟨bx,4,none⟩=some (.slice A n c)∧w_.cell? ⟨bx,5,none⟩=some (.slice Al nl cl)) (by kernel_rfl) (by kernel_rfl) HC.out ?_)
 (try simp only [])
 repeat (first | (refine runL_no (by rfl) ?_;(try simp only [Act.put,List.setIfInBounds_toArray,List.set_cons_zero,List.set_cons_succ])) | (refine runL_val (v:=?_) (by rfl) ?_ ?_;rotate_left;(focus (intro w_ hw_;obtain ⟨f1_,f2_⟩:=hw_;go_simp;(try with_reducible rfl);done));(try simp only [Act.put,List.setIfInBounds_toArray,List.set_cons_zero,List.set_cons_succ])))
 (refine runL_nil ?_)
 exact HQ.out _ _ _ _ _ rfl
end Go.Proofs.YtppoiahhaclleaaDoor
namespace Go.Proofs.YtppoiahhaclleaaDoor
open Go.RowKit
def cOp (o:LOp) (s:Nat×List (Nat×Nat)):Nat×List (Nat×Nat) :=
 if o.kind=16 then (1,s.2++[(s.1,o.imm)])
 else if o.kind=17 then (s.1*(s.2.getLastD (0,1)).2+(s.2.getLastD (0,1)).1,s.2.dropLast)
 else (s.1+1,s.2)
def cTo (ops:List LOp):Nat→Nat×List (Nat×Nat)
 | 0=>(0,[])
 | k+1=>match ops[k]? with
   | some o=>cOp o (cTo ops k)
   | none=>cTo ops k
def cS (ops:List LOp) (k:Nat):Nat:=(cTo ops k).1
def immOf (ops:List LOp) (l:Nat):Nat:=((ops[l]?).map (·.imm)).getD 1
theorem c_next {ops:List LOp} {k:Nat} {o:LOp} (ho:ops[k]? = some o):cTo ops (k+1)=cOp o (cTo ops k):=by simp only [cTo,ho]
theorem c_stk (ops:List LOp):∀ k,k≤ops.length→(cTo ops k).2=((stk ops k).map fun l=>(cS ops l,immOf ops l)).reverse:=by
 intro k
 induction k with
 | zero=>exact fun _=>rfl
 | succ k ih =>
   intro hk
   have ih:=ih (by omega)
   obtain ⟨o,ho⟩:∃ o,ops[k]? = some o:=⟨_,List.getElem?_eq_getElem (by omega)⟩
   rw [c_next ho,stk_next ho]
   unfold cOp
   by_cases h16:o.kind=16
   · rw [if_pos h16,if_pos h16]
     simp only [ih,List.map_cons,List.reverse_cons]
     have:immOf ops k=o.imm:=by unfold immOf;rw [ho];rfl
     rw [this];rfl
   rw [if_neg h16,if_neg h16]
   by_cases h17:o.kind=17
   · rw [if_pos h17,if_pos h17]
     simp only [ih,List.dropLast_reverse,List.map_tail]
   rw [if_neg h17,if_neg h17]
   exact ih
theorem c_end {ops:List LOp} {k l:Nat} {rest:List Nat} {o:LOp} (ho:ops[k]? = some o) (hk:o.kind=17) (hs:stk ops k=l :: rest):cS ops (k+1)=cS ops k*immOf ops l+cS ops l:=by
 have hkl:=(List.getElem?_eq_some_iff.1 ho).1
 have h:=c_stk ops k (by omega)
 unfold cS
 rw [c_next ho]
 unfold cOp
 rw [if_neg (by rw [hk];decide),if_pos hk,h,hs]
 simp [cS,List.getLastD_eq_getLast?]
theorem c_loop {ops:List LOp} {k:Nat} {o:LOp} (ho:ops[k]? = some o) (hk:o.kind=16):cS ops (k+1)=1:=by
 unfold cS
 rw [c_next ho]
 unfold cOp
 rw [if_pos hk]
theorem c_plain {ops:List LOp} {k:Nat} {o:LOp} (ho:ops[k]? = some o) (h16:o.kind≠16) (h17:o.kind≠17):cS ops (k+1)=cS ops k+1:=by
 unfold cS
 rw [c_next ho]
 unfold cOp
 rw [if_neg h16,if_neg h17]
theorem c_min {ops:List LOp} (hi:∀ (k:Nat) (o:LOp),ops[k]? = some o→o.kind=16→1≤o.imm):∀ k,k≤ops.length →
   (stTo ops k).1=((min 1125899906842624 (cTo ops k).1:Nat):Int)∧(stTo ops k).2=(cTo ops k).2.map (fun x=>(((min 1125899906842624 x.1:Nat):Int),(x.2:Int)))∧∀ x∈(cTo ops k).2,1≤x.2:=by
 intro k
 induction k with
 | zero=>exact fun _=>⟨rfl,rfl,fun x hx=>by cases hx⟩
 | succ k ih =>
   intro hk
   obtain ⟨h1,h2,h3⟩:=ih (by omega)
   obtain ⟨o,ho⟩:∃ o,ops[k]? = some o:=⟨_,List.getElem?_eq_getElem (by omega)⟩
   rw [c_next ho,st_next ho]
   unfold cOp stOp
   by_cases h16:o.kind=16
   · rw [if_pos h16,if_pos h16]
     refine ⟨rfl,by simp [h1,h2],fun x hx=>?_⟩
     rcases List.mem_append.1 hx with h | h
     · exact h3 x h
     · obtain rfl:=List.mem_singleton.1 h
       exact hi k o ho h16
   rw [if_neg h16,if_neg h16]
   by_cases h17:o.kind=17
   · rw [if_pos h17,if_pos h17]
     refine ⟨?_,by simp [h2],fun x hx=>h3 x (List.dropLast_subset _ hx)⟩
     have hlast:(stTo ops k).2.getLastD (0,1)=(((min 1125899906842624 ((cTo ops k).2.getLastD (0,1)).1:Nat):Int),(((cTo ops k).2.getLastD (0,1)).2:Int)):=by
       rw [h2,List.getLastD_eq_getLast?,List.getLastD_eq_getLast?,List.getLast?_map]
       cases (cTo ops k).2.getLast? with
       | none=>rfl
       | some x=>rfl
     have ht:1≤((cTo ops k).2.getLastD (0,1)).2:=by
       rw [List.getLastD_eq_getLast?]
       cases hg:(cTo ops k).2.getLast? with
       | none=>exact Nat.le_refl 1
       | some x=>exact h3 x (List.mem_of_getLast? hg)
     simp only [hlast,h1]
     generalize (cTo ops k).2.getLastD (0,1)=y at ht
     generalize (cTo ops k).1=S
     obtain ⟨U,t⟩:=y
     simp only at ht ⊢
     have e1:(1125899906842624:Int) / (t:Int)=((1125899906842624 / t:Nat):Int):=by simp
     rw [e1]
     by_cases hS:S < 1125899906842624
     · rw [show min 1125899906842624 S=S by omega]
       by_cases hq:1125899906842624 / t < S
       · have h5:1125899906842624 < S*t:=(Nat.div_lt_iff_lt_mul (by omega)).1 hq
         rw [if_pos (by omega)]
         omega
       · have h5:¬ 1125899906842624 < S*t:=fun h=>hq ((Nat.div_lt_iff_lt_mul (by omega)).2 h)
         rw [if_neg (by omega),←Int.natCast_mul]
         omega
     · rw [show min 1125899906842624 S=1125899906842624 by omega]
       have h5:S≤S*t:=Nat.le_mul_of_pos_right _ (by omega)
       split
       · omega
       · rename_i hq
         have h6:1125899906842624 / t=1125899906842624:=by
           have:=Nat.div_le_self 1125899906842624 t
           omega
         have h7:t=1:=by
           rcases Nat.lt_or_ge 1 t with h | h
           · have:=Nat.div_lt_self (n:=1125899906842624) (by decide) h
             omega
           · omega
         subst h7
         omega
   rw [if_neg h17,if_neg h17]
   refine ⟨?_,h2,h3⟩
   simp only [h1]
   omega
theorem c_steps {p:LP} (h0:(checkF p 64).2=0) (h:stepsF p.ops≤5000):cS p.ops p.ops.length≤5000:=by
 have h1:=(c_min (fun k o ho hk=>(loop_imm (check_fields h0 ho) hk).1) p.ops.length (Nat.le_refl _)).1
 unfold stepsF at h
 unfold cS
 omega
def Total (D:DoT):Prop:=∀ k i b bufs x y z,D k i b bufs x y z≠none
def HaltsT (D:DoT) (ops:List LOp) (B:Int) (s:RS):Prop:=∃ f e,finF D ops (endsF ops) f s=some (some e)∧(e.l.length:Int)≤B
theorem haltsT_step {D:DoT} {ops:List LOp} {B:Int} {s s':RS} (h:s.i < ops.length) (h1:stepF D ops (endsF ops) s=some s') (h2:HaltsT D ops B s'):HaltsT D ops B s:=by
 obtain ⟨f,e,h3,h4⟩:=h2
 exact ⟨f+1,e,by unfold finF;rw [if_neg (by omega),h1];exact h3,h4⟩
theorem cost_body {D:DoT} {p:LP} {B:Int} (hT:Total D) (h0:(checkF p 64).2=0):∀ (n l:Nat) (q:LOp) (V:Nat→Nat) (C K:Int),p.ops.length - l≤n→p.ops[l]? = some q→q.kind=16→C=(cS p.ops ((endsF p.ops).getD l 0).toNat:Int) →
   (∀ s':RS,l < s'.i→s'.i≤p.ops.length→s'.first=true→(s'.r.length:Int)=p.regs→stk p.ops s'.i=stk p.ops l→(∀ l'∈stk p.ops l,dv p.ops s' l'=V l')→(cS p.ops s'.i:Int)=(q.imm:Int)*C+cS p.ops l→(s'.l.length:Int)≤K→HaltsT D p.ops B s') →
   ∀ (R Q:Nat) (s:RS),q.imm - dv p.ops s l≤R→p.ops.length - s.i≤Q→s.first=true→l < s.i→s.i≤p.ops.length→(s.r.length:Int)=p.regs→stk p.ops s.i=l :: stk p.ops l→dv p.ops s l < q.imm→(∀ l'∈stk p.ops l,dv p.ops s l'=V l') →
     (s.l.length:Int) - cS p.ops s.i+((q.imm:Int) - dv p.ops s l)*C≤K→HaltsT D p.ops B s:=by
 have hb:=check_bal h0
 intro n
 induction n with
 | zero=>intro l q V C K hn hq;have:=(List.getElem?_eq_some_iff.1 hq).1;omega
 | succ n ihn =>
   intro l q V C K hn hq hq16 hC hA R
   have himm:=loop_imm (check_fields h0 hq) hq16
   have hqd:=loop_d (check_fields h0 hq) hq16
   have hdl:dOf p.ops l=q.d:=by unfold dOf;rw [hq];rfl
   induction R with
   | zero=>intro Q s hR _ _ _ _ _ _ hlt;omega
   | succ R ihR =>
     intro Q
     induction Q with
     | zero =>
       intro s _ hQ _ _ hle _ hst _ _ _
       have e:s.i=p.ops.length:=by omega
       rw [e] at hst
       have hd:=hb.done
       unfold stk at hst
       rw [hd] at hst
       cases hst
     | succ Q ihQ =>
       intro s hR hQ hfi hli hle hlen hst hlt hV hK
       have hi:s.i < p.ops.length:=by
         rcases Nat.lt_or_ge s.i p.ops.length with h | h
         · exact h
         · have e:s.i=p.ops.length:=by omega
           rw [e] at hst
           have hd:=hb.done
           unfold stk at hst
           rw [hd] at hst
           cases hst
       obtain ⟨si,sf,sr,sb,sl⟩:=s
       simp only at hR hQ hfi hli hle hlen hst hi hK
       subst hfi
       obtain ⟨o,ho⟩:∃ o,p.ops[si]? = some o:=⟨_,List.getElem?_eq_getElem hi⟩
       have hnx:=stk_next ho
       by_cases h16:o.kind=16
       · refine haltsT_step hi (s':=⟨si+1,true,putR sr o.d 0,sb,sl++[((si:Int),-1)]⟩) (by unfold stepF;simp only [ho];rw [if_pos h16];rfl) ?_
         rw [if_pos h16] at hnx
         have hoi:=loop_imm (check_fields h0 ho) h16
         have hod:=loop_d (check_fields h0 ho) h16
         have hdo:dOf p.ops si=o.d:=by unfold dOf;rw [ho];rfl
         have same:∀ l'∈stk p.ops si,dv p.ops ⟨si+1,true,putR sr o.d 0,sb,sl++[((si:Int),-1)]⟩ l'=dv p.ops ⟨si,true,sr,sb,sl⟩ l':=fun l' hl'=>by
           obtain ⟨k1,k2,_⟩:=kept h0 ho (by omega) hl'
           exact put_other k1 k2
         have zero:dv p.ops ⟨si+1,true,putR sr o.d 0,sb,sl++[((si:Int),-1)]⟩ si=0:=by
           unfold dv
           simp only
           rw [hdo,put_get _ _ _ _ (by omega),if_pos (by omega)]
         refine ihn si o (fun l'=>dv p.ops ⟨si,true,sr,sb,sl⟩ l') (cS p.ops ((endsF p.ops).getD si 0).toNat:Int) ((sl.length:Int)+(o.imm:Int)*(cS p.ops ((endsF p.ops).getD si 0).toNat:Int)) (by omega) ho h16 rfl ?_ o.imm p.ops.length _ (by omega) (by simp only;omega) rfl (Nat.lt_succ_self _) hi (by simp only [putR_len];exact hlen) hnx (by rw [zero];omega) same ?_
         · intro s' g1 g2 g3 g4 g5 g6 g7 g8
           have hself:=g6 l (by rw [hst];exact List.mem_cons_self)
           exact ihQ s' (by rw [hself];exact hR) (by omega) g3 (by omega) g2 g4 (by rw [g5,hst]) (by rw [hself];exact hlt) (fun l' hl'=>(g6 l' (by rw [hst];exact List.mem_cons_of_mem _ hl')).trans (hV l' hl')) (by rw [hself];omega)
         · rw [zero]
           simp only [c_loop ho h16,List.length_append,List.length_singleton]
           rw [show ((o.imm:Int) - ((0:Nat):Int))=(o.imm:Int) by omega]
           omega
       rw [if_neg h16] at hnx
       by_cases h17:o.kind=17
       · rw [if_pos h17,hst] at hnx
         have hem:=end_top hb ho h17 hst
         have hat:atR sr q.d=dv p.ops ⟨si,true,sr,sb,sl⟩ l:=by
           unfold dv atR
           rw [hdl,if_neg (by omega)]
         have hCe:C=(cS p.ops si:Int):=by
           obtain ⟨e,he1,_,he3⟩:=ends_loop hb hq hq16
           have:=ends_back hb ho h17 hem he3
           subst this
           rw [hC,he3,Int.toNat_natCast]
         by_cases hj:(atR sr q.d+1) % 18446744073709551616 < q.imm
         · refine haltsT_step hi (s':=⟨l,false,putR sr q.d ((atR sr q.d+1) % 18446744073709551616),sb,sl⟩) (by unfold stepF;simp only [ho];rw [if_neg h16,if_pos h17,hem,Int.toNat_natCast,hq];simp only;rw [if_pos hj]) ?_
           have hll:=(List.getElem?_eq_some_iff.1 hq).1
           refine haltsT_step hll (s':=⟨l+1,true,putR sr q.d ((atR sr q.d+1) % 18446744073709551616),sb,sl++[((l:Int),-1)]⟩) (by unfold stepF;simp only [hq];rw [if_pos hq16];rfl) ?_
           have hnl:=stk_next hq
           rw [if_pos hq16] at hnl
           have hval:dv p.ops ⟨l+1,true,putR sr q.d ((atR sr q.d+1) % 18446744073709551616),sb,sl++[((l:Int),-1)]⟩ l=dv p.ops ⟨si,true,sr,sb,sl⟩ l+1:=by
             unfold dv
             simp only
             rw [hdl,put_get _ _ _ _ (by omega),if_pos (by omega),hat]
             unfold dv at hlt ⊢
             simp only at hlt ⊢
             rw [hdl] at hlt ⊢
             omega
           rw [hat] at hj
           refine ihR p.ops.length _ (by rw [hval];omega) (by simp only;omega) rfl (Nat.lt_succ_self _) hll (by simp only [putR_len];exact hlen) hnl (by rw [hval];omega) (fun l' hl'=>?_) ?_
           · obtain ⟨k1,k2,_⟩:=kept h0 hq (by omega) hl'
             exact (put_other k1 k2).trans (hV l' hl')
           · rw [hval]
             simp only [c_loop hq hq16,List.length_append,List.length_singleton]
             have e:((q.imm:Int) - ((dv p.ops ⟨si,true,sr,sb,sl⟩ l+1:Nat):Int))*C=((q.imm:Int) - dv p.ops ⟨si,true,sr,sb,sl⟩ l)*C - C:=by
               rw [show ((q.imm:Int) - ((dv p.ops ⟨si,true,sr,sb,sl⟩ l+1:Nat):Int))=((q.imm:Int) - dv p.ops ⟨si,true,sr,sb,sl⟩ l) - 1 by omega,Int.sub_mul,Int.one_mul]
             omega
         · refine haltsT_step hi (s':=⟨si+1,true,sr,sb,sl⟩) (by unfold stepF;simp only [ho];rw [if_neg h16,if_pos h17,hem,Int.toNat_natCast,hq];simp only;rw [if_neg hj]) ?_
           have hone:((q.imm:Int) - dv p.ops ⟨si,true,sr,sb,sl⟩ l)=1:=by rw [hat] at hj;omega
           rw [hone,Int.one_mul] at hK
           have hce:=c_end ho h17 hst
           have him:immOf p.ops l=q.imm:=by unfold immOf;rw [hq];rfl
           rw [him] at hce
           refine hA _ (by simp only;omega) hi rfl hlen hnx hV ?_ (by simp only;omega)
           simp only
           rw [hce,hCe,Int.natCast_add,Int.natCast_mul,Int.mul_comm]
       rw [if_neg h17] at hnx
       cases hD:D o.kind o.imm o.buf sb (atR sr o.a) (atR sr o.b) (atR sr o.c) with
       | none=>exact absurd hD (hT _ _ _ _ _ _ _)
       | some v =>
         obtain ⟨d,e,pl,bufs⟩:=v
         refine haltsT_step hi (s':=⟨si+1,true,putR (putR sr o.d d) o.e e,bufs,sl++[((si:Int),pl)]⟩) (by unfold stepF;simp only [ho];rw [if_neg h16,if_neg h17,hD]) ?_
         have same:∀ l'∈stk p.ops si,dv p.ops ⟨si+1,true,putR (putR sr o.d d) o.e e,bufs,sl++[((si:Int),pl)]⟩ l'=dv p.ops ⟨si,true,sr,sb,sl⟩ l':=fun l' hl'=>by
           obtain ⟨k1,k2,k3⟩:=kept h0 ho h17 hl'
           exact (put_other k1 k3).trans (put_other k1 k2)
         have hself:=same l (by rw [hst];exact List.mem_cons_self)
         exact ihQ _ (by rw [hself];exact hR) (by simp only;omega) rfl (by simp only;omega) hi (by simp only [putR_len];exact hlen) (by rw [hnx];exact hst) (by rw [hself];exact hlt) (fun l' hl'=>(same l' (by rw [hst];exact List.mem_cons_of_mem _ hl')).trans (hV l' hl'))
           (by rw [hself];simp only [c_plain ho h16 h17,List.length_append,List.length_singleton];omega)
theorem cost_top {D:DoT} {p:LP} (hT:Total D) (h0:(checkF p 64).2=0):∀ (Q:Nat) (s:RS),p.ops.length - s.i≤Q→s.first=true→s.i≤p.ops.length→(s.r.length:Int)=p.regs→stk p.ops s.i=[]→s.l.length≤cS p.ops s.i→HaltsT D p.ops (cS p.ops p.ops.length:Int) s:=by
 have hb:=check_bal h0
 intro Q
 induction Q with
 | zero =>
   intro s h _ hle _ _ hl
   have e:s.i=p.ops.length:=by omega
   exact ⟨1,s,by unfold finF;rw [if_pos (by omega)],by rw [e] at hl;omega⟩
 | succ Q ih =>
   intro s hQ hfi hle hlen hst hl
   rcases Nat.lt_or_ge s.i p.ops.length with hi | hi
   rotate_left
   · have e:s.i=p.ops.length:=by omega
     exact ⟨1,s,by unfold finF;rw [if_pos (by omega)],by rw [e] at hl;omega⟩
   obtain ⟨si,sf,sr,sb,sl⟩:=s
   simp only at hQ hfi hle hlen hst hi hl
   subst hfi
   obtain ⟨o,ho⟩:∃ o,p.ops[si]? = some o:=⟨_,List.getElem?_eq_getElem hi⟩
   have hnx:=stk_next ho
   by_cases h16:o.kind=16
   · refine haltsT_step hi (s':=⟨si+1,true,putR sr o.d 0,sb,sl++[((si:Int),-1)]⟩) (by unfold stepF;simp only [ho];rw [if_pos h16];rfl) ?_
     rw [if_pos h16] at hnx
     have hoi:=loop_imm (check_fields h0 ho) h16
     have hod:=loop_d (check_fields h0 ho) h16
     have hdo:dOf p.ops si=o.d:=by unfold dOf;rw [ho];rfl
     have zero:dv p.ops ⟨si+1,true,putR sr o.d 0,sb,sl++[((si:Int),-1)]⟩ si=0:=by
       unfold dv
       simp only
       rw [hdo,put_get _ _ _ _ (by omega),if_pos (by omega)]
     refine cost_body hT h0 p.ops.length si o (fun _=>0) _ ((sl.length:Int)+(o.imm:Int)*(cS p.ops ((endsF p.ops).getD si 0).toNat:Int)) (by omega) ho h16 rfl ?_ o.imm p.ops.length _ (by omega) (by simp only;omega) rfl (Nat.lt_succ_self _) hi (by simp only [putR_len];exact hlen) hnx (by rw [zero];omega) (fun l' hl'=>by rw [hst] at hl';cases hl') ?_
     · intro s' g1 g2 g3 g4 g5 _ g7 g8
       exact ih s' (by omega) g3 g2 g4 (by rw [g5,hst]) (by omega)
     · rw [zero]
       simp only [c_loop ho h16,List.length_append,List.length_singleton]
       rw [show ((o.imm:Int) - ((0:Nat):Int))=(o.imm:Int) by omega]
       omega
   rw [if_neg h16] at hnx
   by_cases h17:o.kind=17
   · exact absurd hst (hb.some_ si o ho h17)
   rw [if_neg h17] at hnx
   cases hD:D o.kind o.imm o.buf sb (atR sr o.a) (atR sr o.b) (atR sr o.c) with
   | none=>exact absurd hD (hT _ _ _ _ _ _ _)
   | some v =>
     obtain ⟨d,e,pl,bufs⟩:=v
     refine haltsT_step hi (s':=⟨si+1,true,putR (putR sr o.d d) o.e e,bufs,sl++[((si:Int),pl)]⟩) (by unfold stepF;simp only [ho];rw [if_neg h16,if_neg h17,hD]) ?_
     exact ih _ (by simp only;omega) rfl hi (by simp only [putR_len];exact hlen) (by rw [hnx];exact hst) (by simp only [c_plain ho h16 h17,List.length_append,List.length_singleton];omega)
def within (D:DoT) (ops:List LOp) (E:List Int) (B:Nat):Nat→RS→Prop
 | 0,_=>False
 | f+1,s=>s.l.length≤B∧(s.i < ops.length→∀ s',stepF D ops E s=some s'→within D ops E B f s')
theorem step_len {D:DoT} {ops:List LOp} {E:List Int} {s s':RS} (h:stepF D ops E s=some s'):s.l.length≤s'.l.length:=by
 unfold stepF at h
 cases ho:ops[s.i]? with
 | none=>rw [ho] at h;cases h
 | some o =>
   rw [ho] at h
   simp only at h
   split at h
   · cases h;simp
   · split at h
     · split at h
       · cases h
       · split at h
         · cases h;exact Nat.le_refl _
         · cases h;exact Nat.le_refl _
     · split at h
       · cases h
       · cases h;simp
theorem fin_len {D:DoT} {ops:List LOp} {E:List Int}:∀ (f:Nat) {s e:RS},finF D ops E f s=some (some e)→s.l.length≤e.l.length:=by
 intro f
 induction f with
 | zero=>intro s e h;cases h
 | succ f ih =>
   intro s e h
   unfold finF at h
   split at h
   · cases h;exact Nat.le_refl _
   · cases hs:stepF D ops E s with
     | none=>rw [hs] at h;cases h
     | some s'=>rw [hs] at h;exact Nat.le_trans (step_len hs) (ih h)
def totD (D:DoT):DoT:=fun k i b bufs x y z=>some ((D k i b bufs x y z).getD (0,0,-1,bufs))
theorem totD_total (D:DoT):Total (totD D):=fun _ _ _ _ _ _ _ h=>by cases h
theorem totD_step {D:DoT} {ops:List LOp} {E:List Int} {s s':RS} (h:stepF D ops E s=some s'):stepF (totD D) ops E s=some s':=by
 unfold stepF at h ⊢
 cases ho:ops[s.i]? with
 | none=>rw [ho] at h;cases h
 | some o =>
   rw [ho] at h
   simp only at h ⊢
   split at h
   · rename_i h1;rw [if_pos h1];exact h
   · rename_i h1
     rw [if_neg h1]
     split at h
     · rename_i h2;rw [if_pos h2];exact h
     · rename_i h2
       rw [if_neg h2]
       cases hD:D o.kind o.imm o.buf s.bufs (atR s.r o.a) (atR s.r o.b) (atR s.r o.c) with
       | none=>rw [hD] at h;cases h
       | some v=>rw [hD] at h;unfold totD;simp only [hD,Option.getD_some];exact h
theorem within_of {D:DoT} {ops:List LOp} {E:List Int}:∀ (f:Nat) {s e:RS},finF (totD D) ops E f s=some (some e)→within D ops E e.l.length f s:=by
 intro f
 induction f with
 | zero=>intro s e h;cases h
 | succ f ih =>
   intro s e h
   refine ⟨fin_len _ h,fun hi s' hs=>?_⟩
   unfold finF at h
   rw [if_neg (by omega),totD_step hs] at h
   exact ih h
theorem within_mono {D:DoT} {ops:List LOp} {E:List Int} {B B':Nat} (hB:B≤B'):∀ (f:Nat) {s:RS},within D ops E B f s→within D ops E B' f s:=by
 intro f
 induction f with
 | zero=>exact fun h=>h.elim
 | succ f ih=>exact fun h=>⟨Nat.le_trans h.1 hB,fun hi s' hs=>ih (h.2 hi s' hs)⟩
theorem run_within {D:DoT} {p:LP} (h0:(checkF p 64).2=0) (h5:stepsF p.ops≤5000) (bufs:List (List Nat)):∃ f,within D p.ops (endsF p.ops) 5000 f ⟨0,true,List.replicate p.regs.toNat 0,bufs,[]⟩:=by
 obtain ⟨f,e,h1,h2⟩:=cost_top (totD_total D) h0 p.ops.length ⟨0,true,List.replicate p.regs.toNat 0,bufs,[]⟩ (by omega) rfl (Nat.zero_le _) (by have:=(head_ok (check_run h0).1).2.1;simp;omega) rfl (Nat.zero_le _)
 have h3:=c_steps h0 h5
 exact ⟨f,within_mono (by omega) f (within_of f h1)⟩
end Go.Proofs.YtppoiahhaclleaaDoor
namespace Go.Proofs.YtppoiahhaclleaaDoor
open Go.RowKit
set_option maxRecDepth 100000
variable {aB kV kW aC lA lB lC aE aF aG aH aI aJ aK aL aM aN aO aP aQ aR aS aT aU aV aW aX aY aZ a8 bA bB bC bD bE bF bG bH bI bJ bK bL bM bN bO bP bQ bS bT bU bV bW bX bY bZ b4 b6 cA cC cD cE cF cG cH cI cJ cK cL cM cN cO cP cQ cR cT cU : Value}
structure TwoOwn (w:World) (B:Nat) (A1:Option Addr) (c1:Nat) (A2:Option Addr) (c2:Nat) (l:List (Int×Int)):Prop where
 o1:w.ownsRow B 3 1 (.slice A1 l.length c1) l.length (intV (l.map (·.1)))
 o2:w.ownsRow B 3 1 (.slice A2 l.length c2) l.length (intV (l.map (·.2)))
 ne:∀ g,(Value.slice A1 l.length c1).ownBlock=some g→(Value.slice A2 l.length c2).ownBlock≠some g
theorem grown_keep {w w':World} {B e sz n m:Nat} {v u:Value} {xs ys:List Value} (h:w.grownBy w' v.ownBlock) (_ho:w.ownsRow B e sz v n xs) (hu:w.ownsRow B e sz u m ys) (hne:∀ g,v.ownBlock=some g→u.ownBlock≠some g):w'.ownsRow B e sz u m ys :=
 row_keep (fun g hg=>h.block g (own_lt hu g hg).1 (fun e=>hne g e.symm hg)) hu
theorem step_append1 {ops:Array Oper} {o:Oper} {a:Act} {w:World} {K:Act→World→Prop} {Q:Exit→Act→World→Prop} {E:Prop} (hg:o.guard=none) (s x:Operand) (hop:o.op=.call { callee:=.builtin .append,args:=#[s,x],argTypes:=#[35,35] })
   {base n:Nat} {v:Value} {xs:List Int} {p:Int} {g:Nat} (hs:a.eval s=v) (hn:xs.length=n) (hown:w.ownsRow base 3 1 v n (intV xs)) (hx:a.eval x=.slice (some ⟨g,0,none⟩) 1 1)
   (hgb:w.heap[g]? = some (.cells (intV [p]).toArray 3 (0,0))) (h63:n≤1000000000) (hbase:base≤w.heap.size)
   (k:∀ v' w',w'.ownsRow base 3 1 v' (n+1) (intV (xs++[p]))→w.grownBy w' v.ownBlock→(v'.ownBlock=v.ownBlock∨v'.ownBlock=some w.heap.size)→w.ownsRow base 3 1 v n (intV xs)→K (a.put o.dst v') w') :
   if Region.wanted o (yielded ops a.tmps)=true then Oper.wp Tryd.prog o a w K Q else E:=by
 have hw:Region.wanted o (yielded ops a.tmps)=true:=by simp [Region.wanted,hg]
 rw [if_pos hw]
 obtain ⟨v',w',h1,h2,h3,h4⟩:=exec_append1 s x hop hs hn hown hx hgb h63 hbase
 unfold Oper.wp
 rw [h1]
 exact k v' w' h2 h3 h4 hown
theorem grown_blk {w1 w2:World} {v:Value} {j n:Nat} {c} (hg:w1.grownBy w2 v.ownBlock) (hj:w1.heap[j]? = some c) (hl:∀ g,v.ownBlock=some g→g < n) (hn:n≤j):w2.heap[j]? = some c :=
 (hg.block j (by rcases Nat.lt_or_ge j w1.heap.size with h | h; · exact h
                 · rw [Array.getElem?_eq_none h] at hj;cases hj) (fun e=>by have:=hl j e.symm;omega)).trans hj
theorem grown_below {w w1 w2:World} {v:Value} {B n:Nat} {xs:List Value} (hb:Below B w w1) (ho:w1.ownsRow B 3 1 v n xs) (hg:w1.grownBy w2 v.ownBlock) (hB:B≤w1.heap.size):Below B w w2 :=
 hb.trans ⟨hg.os,hg.tape,hg.output,hg.size,fun j hj=>hg.block j (by omega) (fun e=>by have:=(own_lt ho j e.symm).2;omega)⟩
theorem ne_own {v v' u:Value} {n0 n1:Nat} (hor:v'.ownBlock=v.ownBlock∨v'.ownBlock=some n1) (hne:∀ g,v.ownBlock=some g→u.ownBlock≠some g) (hl:∀ g,u.ownBlock=some g→g < n0) (hn:n0≤n1):∀ g,u.ownBlock=some g→v'.ownBlock≠some g:=fun g hg e=>by
 rcases hor with h | h
 · rw [h] at e;exact hne g e hg
 · rw [h] at e
   have:=Option.some.inj e
   have:=hl g hg
   omega
def onlyNormal (Q:Exit→Act→World→Prop) (e:Exit) (a:Act) (w:World):Prop:=match e with
 | .normal=>Q .normal a w
 | _=>False
theorem wp_only {c:Code} {Q:Exit→Act→World→Prop} {a:Act} {w:World} (h:c.wp Tryd.prog (onlyNormal Q) a w):c.wp Tryd.prog Q a w :=
 Code.wp_mono (fun e a w h=>by cases e <;> first | exact h | exact h.elim) h
theorem alloc2_new (w:World) (x y:Int):((w.alloc (.cells (intV [x]).toArray 3)).alloc (.cells (intV [y]).toArray 3)).heap[w.heap.size+1]? = some (.cells (intV [y]).toArray 3 (0,0)):=by
 have h:=heap_alloc_new (w.alloc (.cells (intV [x]).toArray 3)) (.cells (intV [y]).toArray 3)
 rw [show (w.alloc (.cells (intV [x]).toArray 3)).heap.size=w.heap.size+1 by simp] at h
 exact h
theorem arm_cell {w0 w1 w2:World} {v:Value} {B n:Nat} {xs:List Value} {q:Addr} {u:Value} (h0:w0.cell? q=some u) (hb:Below w0.heap.size w0 w1) (ho:w1.ownsRow B 3 1 v n xs) (hg:w1.grownBy w2 v.ownBlock) (hp:q.block < B) (hB:B≤w0.heap.size):w2.cell? q=some u :=
 ((World.cell?_of_block (w:=w1) (a:=q) (hg.block q.block (Nat.lt_of_lt_of_le hp (Nat.le_trans hB hb.size)) (fun e=>by have:=(own_lt ho q.block e.symm).2;omega))).trans (hb.cell (Nat.lt_of_lt_of_le hp hB))).trans h0
set_option maxHeartbeats 4000000 in
theorem st_r13 {A1 A2:Option Addr} {bp g off no co k c1 c2 B imm:Nat} {sum:Int} {l:List (Int×Int)} (w:World) (Q:Exit→Act→World→Prop) (h:TwoOwn w B A1 c1 A2 c2 l) (hb2:w.cell? ⟨bp,2,none⟩=some (.slice (some ⟨g,off,none⟩) no co)) (hi:w.cell? ⟨g,off+k*8+7,none⟩=some (.int .u64 (imm:Nat))) (hk:k < no∧no≤65536∧imm≤1048576) (hlt:bp < B∧g < B) (hBw:B≤w.heap.size) (hll:l.length≤65536)
   (kk:∀ (A1' A2':Option Addr) (c1' c2':Nat) (mW mX lD lE lF lG lH lI lJ lK lL lM lN lO:Value) (w':World),TwoOwn w' B A1' c1' A2' c2' (l++[(sum,(imm:Int))])∧Below B w w'→Q .normal ⟨#[aB,.pointer (some ⟨bp,0,none⟩),kV,kW,aC,.slice A1' (l.length+1) c1',.int .i64 sum,.slice A2' (l.length+1) c2',.int .i64 (k:Nat),lA,lB,lC,aE,aF,aG,aH,aI,aJ,aK,aL,aM,aN,aO,aP,aQ,aR,aS,aT,aU,aV,aW,aX,aY,aZ,a8,mW,mX,lD,lE,lF,lG,lH,lI,lJ,lK,lL,lM,lN,lO,bO,bP,bQ,bS,bT,bU,bV,bW,bX,bY,bZ,b4,b6,cA,cC,cD,cE,cF,cG,cH,cI,cJ,cK,cL,cM,cN,cO,cP,cQ,cR,cT,cU],[]⟩ w'):(partR Tryd.f11 13).wp Tryd.prog Q ⟨#[aB,.pointer (some ⟨bp,0,none⟩),kV,kW,aC,.slice A1 l.length c1,.int .i64 sum,.slice A2 l.length c2,.int .i64 (k:Nat),lA,lB,lC,aE,aF,aG,aH,aI,aJ,aK,aL,aM,aN,aO,aP,aQ,aR,aS,aT,aU,aV,aW,aX,aY,aZ,a8,bA,bB,bC,bD,bE,bF,bG,bH,bI,bJ,bK,bL,bM,bN,bO,bP,bQ,bS,bT,bU,bV,bW,bX,bY,bZ,b4,b6,cA,cC,cD,cE,cF,cG,cH,cI,cJ,cK,cL,cM,cN,cO,cP,cQ,cR,cT,cU],[]⟩ w:=by
 have HH:=Lh h
 have HO:=Lh (And.intro h.o1 h.o2)
 have HC:=Lh (And.intro hb2 hi)
 have HK:=Lh kk
 have HBW:=Lh hBw
 have HLT:=Lh hlt
 have HLL:=Lh hll
 have i0:(0:Int)≤(k:Int):=by omega
 have i1:(k:Int) < (no:Int):=by omega
 have q1:IntKind.i64.wrap (k:Int)=k:=by rw [IntKind.wrap_i64];omega
 have q2:IntKind.i64.wrap (imm:Int)=imm:=by rw [IntKind.wrap_i64];omega
 have f1:w.drew.cell? ⟨bp,2,none⟩=some (.slice (some ⟨g,off,none⟩) no co):=hb2
 have f2:w.drew.cell? ⟨g,off+k*8+7,none⟩=some (.int .u64 (imm:Nat)):=hi
 clear h hb2 hi hk hlt hBw hll kk
 conv=>arg 2;whnf
 refine wp_only ?_
 have g1:(w.alloc (.cells #[.int .i64 sum] 3)).cell? ⟨bp,2,none⟩=some (.slice (some ⟨g,off,none⟩) no co):=(((Below.refl _ _).alloc (Nat.le_refl _) _).cell (p:=⟨bp,2,none⟩) (by have:=HLT.out;have:=HBW.out;simp only [];omega)).trans f1
 have g2:(w.alloc (.cells #[.int .i64 sum] 3)).cell? ⟨g,off+k*8+7,none⟩=some (.int .u64 (imm:Nat)):=(((Below.refl _ _).alloc (Nat.le_refl _) _).cell (p:=⟨g,off+k*8+7,none⟩) (by have:=HLT.out;have:=HBW.out;simp only [];omega)).trans f2
 go_region_law (first
   | (refine step_append1 rfl _ _ rfl (base:=B) (v:=.slice A2 l.length c2) rfl (List.length_map ..) (by first | exact HX.out | exact HX.out.alloc _) rfl (p:=(imm:Int)) (by first | exact heap_alloc_new _ _ | exact grown_blk HV.out.2.1 (alloc2_new _ _ _) (fun g hg=>(own_lt HO.out.1 g hg).1) (by omega) | exact grown_blk HV.out.2.1 (alloc2_new _ _ _) (fun g hg=>(own_lt HO.out.2 g hg).1) (by omega) | exact grown_blk HV.out.2.1 (heap_alloc_new _ _) (fun g hg=>(own_lt HO.out.1 g hg).1) (by simp) | exact grown_blk HV.out.2.1 ((Below.heap_alloc _ _ _ (by simp)).trans (heap_alloc_new _ _)) (fun g hg=>(own_lt HO.out.1 g hg).1) (by simp)) (by have:=HLL.out;omega) (by have:=HBL.out.size;have:=HBW.out;simp;omega) ?_;intro pC w4 ho4 hg4 hb4 ho0;have HF:=Lh (And.intro ho4 (grown_keep hg4 ho0 (by first | exact HV.out.1 | exact HV.out.1.alloc _) HNE.out));have HN:=Lh (ne_own hb4 HNE.out (fun g hg=>(own_lt HV.out.1 g hg).1) (by simp));have HZ:=Lh (grown_below (w:=w) (B:=B) (by first | exact HBL.out | exact HBL.out.trans ((Below.refl _ _).alloc (by have:=HBL.out.size;have:=HBW.out;omega) _)) ho0 hg4 (by have:=HBL.out.size;have:=HBW.out;simp;omega));clear ho4 hg4 hb4 ho0)
   | (refine step_append1 rfl _ _ rfl (base:=B) (v:=.slice A1 l.length c1) rfl (List.length_map ..) (by first | exact HX.out | exact HX.out.alloc _) rfl (p:=sum) (by first | exact heap_alloc_new _ _ | exact grown_blk HV.out.2.1 (alloc2_new _ _ _) (fun g hg=>(own_lt HO.out.1 g hg).1) (by omega) | exact grown_blk HV.out.2.1 (alloc2_new _ _ _) (fun g hg=>(own_lt HO.out.2 g hg).1) (by omega) | exact grown_blk HV.out.2.1 (heap_alloc_new _ _) (fun g hg=>(own_lt HO.out.2 g hg).1) (by simp) | exact grown_blk HV.out.2.1 ((Below.heap_alloc _ _ _ (by simp)).trans (heap_alloc_new _ _)) (fun g hg=>(own_lt HO.out.2 g hg).1) (by simp)) (by have:=HLL.out;omega) (by have:=HBL.out.size;have:=HBW.out;simp;omega) ?_;intro pC w4 ho4 hg4 hb4 ho0;have HF:=Lh (And.intro ho4 (grown_keep hg4 ho0 (by first | exact HV.out.1 | exact HV.out.1.alloc _) HNE.out));have HN:=Lh (ne_own hb4 HNE.out (fun g hg=>(own_lt HV.out.1 g hg).1) (by simp));have HZ:=Lh (grown_below (w:=w) (B:=B) (by first | exact HBL.out | exact HBL.out.trans ((Below.refl _ _).alloc (by have:=HBL.out.size;have:=HBW.out;omega) _)) ho0 hg4 (by have:=HBL.out.size;have:=HBW.out;simp;omega));clear ho4 hg4 hb4 ho0)
   | (refine step_append1 rfl _ _ rfl (base:=B) (v:=.slice A1 l.length c1) rfl (List.length_map ..) (by first | exact HO.out.1 | exact HO.out.1.alloc _ | exact (HO.out.1.alloc _).alloc _) rfl (p:=sum) (by first | exact heap_alloc_new _ _ | exact alloc2_new _ _ _ | exact (Below.heap_alloc _ _ _ (by simp)).trans (heap_alloc_new _ _)) (by have:=HLL.out;omega) (by first | exact HBW.out | (have:=HBW.out;simp;omega)) ?_;intro mZ w2 ho2 hg2 hb2 ho0;have f1:=arm_cell (w0:=w.drew) f1 (by (first | exact Below.refl _ _ | exact (Below.refl _ _).alloc (Nat.le_refl _) _ | exact ((Below.refl _ _).alloc (Nat.le_refl _) _).alloc (by simp) _)) ho0 hg2 HLT.out.1 HBW.out;have f2:=arm_cell (w0:=w.drew) f2 (by (first | exact Below.refl _ _ | exact (Below.refl _ _).alloc (Nat.le_refl _) _ | exact ((Below.refl _ _).alloc (Nat.le_refl _) _).alloc (by simp) _)) ho0 hg2 HLT.out.2 HBW.out;have HV:=Lh (And.intro ho2 (And.intro hg2 hb2));have HX:=Lh (grown_keep hg2 ho0 (u:=.slice A2 l.length c2) (by first | exact HO.out.2 | exact HO.out.2.alloc _ | exact (HO.out.2.alloc _).alloc _) HH.out.ne);have HNE:=Lh (ne_own (u:=.slice A2 l.length c2) hb2 HH.out.ne (fun g hg=>(own_lt HO.out.2 g hg).1) (by simp;try omega));have HBL:=Lh (grown_below (w:=w) (B:=B) (by first | exact (((Below.refl _ _).drew.alloc (Nat.le_refl _) _).mono HBW.out) | exact ((((Below.refl _ _).drew.alloc (Nat.le_refl _) _).alloc (by simp) _).mono HBW.out)) ho0 hg2 (by have:=HBW.out;simp;omega));clear ho2 hg2 hb2 ho0)
   | (refine step_append1 rfl _ _ rfl (base:=B) (v:=.slice A2 l.length c2) rfl (List.length_map ..) (by first | exact HO.out.2 | exact HO.out.2.alloc _ | exact (HO.out.2.alloc _).alloc _) rfl (p:=(imm:Int)) (by first | exact heap_alloc_new _ _ | exact alloc2_new _ _ _ | exact (Below.heap_alloc _ _ _ (by simp)).trans (heap_alloc_new _ _)) (by have:=HLL.out;omega) (by first | exact HBW.out | (have:=HBW.out;simp;omega)) ?_;intro mZ w2 ho2 hg2 hb2 ho0;have f1:=arm_cell (w0:=w.drew) f1 (by (first | exact Below.refl _ _ | exact (Below.refl _ _).alloc (Nat.le_refl _) _ | exact ((Below.refl _ _).alloc (Nat.le_refl _) _).alloc (by simp) _)) ho0 hg2 HLT.out.1 HBW.out;have f2:=arm_cell (w0:=w.drew) f2 (by (first | exact Below.refl _ _ | exact (Below.refl _ _).alloc (Nat.le_refl _) _ | exact ((Below.refl _ _).alloc (Nat.le_refl _) _).alloc (by simp) _)) ho0 hg2 HLT.out.2 HBW.out;have HV:=Lh (And.intro ho2 (And.intro hg2 hb2));have HX:=Lh (grown_keep hg2 ho0 (u:=.slice A1 l.length c1) (by first | exact HO.out.1 | exact HO.out.1.alloc _ | exact (HO.out.1.alloc _).alloc _) (fun g h1 h2=>HH.out.ne g h2 h1));have HNE:=Lh (ne_own (u:=.slice A1 l.length c1) hb2 (fun g h1 h2=>HH.out.ne g h2 h1) (fun g hg=>(own_lt HO.out.1 g hg).1) (by simp;try omega));have HBL:=Lh (grown_below (w:=w) (B:=B) (by first | exact (((Below.refl _ _).drew.alloc (Nat.le_refl _) _).mono HBW.out) | exact ((((Below.refl _ _).drew.alloc (Nat.le_refl _) _).alloc (by simp) _).mono HBW.out)) ho0 hg2 (by have:=HBW.out;simp;omega));clear ho2 hg2 hb2 ho0))
 all_goals
   obtain ⟨A1',c1',rfl⟩:=own_form HF.out.2
   obtain ⟨A2',c2',rfl⟩:=own_form HF.out.1
   have hln:(l++[(sum,(imm:Int))]).length=l.length+1:=by simp
   have hf1:=HF.out.2
   have hf2:=HF.out.1
   have hn:=HN.out
   have hz:=HZ.out
   exact HK.out A1' A2' c1' c2' _ _ _ _ _ _ _ _ _ _ _ _ _ _ _ ⟨⟨by rw [hln,List.map_append];exact hf1,by rw [hln,List.map_append];exact hf2,by rw [hln];exact hn⟩,hz⟩
end Go.Proofs.YtppoiahhaclleaaDoor
namespace Go.Proofs.YtppoiahhaclleaaDoor
open Go.RowKit
set_option maxRecDepth 100000
variable {aB aA kV kW aC kX kZ lB lC aE aF aG aH aI aJ aK aL aM aN aO aP aQ aR aS aT aU aV aW aX aY aZ a8 bA bB bC bD bE bF bG bH bI bJ bK bL bM bN bO bP bQ bS bT bU bV bW bX bY bZ b4 b6 cA cC cD cE cF cG cH cI cJ cK cL cM cN cO cP cQ cR cT cU : Value}
set_option maxHeartbeats 4000000 in
theorem st_r21 {x1 x2 m c1 c2:Nat} (w:World) (Q:Exit→Act→World→Prop) (h1:m+1≤c1) (h2:m+1≤c2) (hm:m≤65536)
   (kk:∀ (mJ mY iS iT iU iV:Value) (w':World),w'=w.drew→Q .normal ⟨#[aB,aA,kV,kW,aC,.slice (some ⟨x1,0,none⟩) m c1,kX,.slice (some ⟨x2,0,none⟩) m c2,kZ,.int .i64 (m:Nat),lB,lC,aE,aF,aG,aH,aI,aJ,aK,aL,aM,aN,aO,aP,aQ,aR,aS,aT,aU,aV,aW,aX,aY,aZ,a8,bA,bB,bC,bD,bE,bF,bG,bH,bI,bJ,bK,bL,bM,bN,bO,bP,bQ,bS,bT,bU,bV,bW,bX,bY,bZ,b4,b6,cA,cC,cD,cE,cF,cG,cH,cI,cJ,cK,cL,cM,mJ,mY,iS,iT,iU,iV,cU],[]⟩ w'):(partR Tryd.f11 21).wp Tryd.prog Q ⟨#[aB,aA,kV,kW,aC,.slice (some ⟨x1,0,none⟩) (m+1) c1,kX,.slice (some ⟨x2,0,none⟩) (m+1) c2,kZ,.int .i64 (m:Nat),lB,lC,aE,aF,aG,aH,aI,aJ,aK,aL,aM,aN,aO,aP,aQ,aR,aS,aT,aU,aV,aW,aX,aY,aZ,a8,bA,bB,bC,bD,bE,bF,bG,bH,bI,bJ,bK,bL,bM,bN,bO,bP,bQ,bS,bT,bU,bV,bW,bX,bY,bZ,b4,b6,cA,cC,cD,cE,cF,cG,cH,cI,cJ,cK,cL,cM,cN,cO,cP,cQ,cR,cT,cU],[]⟩ w:=by
 have HK:=Lh kk
 have i0:(0:Int)≤(m:Int):=by omega
 have i1:(m:Int)≤(c1:Int):=by omega
 have i2:(m:Int)≤(c2:Int):=by omega
 have j1:m≤c1:=by omega
 have j2:m≤c2:=by omega
 have q1:IntKind.i64.wrap (m:Int)=m:=by rw [IntKind.wrap_i64];omega
 clear kk h1 h2 hm
 conv=>arg 2;whnf
 go_wp2
 (refine wp_region_lines (fun w_=>True) (by kernel_rfl) (by kernel_rfl) trivial ?_)
 (try simp only [])
 repeat (first | (refine runL_no (by rfl) ?_;(try simp only [Act.put,List.setIfInBounds_toArray,List.set_cons_zero,List.set_cons_succ])) | (refine runL_val (v:=?_) (by rfl) ?_ ?_;rotate_left;(focus (intro w_ hw_;skip;go_simp;(try with_reducible rfl);done));(try simp only [Act.put,List.setIfInBounds_toArray,List.set_cons_zero,List.set_cons_succ])))
 (refine runL_nil ?_)
 exact HK.out _ _ _ _ _ _ _ rfl
end Go.Proofs.YtppoiahhaclleaaDoor
