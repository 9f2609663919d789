/- Part 8 of a claim; what it proves stands in its last text. -/
import Derived.Test.YtocndimihokcmaaGreatAm7
namespace Go.Proofs.YtocndimihokcmaaGreat
open Go.RowKit
set_option maxRecDepth 100000
variable {aA aD aF aG aH u8 aI aJ aK aL aM aN aO aP aQ aR aS aT aU aV aW aX aY aZ bA bB bC bD bE u32 bF bG bH bI bJ bK bL bM bN bO bP bQ bR bS bT bU bV bW bX bY bZ cA cB cC cE cF cG cH cI cJ cK u64 cL cM cN cO cP cQ cR cU cV cW cX cY cZ c8 : Value}
open Go.Maps (Keyed)
open Go.Maps
theorem mod_bits {M:Nat} (hM:M < 3) (m b:Int):∃ q0 q1 q2:Nat,IntKind.u8.wrap ((M:Int)*64)=(q0:Int)∧IntKind.u8.wrap ((lo3 m:Int)*8)=(q1:Int)∧Go.bits .or .u8 (q0:Int) (q1:Int)=(q2:Int) ∧
   Go.bits .or .u8 (q2:Int) (lo3 b:Int)=((64*M+8*lo3 m+lo3 b:Nat):Int)∧Go.bits .or .u8 (q2:Int) 4=((64*M+8*lo3 m+4:Nat):Int):=by
 have h1:=lo3_lt m
 have h2:=lo3_lt b
 refine ⟨64*M,8*lo3 m,64*M+8*lo3 m,by rw [wrapU8];omega,by rw [wrapU8];omega,?_,?_,?_⟩
 · rw [u8_join 6 _ _ (by omega) (by omega) (by omega) (by omega) (by omega) (by omega)];omega
 · rw [u8_join 3 _ _ (by omega) (by omega) (by omega) (by omega) (by omega) (by omega)];omega
 · rw [u8_join 3 _ _ (by omega) (by omega) (by omega) (by omega) (by omega) (by omega)];omega
theorem sib_bits {s x:Nat} (hs:s < 4) (hx:x < 8) (b:Int):∃ s0 s1 s2:Nat,IntKind.u8.wrap ((s:Int)*64)=(s0:Int)∧IntKind.u8.wrap ((x:Int)*8)=(s1:Int)∧Go.bits .or .u8 (s0:Int) (s1:Int)=(s2:Int)∧Go.bits .or .u8 (s2:Int) (lo3 b:Int)=((64*s+8*x+lo3 b:Nat):Int):=by
 have h2:=lo3_lt b
 refine ⟨64*s,8*x,64*s+8*x,by rw [wrapU8];omega,by rw [wrapU8];omega,?_,?_⟩
 · rw [u8_join 6 _ _ (by omega) (by omega) (by omega) (by omega) (by omega) (by omega)];omega
 · rw [u8_join 3 _ _ (by omega) (by omega) (by omega) (by omega) (by omega) (by omega)];omega
theorem plc_cells {w w':World} {B:Nat} {i:Ins} (h:w.heap[B]? = some (.cells #[.int .i64 i.base,.int .i64 i.index,.int .i64 i.scale,.int .i64 i.disp] 38 (0,0))) (hb:Below w.heap.size w w'):w'.cell? ⟨B,0,none⟩=some (.int .i64 i.base)∧w'.cell? ⟨B,1,none⟩=some (.int .i64 i.index)∧w'.cell? ⟨B,2,none⟩=some (.int .i64 i.scale)∧w'.cell? ⟨B,3,none⟩=some (.int .i64 i.disp):=by
 have e:=(hb.block B (lt_of_block h)).trans h
 simp [World.cell?,e]
set_option maxHeartbeats 4000000 in
theorem place_r6 {mid:Int} {B M:Nat} {i:Ins} (w:World) (Q:Exit→Act→World→Prop) (hp:w.heap[B]? = some (.cells #[.int .i64 i.base,.int .i64 i.index,.int .i64 i.scale,.int .i64 i.disp] 38 (0,0))) (hM:M < 3)
   (k:∀ (g:Nat) (c9 dA dB dC dD dE dF dG dH dI dJ:Value) (w':World),w'.ownsRow w.heap.size 5 1 (.slice (some ⟨g,0,none⟩) 1 1) 1 (u8V [64*M+8*lo3 mid+lo3 i.base])∧Below w.heap.size w w'→Q .normal ⟨#[.int .i64 mid,aA,aD,.pointer (some ⟨B,0,none⟩),aF,.int .u8 (M:Nat),aG,.slice (some ⟨g,0,none⟩) 1 1,u8,aI,aJ,aK,aL,aM,aN,aO,aP,aQ,aR,aS,aT,aU,aV,aW,aX,aY,aZ,c9,dA,dB,dC,dD,dE,dF,dG,dH,dI,dJ,bK,bL,bM,bN,bO,bP,bQ,bR,bS,bT,bU,bV,bW,bX,bY,bZ,cA,cB,cC,cE,cF,cG,cH,cI,cJ,cK,u64,cL,cM,cN,cO,cP,cQ,cR,cU,cV,cW,cX,cY,cZ,c8],[]⟩ w'):(partR Tryz.f139 6).wp Tryz.prog Q ⟨#[.int .i64 mid,aA,aD,.pointer (some ⟨B,0,none⟩),aF,.int .u8 (M:Nat),aG,aH,u8,aI,aJ,aK,aL,aM,aN,aO,aP,aQ,aR,aS,aT,aU,aV,aW,aX,aY,aZ,bA,bB,bC,bD,bE,u32,bF,bG,bH,bI,bJ,bK,bL,bM,bN,bO,bP,bQ,bR,bS,bT,bU,bV,bW,bX,bY,bZ,cA,cB,cC,cE,cF,cG,cH,cI,cJ,cK,u64,cL,cM,cN,cO,cP,cQ,cR,cU,cV,cW,cX,cY,cZ,c8],[]⟩ w:=by
 have HK:=Lh k
 have HP:=Lh (fun (w_:World) (h_:Below w.heap.size w w_)=>plc_cells hp h_)
 have HL1:=Lh (fun w_=>low_any mid w_)
 have HL2:=Lh (fun w_=>low_any i.base w_)
 obtain ⟨q0,q1,q2,e0_,e1_,e2_,e3_,e4_⟩:=mod_bits hM mid i.base
 clear k hp
 conv=>arg 2;whnf
 obtain ⟨z1,hz1⟩:∃ z,z=64*M+8*lo3 mid+lo3 i.base:=⟨_,rfl⟩
 rw [←hz1] at e3_
 rw [←hz1] at HK
 clear hz1
 refine wp_region_grow (Below w.heap.size w) (by kernel_rfl) (by kernel_rfl) (Below.refl _ w).drew ?_
 have hSx0:=(Below.refl w.heap.size w).drew
 obtain ⟨x0,hx0⟩:∃ x0,x0=w.drew:=⟨_,rfl⟩
 rw [←hx0] at hSx0 ⊢
 clear hx0
 show runC _ _ _ 12 _ [0,1,2,3,4,5,6,7,8,9,10,11] _ _
 refine runC_at 0 (v:=?_) (by rfl) (by rfl) (by rfl) (by kernel_rfl) (by rfl) ?_ ?_
 rotate_left
 focus (intro w_ hw_;obtain ⟨f0_,f1_,f2_,f3_⟩:=HP.out w_ hw_;go_simp;(try with_reducible rfl);done)
 (try dsimp only [Act.put])
 show runC _ _ _ 11 _ [1,2,3,4,5,6,7,8,9,10,11] _ _
 try simp only [List.setIfInBounds_toArray,List.set_cons_zero,List.set_cons_succ]
 refine runC_at 1 (v:=?_) (by rfl) (by rfl) (by rfl) (by kernel_rfl) (by rfl) ?_ ?_
 rotate_left
 focus (intro w_ hw_;obtain ⟨f0_,f1_,f2_,f3_⟩:=HP.out w_ hw_;go_simp;(try with_reducible rfl);done)
 (try dsimp only [Act.put])
 show runC _ _ _ 10 _ [2,3,4,5,6,7,8,9,10,11] _ _
 try simp only [List.setIfInBounds_toArray,List.set_cons_zero,List.set_cons_succ]
 refine runC_at 2 (v:=?_) (by rfl) (by rfl) (by rfl) (by kernel_rfl) (by rfl) ?_ ?_
 rotate_left
 focus (intro w_ hw_;obtain ⟨f0_,f1_,f2_,f3_⟩:=HP.out w_ hw_;go_simp;(try with_reducible rfl);done)
 (try dsimp only [Act.put])
 show runC _ _ _ 9 _ [3,4,5,6,7,8,9,10,11] _ _
 try simp only [List.setIfInBounds_toArray,List.set_cons_zero,List.set_cons_succ]
 refine runC_at 6 (v:=?_) (by rfl) (by rfl) (by rfl) (by kernel_rfl) (by rfl) ?_ ?_
 rotate_left
 focus (intro w_ hw_;obtain ⟨f0_,f1_,f2_,f3_⟩:=HP.out w_ hw_;go_simp;(try with_reducible rfl);done)
 (try dsimp only [Act.put])
 show runC _ _ _ 8 _ [3,4,5,7,8,9,10,11] _ _
 try simp only [List.setIfInBounds_toArray,List.set_cons_zero,List.set_cons_succ]
 refine runC_at 7 (v:=?_) (by rfl) (by rfl) (by rfl) (by kernel_rfl) (by rfl) ?_ ?_
 rotate_left
 focus (intro w_ hw_;obtain ⟨f0_,f1_,f2_,f3_⟩:=HP.out w_ hw_;go_simp;(try with_reducible rfl);done)
 (try dsimp only [Act.put])
 show runC _ _ _ 7 _ [3,4,5,8,9,10,11] _ _
 try simp only [List.setIfInBounds_toArray,List.set_cons_zero,List.set_cons_succ]
 refine runC_one 3 (by kernel_rfl) (by kernel_rfl) (by rfl) (by rfl) ?_
 refine tdoes_call (f:=?_) (args:=?_) (w1:=?_) ?_ ?_
 rotate_left 3
 focus (go_simp;refine ⟨⟨?_,?_⟩,?_⟩ <;> with_reducible rfl)
 refine (HL1.out x0).mono ?_
 rintro e_ w1_ ⟨rfl,hw_⟩
 subst w1_
 refine ⟨_,rfl,sameS hSx0 ?_⟩
 (try dsimp only [Act.put])
 try simp only [List.setIfInBounds_toArray,List.set_cons_zero,List.set_cons_succ]
 show runC _ _ _ 6 _ [4,5,8,9,10,11] _ _
 refine runC_at 4 (v:=?_) (by rfl) (by rfl) (by rfl) (by kernel_rfl) (by rfl) ?_ ?_
 rotate_left
 focus (intro w_ hw_;obtain ⟨f0_,f1_,f2_,f3_⟩:=HP.out w_ hw_;go_simp;(try with_reducible rfl);done)
 (try dsimp only [Act.put])
 show runC _ _ _ 5 _ [5,8,9,10,11] _ _
 try simp only [List.setIfInBounds_toArray,List.set_cons_zero,List.set_cons_succ]
 refine runC_at 5 (v:=?_) (by rfl) (by rfl) (by rfl) (by kernel_rfl) (by rfl) ?_ ?_
 rotate_left
 focus (intro w_ hw_;obtain ⟨f0_,f1_,f2_,f3_⟩:=HP.out w_ hw_;go_simp;(try with_reducible rfl);done)
 (try dsimp only [Act.put])
 show runC _ _ _ 4 _ [8,9,10,11] _ _
 try simp only [List.setIfInBounds_toArray,List.set_cons_zero,List.set_cons_succ]
 refine runC_one 8 (by kernel_rfl) (by kernel_rfl) (by rfl) (by rfl) ?_
 refine tdoes_call (f:=?_) (args:=?_) (w1:=?_) ?_ ?_
 rotate_left 3
 focus (go_simp;refine ⟨⟨?_,?_⟩,?_⟩ <;> with_reducible rfl)
 refine (HL2.out x0).mono ?_
 rintro e_ w1_ ⟨rfl,hw_⟩
 subst w1_
 refine ⟨_,rfl,sameS hSx0 ?_⟩
 (try dsimp only [Act.put])
 try simp only [List.setIfInBounds_toArray,List.set_cons_zero,List.set_cons_succ]
 show runC _ _ _ 3 _ [9,10,11] _ _
 refine runC_at 9 (v:=?_) (by rfl) (by rfl) (by rfl) (by kernel_rfl) (by rfl) ?_ ?_
 rotate_left
 focus (intro w_ hw_;obtain ⟨f0_,f1_,f2_,f3_⟩:=HP.out w_ hw_;go_simp;(try with_reducible rfl);done)
 (try dsimp only [Act.put])
 show runC _ _ _ 2 _ [10,11] _ _
 try simp only [List.setIfInBounds_toArray,List.set_cons_zero,List.set_cons_succ]
 refine runC_one 10 (by kernel_rfl) (by kernel_rfl) (by rfl) (by rfl) ?_
 obtain ⟨x3,h_⟩:∃ q,q=x0.alloc (.cells #[.int .u8 (z1:Nat)] 5):=⟨_,rfl⟩
 have hb_:Below x0.heap.size x0 x3:=by rw [h_];exact (Below.refl _ _).alloc (Nat.le_refl _) _
 have hSx3:=hSx0.trans (hb_.mono hSx0.size)
 refine tdoes_op (w1:=x3) (v:=.slice (some ⟨x0.heap.size,0,none⟩) 1 1) (by rw [h_];exact exec_u8_1 _ rfl rfl) (sameS hSx3 ?_)
 (try dsimp only [Act.put])
 try simp only [List.setIfInBounds_toArray,List.set_cons_zero,List.set_cons_succ]
 obtain ⟨gL,hg_⟩:∃ q,q=x0.heap.size:=⟨_,rfl⟩
 have HOL:=Lh (show x3.ownsRow w.heap.size 5 1 (.slice (some ⟨gL,0,none⟩) 1 1) 1 (u8V [z1]) from by rw [hg_];exact own_lit8 [z1] #[.int .u8 (z1:Nat)] rfl hSx0.size (by simp) (by simp) (by rw [h_];exact heap_alloc_new x0 _) 1 rfl)
 have HBx3:=Lh hb_
 rw [←hg_]
 clear h_ hg_ hb_
 show runC _ _ _ 1 _ [11] _ _
 refine runC_at 11 (v:=?_) (by rfl) (by rfl) (by rfl) (by kernel_rfl) (by rfl) ?_ ?_
 rotate_left
 focus (intro w_ hw_;obtain ⟨f0_,f1_,f2_,f3_⟩:=HP.out w_ hw_;go_simp;(try with_reducible rfl);done)
 (try dsimp only [Act.put])
 show runC _ _ _ 0 _ [] _ _
 try simp only [List.setIfInBounds_toArray,List.set_cons_zero,List.set_cons_succ]
 refine runC_nil ?_
 exact HK.out gL _ _ _ _ _ _ _ _ _ _ _ x3 ⟨HOL.out,hSx3⟩
theorem exec_look {o:Oper} {a:Act} {w:World} {v:Value} {t:TypeId} {b:Option Nat} {k:Value} (x y:Operand) (ho:o.op=.lookup t x y false) (hx:a.eval x=.map b) (hy:a.eval y=k) (h:(Instr.lookup t (.map b) k false).run Tryz.prog w=.ok v w):(execOp a.eval o).run Tryz.prog w=.ok (.value v) w:=by
 unfold execOp
 simp only [ho,hx,hy,Sem.run_bind,h,Result.andThen_ok,Sem.run_pure]
set_option maxHeartbeats 4000000 in
theorem place_r11 {mid:Int} {B M X:Nat} {i:Ins} (w:World) (Q:Exit→Act→World→Prop) (hp:w.heap[B]? = some (.cells #[.int .i64 i.base,.int .i64 i.index,.int .i64 i.scale,.int .i64 i.disp] 38 (0,0))) (hM:M < 3) (hX:X < 8) (hsc:i.scale=1∨i.scale=2∨i.scale=4∨i.scale=8)
   (k:∀ (g:Nat) (dK dL dM dN dO dP dQ dR dS dT dU dV dW dX dY dZ d5 d6 d7 d8:Value) (w':World),w'.ownsRow w.heap.size 5 1 (.slice (some ⟨g,0,none⟩) 2 2) 2 (u8V [64*M+8*lo3 mid+4,64*scaleF i.scale+8*X+lo3 i.base])∧Below w.heap.size w w'→Q .normal ⟨#[.int .i64 mid,aA,aD,.pointer (some ⟨B,0,none⟩),aF,.int .u8 (M:Nat),aG,.slice (some ⟨g,0,none⟩) 2 2,.int .u8 (X:Nat),aI,aJ,aK,aL,aM,aN,aO,aP,aQ,aR,aS,aT,aU,aV,aW,aX,aY,aZ,bA,bB,bC,bD,bE,u32,bF,bG,bH,bI,bJ,bK,bL,bM,bN,bO,bP,bQ,bR,bS,bT,bU,bV,bW,bX,bY,dK,dL,dM,dN,dO,dP,dQ,dR,dS,dT,dU,dV,dW,dX,dY,dZ,d5,d6,d7,d8,cV,cW,cX,cY,cZ,c8],[]⟩ w'):(partR Tryz.f139 11).wp Tryz.prog Q ⟨#[.int .i64 mid,aA,aD,.pointer (some ⟨B,0,none⟩),aF,.int .u8 (M:Nat),aG,aH,.int .u8 (X:Nat),aI,aJ,aK,aL,aM,aN,aO,aP,aQ,aR,aS,aT,aU,aV,aW,aX,aY,aZ,bA,bB,bC,bD,bE,u32,bF,bG,bH,bI,bJ,bK,bL,bM,bN,bO,bP,bQ,bR,bS,bT,bU,bV,bW,bX,bY,bZ,cA,cB,cC,cE,cF,cG,cH,cI,cJ,cK,u64,cL,cM,cN,cO,cP,cQ,cR,cU,cV,cW,cX,cY,cZ,c8],[]⟩ w:=by
 have HK:=Lh k
 have HP:=Lh (fun (w_:World) (h_:Below w.heap.size w w_)=>plc_cells hp h_)
 have HL1:=Lh (fun w_=>low_any mid w_)
 have HL2:=Lh (fun w_=>low_any i.base w_)
 obtain ⟨q0,q1,q2,e0_,e1_,e2_,e3_,e4_⟩:=mod_bits hM mid i.base
 clear k hp
 conv=>arg 2;whnf
 have HSC:=Lh (fun w_=>scales_any w_)
 obtain ⟨s0,s1,s2,g0_,g1_,g2_,g3_⟩:=sib_bits (scale_dec hsc).1 hX i.base
 obtain ⟨z1,hz1⟩:∃ z,z=64*M+8*lo3 mid+4:=⟨_,rfl⟩
 obtain ⟨z2,hz2⟩:∃ z,z=64*scaleF i.scale+8*X+lo3 i.base:=⟨_,rfl⟩
 rw [←hz1] at e4_
 rw [←hz2] at g3_
 rw [←hz1,←hz2] at HK
 clear hz1 hz2
 refine wp_region_grow (Below w.heap.size w) (by kernel_rfl) (by kernel_rfl) (Below.refl _ w).drew ?_
 have hSx0:=(Below.refl w.heap.size w).drew
 obtain ⟨x0,hx0⟩:∃ x0,x0=w.drew:=⟨_,rfl⟩
 rw [←hx0] at hSx0 ⊢
 clear hx0
 show runC _ _ _ 21 _ [0,1,2,3,4,5,6,7,8,9,10,11,12,13,14,15,16,17,18,19,20] _ _
 refine runC_at 0 (v:=?_) (by rfl) (by rfl) (by rfl) (by kernel_rfl) (by rfl) ?_ ?_
 rotate_left
 focus (intro w_ hw_;obtain ⟨f0_,f1_,f2_,f3_⟩:=HP.out w_ hw_;go_simp;(try with_reducible rfl);done)
 (try dsimp only [Act.put])
 show runC _ _ _ 20 _ [1,2,3,4,5,6,7,8,9,10,11,12,13,14,15,16,17,18,19,20] _ _
 try simp only [List.setIfInBounds_toArray,List.set_cons_zero,List.set_cons_succ]
 refine runC_at 1 (v:=?_) (by rfl) (by rfl) (by rfl) (by kernel_rfl) (by rfl) ?_ ?_
 rotate_left
 focus (intro w_ hw_;obtain ⟨f0_,f1_,f2_,f3_⟩:=HP.out w_ hw_;go_simp;(try with_reducible rfl);done)
 (try dsimp only [Act.put])
 show runC _ _ _ 19 _ [2,3,4,5,6,7,8,9,10,11,12,13,14,15,16,17,18,19,20] _ _
 try simp only [List.setIfInBounds_toArray,List.set_cons_zero,List.set_cons_succ]
 refine runC_at 2 (v:=?_) (by rfl) (by rfl) (by rfl) (by kernel_rfl) (by rfl) ?_ ?_
 rotate_left
 focus (intro w_ hw_;obtain ⟨f0_,f1_,f2_,f3_⟩:=HP.out w_ hw_;go_simp;(try with_reducible rfl);done)
 (try dsimp only [Act.put])
 show runC _ _ _ 18 _ [3,4,5,6,7,8,9,10,11,12,13,14,15,16,17,18,19,20] _ _
 try simp only [List.setIfInBounds_toArray,List.set_cons_zero,List.set_cons_succ]
 refine runC_at 8 (v:=?_) (by rfl) (by rfl) (by rfl) (by kernel_rfl) (by rfl) ?_ ?_
 rotate_left
 focus (intro w_ hw_;obtain ⟨f0_,f1_,f2_,f3_⟩:=HP.out w_ hw_;go_simp;(try with_reducible rfl);done)
 (try dsimp only [Act.put])
 show runC _ _ _ 17 _ [3,4,5,6,7,9,10,11,12,13,14,15,16,17,18,19,20] _ _
 try simp only [List.setIfInBounds_toArray,List.set_cons_zero,List.set_cons_succ]
 refine runC_at 9 (v:=?_) (by rfl) (by rfl) (by rfl) (by kernel_rfl) (by rfl) ?_ ?_
 rotate_left
 focus (intro w_ hw_;obtain ⟨f0_,f1_,f2_,f3_⟩:=HP.out w_ hw_;go_simp;(try with_reducible rfl);done)
 (try dsimp only [Act.put])
 show runC _ _ _ 16 _ [3,4,5,6,7,10,11,12,13,14,15,16,17,18,19,20] _ _
 try simp only [List.setIfInBounds_toArray,List.set_cons_zero,List.set_cons_succ]
 refine runC_at 12 (v:=?_) (by rfl) (by rfl) (by rfl) (by kernel_rfl) (by rfl) ?_ ?_
 rotate_left
 focus (intro w_ hw_;obtain ⟨f0_,f1_,f2_,f3_⟩:=HP.out w_ hw_;go_simp;(try with_reducible rfl);done)
 (try dsimp only [Act.put])
 show runC _ _ _ 15 _ [3,4,5,6,7,10,11,13,14,15,16,17,18,19,20] _ _
 try simp only [List.setIfInBounds_toArray,List.set_cons_zero,List.set_cons_succ]
 refine runC_at 13 (v:=?_) (by rfl) (by rfl) (by rfl) (by kernel_rfl) (by rfl) ?_ ?_
 rotate_left
 focus (intro w_ hw_;obtain ⟨f0_,f1_,f2_,f3_⟩:=HP.out w_ hw_;go_simp;(try with_reducible rfl);done)
 (try dsimp only [Act.put])
 show runC _ _ _ 14 _ [3,4,5,6,7,10,11,14,15,16,17,18,19,20] _ _
 try simp only [List.setIfInBounds_toArray,List.set_cons_zero,List.set_cons_succ]
 refine runC_at 15 (v:=?_) (by rfl) (by rfl) (by rfl) (by kernel_rfl) (by rfl) ?_ ?_
 rotate_left
 focus (intro w_ hw_;obtain ⟨f0_,f1_,f2_,f3_⟩:=HP.out w_ hw_;go_simp;(try with_reducible rfl);done)
 (try dsimp only [Act.put])
 show runC _ _ _ 13 _ [3,4,5,6,7,10,11,14,16,17,18,19,20] _ _
 try simp only [List.setIfInBounds_toArray,List.set_cons_zero,List.set_cons_succ]
 refine runC_at 16 (v:=?_) (by rfl) (by rfl) (by rfl) (by kernel_rfl) (by rfl) ?_ ?_
 rotate_left
 focus (intro w_ hw_;obtain ⟨f0_,f1_,f2_,f3_⟩:=HP.out w_ hw_;go_simp;(try with_reducible rfl);done)
 (try dsimp only [Act.put])
 show runC _ _ _ 12 _ [3,4,5,6,7,10,11,14,17,18,19,20] _ _
 try simp only [List.setIfInBounds_toArray,List.set_cons_zero,List.set_cons_succ]
 refine runC_one 3 (by kernel_rfl) (by kernel_rfl) (by rfl) (by rfl) ?_
 refine tdoes_call (f:=?_) (args:=?_) (w1:=?_) ?_ ?_
 rotate_left 3
 focus (go_simp;refine ⟨⟨?_,?_⟩,?_⟩ <;> with_reducible rfl)
 refine (HL1.out x0).mono ?_
 rintro e_ w1_ ⟨rfl,hw_⟩
 subst w1_
 refine ⟨_,rfl,sameS hSx0 ?_⟩
 (try dsimp only [Act.put])
 try simp only [List.setIfInBounds_toArray,List.set_cons_zero,List.set_cons_succ]
 show runC _ _ _ 11 _ [4,5,6,7,10,11,14,17,18,19,20] _ _
 refine runC_at 4 (v:=?_) (by rfl) (by rfl) (by rfl) (by kernel_rfl) (by rfl) ?_ ?_
 rotate_left
 focus (intro w_ hw_;obtain ⟨f0_,f1_,f2_,f3_⟩:=HP.out w_ hw_;go_simp;(try with_reducible rfl);done)
 (try dsimp only [Act.put])
 show runC _ _ _ 10 _ [5,6,7,10,11,14,17,18,19,20] _ _
 try simp only [List.setIfInBounds_toArray,List.set_cons_zero,List.set_cons_succ]
 refine runC_at 5 (v:=?_) (by rfl) (by rfl) (by rfl) (by kernel_rfl) (by rfl) ?_ ?_
 rotate_left
 focus (intro w_ hw_;obtain ⟨f0_,f1_,f2_,f3_⟩:=HP.out w_ hw_;go_simp;(try with_reducible rfl);done)
 (try dsimp only [Act.put])
 show runC _ _ _ 9 _ [6,7,10,11,14,17,18,19,20] _ _
 try simp only [List.setIfInBounds_toArray,List.set_cons_zero,List.set_cons_succ]
 refine runC_at 6 (v:=?_) (by rfl) (by rfl) (by rfl) (by kernel_rfl) (by rfl) ?_ ?_
 rotate_left
 focus (intro w_ hw_;obtain ⟨f0_,f1_,f2_,f3_⟩:=HP.out w_ hw_;go_simp;(try with_reducible rfl);done)
 (try dsimp only [Act.put])
 show runC _ _ _ 8 _ [7,10,11,14,17,18,19,20] _ _
 try simp only [List.setIfInBounds_toArray,List.set_cons_zero,List.set_cons_succ]
 refine runC_one 7 (by kernel_rfl) (by kernel_rfl) (by rfl) (by rfl) ?_
 refine tdoes_call (f:=?_) (args:=?_) (w1:=?_) ?_ ?_
 rotate_left 3
 focus (go_simp;refine ⟨⟨?_,?_⟩,?_⟩ <;> with_reducible rfl)
 refine (HSC.out x0).mono ?_
 rintro e_ x2 ⟨rfl,hm_,hb_⟩
 have hSx2:=hSx0.trans (hb_.mono hSx0.size)
 obtain ⟨bm,hbm⟩:∃ b,b=x0.heap.size:=⟨_,rfl⟩
 rw [←hbm] at hm_
 have hRx2:=hm_
 rw [←hbm]
 clear hb_ hbm hm_
 refine ⟨_,rfl,moreS (fun w_=>w_.ownsMap Tryz.prog 3 byteE bm 4 scalesD) hSx2 hRx2 ?_⟩
 (try dsimp only [Act.put])
 try simp only [List.setIfInBounds_toArray,List.set_cons_zero,List.set_cons_succ]
 show runC _ _ _ 7 _ [10,11,14,17,18,19,20] _ _
 refine runC_at 10 (v:=.int .u8 (scaleF i.scale:Nat)) (by rfl) (by rfl) (by rfl) (by kernel_rfl) (by rfl) (fun w_ hw_=>exec_look _ _ rfl rfl rfl (scale_look hw_.2 hsc)) ?_
 (try dsimp only [Act.put])
 show runC _ _ _ 6 _ [11,14,17,18,19,20] _ _
 try simp only [List.setIfInBounds_toArray,List.set_cons_zero,List.set_cons_succ]
 refine runC_at 11 (v:=?_) (by rfl) (by rfl) (by rfl) (by kernel_rfl) (by rfl) ?_ ?_
 rotate_left
 focus (intro w_ hw_;obtain ⟨f0_,f1_,f2_,f3_⟩:=HP.out w_ hw_.1;go_simp;(try with_reducible rfl);done)
 (try dsimp only [Act.put])
 show runC _ _ _ 5 _ [14,17,18,19,20] _ _
 try simp only [List.setIfInBounds_toArray,List.set_cons_zero,List.set_cons_succ]
 refine runC_at 14 (v:=?_) (by rfl) (by rfl) (by rfl) (by kernel_rfl) (by rfl) ?_ ?_
 rotate_left
 focus (intro w_ hw_;obtain ⟨f0_,f1_,f2_,f3_⟩:=HP.out w_ hw_.1;go_simp;(try with_reducible rfl);done)
 (try dsimp only [Act.put])
 show runC _ _ _ 4 _ [17,18,19,20] _ _
 try simp only [List.setIfInBounds_toArray,List.set_cons_zero,List.set_cons_succ]
 refine runC_one 17 (by kernel_rfl) (by kernel_rfl) (by rfl) (by rfl) ?_
 refine tdoes_call (f:=?_) (args:=?_) (w1:=?_) ?_ ?_
 rotate_left 3
 focus (go_simp;refine ⟨⟨?_,?_⟩,?_⟩ <;> with_reducible rfl)
 refine (HL2.out x2).mono ?_
 rintro e_ w1_ ⟨rfl,hw_⟩
 subst w1_
 refine ⟨_,rfl,sameS ⟨hSx2,hRx2⟩ ?_⟩
 (try dsimp only [Act.put])
 try simp only [List.setIfInBounds_toArray,List.set_cons_zero,List.set_cons_succ]
 show runC _ _ _ 3 _ [18,19,20] _ _
 refine runC_at 18 (v:=?_) (by rfl) (by rfl) (by rfl) (by kernel_rfl) (by rfl) ?_ ?_
 rotate_left
 focus (intro w_ hw_;obtain ⟨f0_,f1_,f2_,f3_⟩:=HP.out w_ hw_.1;go_simp;(try with_reducible rfl);done)
 (try dsimp only [Act.put])
 show runC _ _ _ 2 _ [19,20] _ _
 try simp only [List.setIfInBounds_toArray,List.set_cons_zero,List.set_cons_succ]
 refine runC_one 19 (by kernel_rfl) (by kernel_rfl) (by rfl) (by rfl) ?_
 obtain ⟨x4,h_⟩:∃ q,q=x2.alloc (.cells #[.int .u8 (z1:Nat),.int .u8 (z2:Nat)] 5):=⟨_,rfl⟩
 have hb_:Below x2.heap.size x2 x4:=by rw [h_];exact (Below.refl _ _).alloc (Nat.le_refl _) _
 have hSx4:=hSx2.trans (hb_.mono hSx2.size)
 have hRx4:=(fun {a b:World} (h_:a.ownsMap Tryz.prog 3 byteE bm 4 scalesD) (g_:Below a.heap.size a b)=>World.ownsMap.kept h_ (grownB_below (r:=none) g_) (by simp)) hRx2 hb_
 refine tdoes_op (w1:=x4) (v:=.slice (some ⟨x2.heap.size,0,none⟩) 2 2) (by rw [h_];exact exec_u8_2 _ _ rfl rfl rfl) (sameS ⟨hSx4,hRx4⟩ ?_)
 (try dsimp only [Act.put])
 try simp only [List.setIfInBounds_toArray,List.set_cons_zero,List.set_cons_succ]
 obtain ⟨gL,hg_⟩:∃ q,q=x2.heap.size:=⟨_,rfl⟩
 have HOL:=Lh (show x4.ownsRow w.heap.size 5 1 (.slice (some ⟨gL,0,none⟩) 2 2) 2 (u8V [z1,z2]) from by rw [hg_];exact own_lit8 [z1,z2] #[.int .u8 (z1:Nat),.int .u8 (z2:Nat)] rfl hSx2.size (by simp) (by simp) (by rw [h_];exact heap_alloc_new x2 _) 2 rfl)
 have HBx4:=Lh hb_
 rw [←hg_]
 clear h_ hg_ hb_
 show runC _ _ _ 1 _ [20] _ _
 refine runC_at 20 (v:=?_) (by rfl) (by rfl) (by rfl) (by kernel_rfl) (by rfl) ?_ ?_
 rotate_left
 focus (intro w_ hw_;obtain ⟨f0_,f1_,f2_,f3_⟩:=HP.out w_ hw_.1;go_simp;(try with_reducible rfl);done)
 (try dsimp only [Act.put])
 show runC _ _ _ 0 _ [] _ _
 try simp only [List.setIfInBounds_toArray,List.set_cons_zero,List.set_cons_succ]
 refine runC_nil ?_
 exact HK.out gL _ _ _ _ _ _ _ _ _ _ _ _ _ _ _ _ _ _ _ _ x4 ⟨HOL.out,hSx4⟩
end Go.Proofs.YtocndimihokcmaaGreat
namespace Go.Proofs.YtocndimihokcmaaGreat
open Go.RowKit
set_option maxRecDepth 100000
theorem wrapI8 (n:Int):IntKind.i8.wrap n=(n+128) % 256 - 128:=by
 simp [IntKind.wrap,IntKind.bits,IntKind.signed]
 split <;> omega
theorem placeY_len (m:Int) (i:Ins):(placeY m i).length≤6:=by
 unfold placeY
 rw [List.length_append,little_len]
 have h1:dispN (modF i)≤4:=by unfold dispN;split;decide;split <;> decide
 split
 · simp only [List.length_cons,List.length_nil];omega
 · simp only [List.length_cons,List.length_nil];omega
set_option maxHeartbeats 8000000 in
theorem place9_any (mid:Int) (i:Ins) (hok:PlcOk i) (w:World):Calls Tryz.prog 139 #[.int .i64 mid,.agg #[.int .i64 i.base,.int .i64 i.index,.int .i64 i.scale,.int .i64 i.disp]] w (BytesTold (placeY mid i) w):=by
 obtain ⟨W,hW⟩:∃ W,W=w.alloc (.cells #[.int .i64 i.base,.int .i64 i.index,.int .i64 i.scale,.int .i64 i.disp] 38):=⟨_,rfl⟩
 have hb:Below w.heap.size w W:=by rw [hW];exact (Below.refl _ _).alloc (Nat.le_refl _) _
 have hp:W.heap[w.heap.size]? = some (.cells #[.int .i64 i.base,.int .i64 i.index,.int .i64 i.scale,.int .i64 i.disp] 38 (0,0)):=by rw [hW];exact heap_alloc_new w _
 have HW:=Lh hW
 have HB:=Lh hb
 have HP:=Lh hp
 have HPC:=Lh (fun (w_:World) (h_:Below W.heap.size W w_)=>plc_cells hp h_)
 have HPB:=Lh (show ∀ w_,Below W.heap.size W w_→w_.heap[w.heap.size]? = some (.cells #[.int .i64 i.base,.int .i64 i.index,.int .i64 i.scale,.int .i64 i.disp] 38 (0,0)) from fun w_ h=>(h.block _ (lt_of_block hp)).trans hp)
 have HLB:=Lh (fun w_=>low_any i.base w_)
 have HLX:=Lh (fun w_=>low_any i.index w_)
 have hsc:i.scale=1∨i.scale=2∨i.scale=4∨i.scale=8:=by
   rcases hok.idx with ⟨_,h⟩ | ⟨_,_,_,h⟩
   · exact .inl h
   · exact h
 have HSC:=Lh hsc
 obtain ⟨c0_,c1_,c2_,c3_⟩:=HPC.out W (Below.refl _ _)
 obtain ⟨eA,hv8⟩:∃ v,v=IntKind.i8.wrap i.disp:=⟨_,rfl⟩
 have f1_:IntKind.i8.wrap i.disp=eA:=hv8.symm
 have f2_:IntKind.i64.wrap eA=eA:=by rw [IntKind.wrap_i64,hv8,wrapI8];omega
 have hv8e:(i.disp=eA)↔(-128≤i.disp∧i.disp < 128):=by rw [hv8,wrapI8];omega
 obtain ⟨lb,hlb⟩:∃ l,l=lo3 i.base:=⟨_,rfl⟩
 rw [←hlb] at HLB
 have HLE:=Lh hlb
 have hlb8:lb < 8:=by rw [hlb];exact lo3_lt _
 clear hW hb hp hsc hv8 hok hlb
 have hcase:(((i.disp == 0)=true∧((lb:Int) != 5)=true)∧modF i=0)∨((((i.disp == 0)=false)∨((i.disp == 0)=true∧((lb:Int) != 5)=false))∧(((i.disp == eA)=true∧modF i=1)∨((i.disp == eA)=false∧modF i=2))):=by
   have hl:=HLE.out
   unfold modF
   rw [←hl]
   by_cases h0:i.disp=0
   · by_cases h5:lb=5
     · refine .inr ⟨.inr ⟨beq_iff_eq.2 h0,by rw [h5];rfl⟩,?_⟩
       rw [if_neg (fun h=>h.2 h5)]
       by_cases h8:i.disp=eA
       · exact .inl ⟨beq_iff_eq.2 h8,if_pos (hv8e.1 h8)⟩
       · exact .inr ⟨beq_eq_false_iff_ne.2 h8,if_neg (fun h=>h8 (hv8e.2 h))⟩
     · exact .inl ⟨⟨beq_iff_eq.2 h0,by rw [bne_iff_ne];omega⟩,if_pos ⟨h0,h5⟩⟩
   · refine .inr ⟨.inl (beq_eq_false_iff_ne.2 h0),?_⟩
     rw [if_neg (fun h=>h0 h.1)]
     by_cases h8:i.disp=eA
     · exact .inl ⟨beq_iff_eq.2 h8,if_pos (hv8e.1 h8)⟩
     · exact .inr ⟨beq_eq_false_iff_ne.2 h8,if_neg (fun h=>h8 (hv8e.2 h))⟩
 clear hv8e
 have hidx:(((i.index != -1)=true∧i.index≠-1))∨(((i.index != -1)=false∧i.index = -1)∧(((lb:Int) == 4)=true∧lb=4∨((lb:Int) == 4)=false∧lb≠4)):=by
   by_cases h:i.index = -1
   · refine .inr ⟨⟨by rw [h];rfl,h⟩,?_⟩
     by_cases h4:lb=4
     · exact .inl ⟨by rw [h4];rfl,h4⟩
     · exact .inr ⟨by rw [beq_eq_false_iff_ne];omega,h4⟩
   · exact .inl ⟨by rw [bne_iff_ne];exact h,h⟩
 rcases hcase with ⟨⟨m1_,m2_⟩,hmod⟩ | ⟨m1_ | ⟨m1_,m2_⟩,⟨m3_,hmod⟩ | ⟨m3_,hmod⟩⟩
 · have HMD:=Lh hmod
   clear hmod hlb8
   go_enter Tryz.func139,Tryz.ntmps139
   go_upto_region 1 with go_in
   rw [←HW.out]
   clear HW
   go_upto_region 6 with (first | ((with_reducible refine (HLB.out _).mono ?_);rintro e_ w1_ ⟨rfl,hw_⟩;subst w1_) | ((with_reducible refine (HLX.out _).mono ?_);rintro e_ w1_ ⟨rfl,hw_⟩;subst w1_) | go_in)
   refine wp_code (c:=partR Tryz.f139 6) (by kernel_rfl) ?_
   refine place_r6 (M:=0) _ _ HP.out (by decide) ?_
   intro g6 c9 dA dB dC dD dE dF dG dH dI dJ w6_ ⟨ho6_,hb6_⟩
   have HO6_:=Lh ho6_
   have HB6_:=Lh hb6_
   obtain ⟨k0_,k1_,k2_,k3_⟩:=HPC.out w6_ hb6_
   clear ho6_ hb6_ c0_ c1_ c2_ c3_
   rcases hidx with ⟨x1_,hx⟩ | ⟨⟨x1_,hx⟩,⟨x2_,hx4⟩ | ⟨x2_,hx4⟩⟩
   · have HRES:=Lh (show placeY mid i=[64*0+8*lo3 mid+4,64*scaleF i.scale+8*lo3 i.index+lo3 i.base]++littleF i.disp 0 from by
       unfold placeY
       rw [HMD.out]
       rw [if_pos (.inl hx),if_neg hx];rfl)
     clear hx
     go_upto_region 11 with (first | ((with_reducible refine (HLB.out _).mono ?_);rintro e_ w1_ ⟨rfl,hw_⟩;subst w1_) | ((with_reducible refine (HLX.out _).mono ?_);rintro e_ w1_ ⟨rfl,hw_⟩;subst w1_) | go_in)
     refine wp_code (c:=partR Tryz.f139 11) (by kernel_rfl) ?_
     refine place_r11 (M:=0) (X:=lo3 i.index) _ _ (HPB.out _ HB6_.out) (by decide) (lo3_lt _) HSC.out ?_
     intro g11 y53 y54 y55 y56 y57 y58 y59 y60 y61 y62 y63 y64 y65 y66 y67 y68 y69 y70 y71 y72 w11_ ⟨ho11_,hb11_⟩
     have HOX:=Lh (show w11_.ownsRow W.heap.size 5 1 (.slice (some ⟨g11,0,none⟩) 2 2) 2 (u8V [64*0+8*lo3 mid+4,64*scaleF i.scale+8*(lo3 i.index)+lo3 i.base]) from own_baseB ho11_ HB6_.out.size)
     have HBW:=Lh (HB6_.out.trans (hb11_.mono HB6_.out.size))
     clear ho11_ hb11_ k0_ k1_ k2_ k3_
     have HLT:=Lh (fun w_=>show Calls Tryz.prog 138 #[.int .i64 i.disp,.int .i64 0] w_ (BytesTold (littleF i.disp 0) w_) from little_any i.disp 0 (by decide) w_)
     obtain ⟨d0_,d1_,d2_,d3_⟩:=HPC.out w11_ HBW.out
     go_wp2_with (first
       | ((with_reducible refine (HLT.out _).mono ?_);rintro e_ w5 ⟨A5,n5,c5,rfl,ho5,hn5,hb5⟩;have HO5:=Lh ho5;have HN5:=Lh hn5;have HB5:=Lh hb5;clear ho5 hn5 hb5)
       | (at_builtin;refine wpList_app8 rfl _ _ rfl W.heap.size w11_.heap.size (.slice (some ⟨g11,0,none⟩) 2 2) (.slice A5 n5 c5) 2 n5 [64*0+8*lo3 mid+4,64*scaleF i.scale+8*(lo3 i.index)+lo3 i.base] (littleF i.disp 0) rfl rfl (own_keepB HOX.out HB5.out) HO5.out (by have:=HN5.out;rw [little_len] at this;omega) (Nat.le_trans HBW.out.size HB5.out.size) ?_;intro v6_ w6 ho6 hg6;obtain ⟨A6,c6,rfl,hh_⟩:=own_formB ho6;have HO6:=Lh ho6;have HG6:=Lh hg6;clear ho6 hg6 hh_))
     go_ret
     exact ⟨_,_,_,by rfl,by rw [HRES.out];exact own_baseB HO6.out HB.out.size,by rw [HRES.out];have:=HN5.out;simp [little_len] at *;omega,HB.out.trans ((Below.grown (HBW.out.trans (HB5.out.mono HBW.out.size)) HG6.out (Nat.le_trans HBW.out.size HB5.out.size) (fun k_ hk_=>(own_ltB HOX.out k_ hk_).2)).mono HB.out.size)⟩
   · have HRES:=Lh (show placeY mid i=[64*0+8*lo3 mid+4,64*scaleF i.scale+8*4+lo3 i.base]++littleF i.disp 0 from by
       unfold placeY
       rw [HMD.out]
       rw [if_pos (.inr (HLE.out.symm.trans hx4)),if_pos hx];rfl)
     clear hx hx4
     go_upto_region 11 with (first | ((with_reducible refine (HLB.out _).mono ?_);rintro e_ w1_ ⟨rfl,hw_⟩;subst w1_) | ((with_reducible refine (HLX.out _).mono ?_);rintro e_ w1_ ⟨rfl,hw_⟩;subst w1_) | go_in)
     refine wp_code (c:=partR Tryz.f139 11) (by kernel_rfl) ?_
     refine place_r11 (M:=0) (X:=4) _ _ (HPB.out _ HB6_.out) (by decide) (by decide) HSC.out ?_
     intro g11 y53 y54 y55 y56 y57 y58 y59 y60 y61 y62 y63 y64 y65 y66 y67 y68 y69 y70 y71 y72 w11_ ⟨ho11_,hb11_⟩
     have HOX:=Lh (show w11_.ownsRow W.heap.size 5 1 (.slice (some ⟨g11,0,none⟩) 2 2) 2 (u8V [64*0+8*lo3 mid+4,64*scaleF i.scale+8*(4)+lo3 i.base]) from own_baseB ho11_ HB6_.out.size)
     have HBW:=Lh (HB6_.out.trans (hb11_.mono HB6_.out.size))
     clear ho11_ hb11_ k0_ k1_ k2_ k3_
     have HLT:=Lh (fun w_=>show Calls Tryz.prog 138 #[.int .i64 i.disp,.int .i64 0] w_ (BytesTold (littleF i.disp 0) w_) from little_any i.disp 0 (by decide) w_)
     obtain ⟨d0_,d1_,d2_,d3_⟩:=HPC.out w11_ HBW.out
     go_wp2_with (first
       | ((with_reducible refine (HLT.out _).mono ?_);rintro e_ w5 ⟨A5,n5,c5,rfl,ho5,hn5,hb5⟩;have HO5:=Lh ho5;have HN5:=Lh hn5;have HB5:=Lh hb5;clear ho5 hn5 hb5)
       | (at_builtin;refine wpList_app8 rfl _ _ rfl W.heap.size w11_.heap.size (.slice (some ⟨g11,0,none⟩) 2 2) (.slice A5 n5 c5) 2 n5 [64*0+8*lo3 mid+4,64*scaleF i.scale+8*(4)+lo3 i.base] (littleF i.disp 0) rfl rfl (own_keepB HOX.out HB5.out) HO5.out (by have:=HN5.out;rw [little_len] at this;omega) (Nat.le_trans HBW.out.size HB5.out.size) ?_;intro v6_ w6 ho6 hg6;obtain ⟨A6,c6,rfl,hh_⟩:=own_formB ho6;have HO6:=Lh ho6;have HG6:=Lh hg6;clear ho6 hg6 hh_))
     go_ret
     exact ⟨_,_,_,by rfl,by rw [HRES.out];exact own_baseB HO6.out HB.out.size,by rw [HRES.out];have:=HN5.out;simp [little_len] at *;omega,HB.out.trans ((Below.grown (HBW.out.trans (HB5.out.mono HBW.out.size)) HG6.out (Nat.le_trans HBW.out.size HB5.out.size) (fun k_ hk_=>(own_ltB HOX.out k_ hk_).2)).mono HB.out.size)⟩
   · have HRES:=Lh (show placeY mid i=[64*0+8*lo3 mid+lo3 i.base]++littleF i.disp 0 from by
       unfold placeY
       rw [HMD.out]
       rw [if_neg (fun h=>h.elim (fun h=>h hx) (fun h=>hx4 (HLE.out.trans h)))];rfl)
     clear hx hx4
     have HOX:=Lh (show w6_.ownsRow W.heap.size 5 1 (.slice (some ⟨g6,0,none⟩) 1 1) 1 (u8V [64*0+8*lo3 mid+lo3 i.base]) from HO6_.out)
     have HBW:=HB6_
     have HLT:=Lh (fun w_=>show Calls Tryz.prog 138 #[.int .i64 i.disp,.int .i64 0] w_ (BytesTold (littleF i.disp 0) w_) from little_any i.disp 0 (by decide) w_)
     go_wp2_with (first
       | ((with_reducible refine (HLB.out _).mono ?_);rintro e_ w1_ ⟨rfl,hw_⟩;subst w1_)
       | ((with_reducible refine (HLT.out _).mono ?_);rintro e_ w5 ⟨A5,n5,c5,rfl,ho5,hn5,hb5⟩;have HO5:=Lh ho5;have HN5:=Lh hn5;have HB5:=Lh hb5;clear ho5 hn5 hb5)
       | (at_builtin;refine wpList_app8 rfl _ _ rfl W.heap.size w6_.heap.size (.slice (some ⟨g6,0,none⟩) 1 1) (.slice A5 n5 c5) 1 n5 [64*0+8*lo3 mid+lo3 i.base] (littleF i.disp 0) rfl rfl (own_keepB HOX.out HB5.out) HO5.out (by have:=HN5.out;rw [little_len] at this;omega) (Nat.le_trans HBW.out.size HB5.out.size) ?_;intro v6_ w6 ho6 hg6;obtain ⟨A6,c6,rfl,hh_⟩:=own_formB ho6;have HO6:=Lh ho6;have HG6:=Lh hg6;clear ho6 hg6 hh_))
     go_ret
     exact ⟨_,_,_,by rfl,by rw [HRES.out];exact own_baseB HO6.out HB.out.size,by rw [HRES.out];have:=HN5.out;simp [little_len] at *;omega,HB.out.trans ((Below.grown (HBW.out.trans (HB5.out.mono HBW.out.size)) HG6.out (Nat.le_trans HBW.out.size HB5.out.size) (fun k_ hk_=>(own_ltB HOX.out k_ hk_).2)).mono HB.out.size)⟩
 · have HMD:=Lh hmod
   clear hmod hlb8
   go_enter Tryz.func139,Tryz.ntmps139
   go_upto_region 1 with go_in
   rw [←HW.out]
   clear HW
   go_upto_region 6 with (first | ((with_reducible refine (HLB.out _).mono ?_);rintro e_ w1_ ⟨rfl,hw_⟩;subst w1_) | ((with_reducible refine (HLX.out _).mono ?_);rintro e_ w1_ ⟨rfl,hw_⟩;subst w1_) | go_in)
   refine wp_code (c:=partR Tryz.f139 6) (by kernel_rfl) ?_
   refine place_r6 (M:=1) _ _ HP.out (by decide) ?_
   intro g6 c9 dA dB dC dD dE dF dG dH dI dJ w6_ ⟨ho6_,hb6_⟩
   have HO6_:=Lh ho6_
   have HB6_:=Lh hb6_
   obtain ⟨k0_,k1_,k2_,k3_⟩:=HPC.out w6_ hb6_
   clear ho6_ hb6_ c0_ c1_ c2_ c3_
   rcases hidx with ⟨x1_,hx⟩ | ⟨⟨x1_,hx⟩,⟨x2_,hx4⟩ | ⟨x2_,hx4⟩⟩
   · have HRES:=Lh (show placeY mid i=[64*1+8*lo3 mid+4,64*scaleF i.scale+8*lo3 i.index+lo3 i.base]++littleF i.disp 1 from by
       unfold placeY
       rw [HMD.out]
       rw [if_pos (.inl hx),if_neg hx];rfl)
     clear hx
     go_upto_region 11 with (first | ((with_reducible refine (HLB.out _).mono ?_);rintro e_ w1_ ⟨rfl,hw_⟩;subst w1_) | ((with_reducible refine (HLX.out _).mono ?_);rintro e_ w1_ ⟨rfl,hw_⟩;subst w1_) | go_in)
     refine wp_code (c:=partR Tryz.f139 11) (by kernel_rfl) ?_
     refine place_r11 (M:=1) (X:=lo3 i.index) _ _ (HPB.out _ HB6_.out) (by decide) (lo3_lt _) HSC.out ?_
     intro g11 y53 y54 y55 y56 y57 y58 y59 y60 y61 y62 y63 y64 y65 y66 y67 y68 y69 y70 y71 y72 w11_ ⟨ho11_,hb11_⟩
     have HOX:=Lh (show w11_.ownsRow W.heap.size 5 1 (.slice (some ⟨g11,0,none⟩) 2 2) 2 (u8V [64*1+8*lo3 mid+4,64*scaleF i.scale+8*(lo3 i.index)+lo3 i.base]) from own_baseB ho11_ HB6_.out.size)
     have HBW:=Lh (HB6_.out.trans (hb11_.mono HB6_.out.size))
     clear ho11_ hb11_ k0_ k1_ k2_ k3_
     have HLT:=Lh (fun w_=>show Calls Tryz.prog 138 #[.int .i64 i.disp,.int .i64 1] w_ (BytesTold (littleF i.disp 1) w_) from little_any i.disp 1 (by decide) w_)
     obtain ⟨d0_,d1_,d2_,d3_⟩:=HPC.out w11_ HBW.out
     go_wp2_with (first
       | ((with_reducible refine (HLT.out _).mono ?_);rintro e_ w5 ⟨A5,n5,c5,rfl,ho5,hn5,hb5⟩;have HO5:=Lh ho5;have HN5:=Lh hn5;have HB5:=Lh hb5;clear ho5 hn5 hb5)
       | (at_builtin;refine wpList_app8 rfl _ _ rfl W.heap.size w11_.heap.size (.slice (some ⟨g11,0,none⟩) 2 2) (.slice A5 n5 c5) 2 n5 [64*1+8*lo3 mid+4,64*scaleF i.scale+8*(lo3 i.index)+lo3 i.base] (littleF i.disp 1) rfl rfl (own_keepB HOX.out HB5.out) HO5.out (by have:=HN5.out;rw [little_len] at this;omega) (Nat.le_trans HBW.out.size HB5.out.size) ?_;intro v6_ w6 ho6 hg6;obtain ⟨A6,c6,rfl,hh_⟩:=own_formB ho6;have HO6:=Lh ho6;have HG6:=Lh hg6;clear ho6 hg6 hh_))
     go_ret
     exact ⟨_,_,_,by rfl,by rw [HRES.out];exact own_baseB HO6.out HB.out.size,by rw [HRES.out];have:=HN5.out;simp [little_len] at *;omega,HB.out.trans ((Below.grown (HBW.out.trans (HB5.out.mono HBW.out.size)) HG6.out (Nat.le_trans HBW.out.size HB5.out.size) (fun k_ hk_=>(own_ltB HOX.out k_ hk_).2)).mono HB.out.size)⟩
   · have HRES:=Lh (show placeY mid i=[64*1+8*lo3 mid+4,64*scaleF i.scale+8*4+lo3 i.base]++littleF i.disp 1 from by
       unfold placeY
       rw [HMD.out]
       rw [if_pos (.inr (HLE.out.symm.trans hx4)),if_pos hx];rfl)
     clear hx hx4
     go_upto_region 11 with (first | ((with_reducible refine (HLB.out _).mono ?_);rintro e_ w1_ ⟨rfl,hw_⟩;subst w1_) | ((with_reducible refine (HLX.out _).mono ?_);rintro e_ w1_ ⟨rfl,hw_⟩;subst w1_) | go_in)
     refine wp_code (c:=partR Tryz.f139 11) (by kernel_rfl) ?_
     refine place_r11 (M:=1) (X:=4) _ _ (HPB.out _ HB6_.out) (by decide) (by decide) HSC.out ?_
     intro g11 y53 y54 y55 y56 y57 y58 y59 y60 y61 y62 y63 y64 y65 y66 y67 y68 y69 y70 y71 y72 w11_ ⟨ho11_,hb11_⟩
     have HOX:=Lh (show w11_.ownsRow W.heap.size 5 1 (.slice (some ⟨g11,0,none⟩) 2 2) 2 (u8V [64*1+8*lo3 mid+4,64*scaleF i.scale+8*(4)+lo3 i.base]) from own_baseB ho11_ HB6_.out.size)
     have HBW:=Lh (HB6_.out.trans (hb11_.mono HB6_.out.size))
     clear ho11_ hb11_ k0_ k1_ k2_ k3_
     have HLT:=Lh (fun w_=>show Calls Tryz.prog 138 #[.int .i64 i.disp,.int .i64 1] w_ (BytesTold (littleF i.disp 1) w_) from little_any i.disp 1 (by decide) w_)
     obtain ⟨d0_,d1_,d2_,d3_⟩:=HPC.out w11_ HBW.out
     go_wp2_with (first
       | ((with_reducible refine (HLT.out _).mono ?_);rintro e_ w5 ⟨A5,n5,c5,rfl,ho5,hn5,hb5⟩;have HO5:=Lh ho5;have HN5:=Lh hn5;have HB5:=Lh hb5;clear ho5 hn5 hb5)
       | (at_builtin;refine wpList_app8 rfl _ _ rfl W.heap.size w11_.heap.size (.slice (some ⟨g11,0,none⟩) 2 2) (.slice A5 n5 c5) 2 n5 [64*1+8*lo3 mid+4,64*scaleF i.scale+8*(4)+lo3 i.base] (littleF i.disp 1) rfl rfl (own_keepB HOX.out HB5.out) HO5.out (by have:=HN5.out;rw [little_len] at this;omega) (Nat.le_trans HBW.out.size HB5.out.size) ?_;intro v6_ w6 ho6 hg6;obtain ⟨A6,c6,rfl,hh_⟩:=own_formB ho6;have HO6:=Lh ho6;have HG6:=Lh hg6;clear ho6 hg6 hh_))
     go_ret
     exact ⟨_,_,_,by rfl,by rw [HRES.out];exact own_baseB HO6.out HB.out.size,by rw [HRES.out];have:=HN5.out;simp [little_len] at *;omega,HB.out.trans ((Below.grown (HBW.out.trans (HB5.out.mono HBW.out.size)) HG6.out (Nat.le_trans HBW.out.size HB5.out.size) (fun k_ hk_=>(own_ltB HOX.out k_ hk_).2)).mono HB.out.size)⟩
   · have HRES:=Lh (show placeY mid i=[64*1+8*lo3 mid+lo3 i.base]++littleF i.disp 1 from by
       unfold placeY
       rw [HMD.out]
       rw [if_neg (fun h=>h.elim (fun h=>h hx) (fun h=>hx4 (HLE.out.trans h)))];rfl)
     clear hx hx4
     have HOX:=Lh (show w6_.ownsRow W.heap.size 5 1 (.slice (some ⟨g6,0,none⟩) 1 1) 1 (u8V [64*1+8*lo3 mid+lo3 i.base]) from HO6_.out)
     have HBW:=HB6_
     have HLT:=Lh (fun w_=>show Calls Tryz.prog 138 #[.int .i64 i.disp,.int .i64 1] w_ (BytesTold (littleF i.disp 1) w_) from little_any i.disp 1 (by decide) w_)
     go_wp2_with (first
       | ((with_reducible refine (HLB.out _).mono ?_);rintro e_ w1_ ⟨rfl,hw_⟩;subst w1_)
       | ((with_reducible refine (HLT.out _).mono ?_);rintro e_ w5 ⟨A5,n5,c5,rfl,ho5,hn5,hb5⟩;have HO5:=Lh ho5;have HN5:=Lh hn5;have HB5:=Lh hb5;clear ho5 hn5 hb5)
       | (at_builtin;refine wpList_app8 rfl _ _ rfl W.heap.size w6_.heap.size (.slice (some ⟨g6,0,none⟩) 1 1) (.slice A5 n5 c5) 1 n5 [64*1+8*lo3 mid+lo3 i.base] (littleF i.disp 1) rfl rfl (own_keepB HOX.out HB5.out) HO5.out (by have:=HN5.out;rw [little_len] at this;omega) (Nat.le_trans HBW.out.size HB5.out.size) ?_;intro v6_ w6 ho6 hg6;obtain ⟨A6,c6,rfl,hh_⟩:=own_formB ho6;have HO6:=Lh ho6;have HG6:=Lh hg6;clear ho6 hg6 hh_))
     go_ret
     exact ⟨_,_,_,by rfl,by rw [HRES.out];exact own_baseB HO6.out HB.out.size,by rw [HRES.out];have:=HN5.out;simp [little_len] at *;omega,HB.out.trans ((Below.grown (HBW.out.trans (HB5.out.mono HBW.out.size)) HG6.out (Nat.le_trans HBW.out.size HB5.out.size) (fun k_ hk_=>(own_ltB HOX.out k_ hk_).2)).mono HB.out.size)⟩
 · have HMD:=Lh hmod
   clear hmod hlb8
   go_enter Tryz.func139,Tryz.ntmps139
   go_upto_region 1 with go_in
   rw [←HW.out]
   clear HW
   go_upto_region 6 with (first | ((with_reducible refine (HLB.out _).mono ?_);rintro e_ w1_ ⟨rfl,hw_⟩;subst w1_) | ((with_reducible refine (HLX.out _).mono ?_);rintro e_ w1_ ⟨rfl,hw_⟩;subst w1_) | go_in)
   refine wp_code (c:=partR Tryz.f139 6) (by kernel_rfl) ?_
   refine place_r6 (M:=2) _ _ HP.out (by decide) ?_
   intro g6 c9 dA dB dC dD dE dF dG dH dI dJ w6_ ⟨ho6_,hb6_⟩
   have HO6_:=Lh ho6_
   have HB6_:=Lh hb6_
   obtain ⟨k0_,k1_,k2_,k3_⟩:=HPC.out w6_ hb6_
   clear ho6_ hb6_ c0_ c1_ c2_ c3_
   rcases hidx with ⟨x1_,hx⟩ | ⟨⟨x1_,hx⟩,⟨x2_,hx4⟩ | ⟨x2_,hx4⟩⟩
   · have HRES:=Lh (show placeY mid i=[64*2+8*lo3 mid+4,64*scaleF i.scale+8*lo3 i.index+lo3 i.base]++littleF i.disp 4 from by
       unfold placeY
       rw [HMD.out]
       rw [if_pos (.inl hx),if_neg hx];rfl)
     clear hx
     go_upto_region 11 with (first | ((with_reducible refine (HLB.out _).mono ?_);rintro e_ w1_ ⟨rfl,hw_⟩;subst w1_) | ((with_reducible refine (HLX.out _).mono ?_);rintro e_ w1_ ⟨rfl,hw_⟩;subst w1_) | go_in)
     refine wp_code (c:=partR Tryz.f139 11) (by kernel_rfl) ?_
     refine place_r11 (M:=2) (X:=lo3 i.index) _ _ (HPB.out _ HB6_.out) (by decide) (lo3_lt _) HSC.out ?_
     intro g11 y53 y54 y55 y56 y57 y58 y59 y60 y61 y62 y63 y64 y65 y66 y67 y68 y69 y70 y71 y72 w11_ ⟨ho11_,hb11_⟩
     have HOX:=Lh (show w11_.ownsRow W.heap.size 5 1 (.slice (some ⟨g11,0,none⟩) 2 2) 2 (u8V [64*2+8*lo3 mid+4,64*scaleF i.scale+8*(lo3 i.index)+lo3 i.base]) from own_baseB ho11_ HB6_.out.size)
     have HBW:=Lh (HB6_.out.trans (hb11_.mono HB6_.out.size))
     clear ho11_ hb11_ k0_ k1_ k2_ k3_
     have HLT:=Lh (fun w_=>show Calls Tryz.prog 138 #[.int .i64 i.disp,.int .i64 4] w_ (BytesTold (littleF i.disp 4) w_) from little_any i.disp 4 (by decide) w_)
     obtain ⟨d0_,d1_,d2_,d3_⟩:=HPC.out w11_ HBW.out
     go_wp2_with (first
       | ((with_reducible refine (HLT.out _).mono ?_);rintro e_ w5 ⟨A5,n5,c5,rfl,ho5,hn5,hb5⟩;have HO5:=Lh ho5;have HN5:=Lh hn5;have HB5:=Lh hb5;clear ho5 hn5 hb5)
       | (at_builtin;refine wpList_app8 rfl _ _ rfl W.heap.size w11_.heap.size (.slice (some ⟨g11,0,none⟩) 2 2) (.slice A5 n5 c5) 2 n5 [64*2+8*lo3 mid+4,64*scaleF i.scale+8*(lo3 i.index)+lo3 i.base] (littleF i.disp 4) rfl rfl (own_keepB HOX.out HB5.out) HO5.out (by have:=HN5.out;rw [little_len] at this;omega) (Nat.le_trans HBW.out.size HB5.out.size) ?_;intro v6_ w6 ho6 hg6;obtain ⟨A6,c6,rfl,hh_⟩:=own_formB ho6;have HO6:=Lh ho6;have HG6:=Lh hg6;clear ho6 hg6 hh_))
     go_ret
     exact ⟨_,_,_,by rfl,by rw [HRES.out];exact own_baseB HO6.out HB.out.size,by rw [HRES.out];have:=HN5.out;simp [little_len] at *;omega,HB.out.trans ((Below.grown (HBW.out.trans (HB5.out.mono HBW.out.size)) HG6.out (Nat.le_trans HBW.out.size HB5.out.size) (fun k_ hk_=>(own_ltB HOX.out k_ hk_).2)).mono HB.out.size)⟩
   · have HRES:=Lh (show placeY mid i=[64*2+8*lo3 mid+4,64*scaleF i.scale+8*4+lo3 i.base]++littleF i.disp 4 from by
       unfold placeY
       rw [HMD.out]
       rw [if_pos (.inr (HLE.out.symm.trans hx4)),if_pos hx];rfl)
     clear hx hx4
     go_upto_region 11 with (first | ((with_reducible refine (HLB.out _).mono ?_);rintro e_ w1_ ⟨rfl,hw_⟩;subst w1_) | ((with_reducible refine (HLX.out _).mono ?_);rintro e_ w1_ ⟨rfl,hw_⟩;subst w1_) | go_in)
     refine wp_code (c:=partR Tryz.f139 11) (by kernel_rfl) ?_
     refine place_r11 (M:=2) (X:=4) _ _ (HPB.out _ HB6_.out) (by decide) (by decide) HSC.out ?_
     intro g11 y53 y54 y55 y56 y57 y58 y59 y60 y61 y62 y63 y64 y65 y66 y67 y68 y69 y70 y71 y72 w11_ ⟨ho11_,hb11_⟩
     have HOX:=Lh (show w11_.ownsRow W.heap.size 5 1 (.slice (some ⟨g11,0,none⟩) 2 2) 2 (u8V [64*2+8*lo3 mid+4,64*scaleF i.scale+8*(4)+lo3 i.base]) from own_baseB ho11_ HB6_.out.size)
     have HBW:=Lh (HB6_.out.trans (hb11_.mono HB6_.out.size))
     clear ho11_ hb11_ k0_ k1_ k2_ k3_
     have HLT:=Lh (fun w_=>show Calls Tryz.prog 138 #[.int .i64 i.disp,.int .i64 4] w_ (BytesTold (littleF i.disp 4) w_) from little_any i.disp 4 (by decide) w_)
     obtain ⟨d0_,d1_,d2_,d3_⟩:=HPC.out w11_ HBW.out
     go_wp2_with (first
       | ((with_reducible refine (HLT.out _).mono ?_);rintro e_ w5 ⟨A5,n5,c5,rfl,ho5,hn5,hb5⟩;have HO5:=Lh ho5;have HN5:=Lh hn5;have HB5:=Lh hb5;clear ho5 hn5 hb5)
       | (at_builtin;refine wpList_app8 rfl _ _ rfl W.heap.size w11_.heap.size (.slice (some ⟨g11,0,none⟩) 2 2) (.slice A5 n5 c5) 2 n5 [64*2+8*lo3 mid+4,64*scaleF i.scale+8*(4)+lo3 i.base] (littleF i.disp 4) rfl rfl (own_keepB HOX.out HB5.out) HO5.out (by have:=HN5.out;rw [little_len] at this;omega) (Nat.le_trans HBW.out.size HB5.out.size) ?_;intro v6_ w6 ho6 hg6;obtain ⟨A6,c6,rfl,hh_⟩:=own_formB ho6;have HO6:=Lh ho6;have HG6:=Lh hg6;clear ho6 hg6 hh_))
     go_ret
     exact ⟨_,_,_,by rfl,by rw [HRES.out];exact own_baseB HO6.out HB.out.size,by rw [HRES.out];have:=HN5.out;simp [little_len] at *;omega,HB.out.trans ((Below.grown (HBW.out.trans (HB5.out.mono HBW.out.size)) HG6.out (Nat.le_trans HBW.out.size HB5.out.size) (fun k_ hk_=>(own_ltB HOX.out k_ hk_).2)).mono HB.out.size)⟩
   · have HRES:=Lh (show placeY mid i=[64*2+8*lo3 mid+lo3 i.base]++littleF i.disp 4 from by
       unfold placeY
       rw [HMD.out]
       rw [if_neg (fun h=>h.elim (fun h=>h hx) (fun h=>hx4 (HLE.out.trans h)))];rfl)
     clear hx hx4
     have HOX:=Lh (show w6_.ownsRow W.heap.size 5 1 (.slice (some ⟨g6,0,none⟩) 1 1) 1 (u8V [64*2+8*lo3 mid+lo3 i.base]) from HO6_.out)
     have HBW:=HB6_
     have HLT:=Lh (fun w_=>show Calls Tryz.prog 138 #[.int .i64 i.disp,.int .i64 4] w_ (BytesTold (littleF i.disp 4) w_) from little_any i.disp 4 (by decide) w_)
     go_wp2_with (first
       | ((with_reducible refine (HLB.out _).mono ?_);rintro e_ w1_ ⟨rfl,hw_⟩;subst w1_)
       | ((with_reducible refine (HLT.out _).mono ?_);rintro e_ w5 ⟨A5,n5,c5,rfl,ho5,hn5,hb5⟩;have HO5:=Lh ho5;have HN5:=Lh hn5;have HB5:=Lh hb5;clear ho5 hn5 hb5)
       | (at_builtin;refine wpList_app8 rfl _ _ rfl W.heap.size w6_.heap.size (.slice (some ⟨g6,0,none⟩) 1 1) (.slice A5 n5 c5) 1 n5 [64*2+8*lo3 mid+lo3 i.base] (littleF i.disp 4) rfl rfl (own_keepB HOX.out HB5.out) HO5.out (by have:=HN5.out;rw [little_len] at this;omega) (Nat.le_trans HBW.out.size HB5.out.size) ?_;intro v6_ w6 ho6 hg6;obtain ⟨A6,c6,rfl,hh_⟩:=own_formB ho6;have HO6:=Lh ho6;have HG6:=Lh hg6;clear ho6 hg6 hh_))
     go_ret
     exact ⟨_,_,_,by rfl,by rw [HRES.out];exact own_baseB HO6.out HB.out.size,by rw [HRES.out];have:=HN5.out;simp [little_len] at *;omega,HB.out.trans ((Below.grown (HBW.out.trans (HB5.out.mono HBW.out.size)) HG6.out (Nat.le_trans HBW.out.size HB5.out.size) (fun k_ hk_=>(own_ltB HOX.out k_ hk_).2)).mono HB.out.size)⟩
 · have HMD:=Lh hmod
   clear hmod hlb8
   go_enter Tryz.func139,Tryz.ntmps139
   go_upto_region 1 with go_in
   rw [←HW.out]
   clear HW
   go_upto_region 6 with (first | ((with_reducible refine (HLB.out _).mono ?_);rintro e_ w1_ ⟨rfl,hw_⟩;subst w1_) | ((with_reducible refine (HLX.out _).mono ?_);rintro e_ w1_ ⟨rfl,hw_⟩;subst w1_) | go_in)
   refine wp_code (c:=partR Tryz.f139 6) (by kernel_rfl) ?_
   refine place_r6 (M:=1) _ _ HP.out (by decide) ?_
   intro g6 c9 dA dB dC dD dE dF dG dH dI dJ w6_ ⟨ho6_,hb6_⟩
   have HO6_:=Lh ho6_
   have HB6_:=Lh hb6_
   obtain ⟨k0_,k1_,k2_,k3_⟩:=HPC.out w6_ hb6_
   clear ho6_ hb6_ c0_ c1_ c2_ c3_
   rcases hidx with ⟨x1_,hx⟩ | ⟨⟨x1_,hx⟩,⟨x2_,hx4⟩ | ⟨x2_,hx4⟩⟩
   · have HRES:=Lh (show placeY mid i=[64*1+8*lo3 mid+4,64*scaleF i.scale+8*lo3 i.index+lo3 i.base]++littleF i.disp 1 from by
       unfold placeY
       rw [HMD.out]
       rw [if_pos (.inl hx),if_neg hx];rfl)
     clear hx
     go_upto_region 11 with (first | ((with_reducible refine (HLB.out _).mono ?_);rintro e_ w1_ ⟨rfl,hw_⟩;subst w1_) | ((with_reducible refine (HLX.out _).mono ?_);rintro e_ w1_ ⟨rfl,hw_⟩;subst w1_) | go_in)
     refine wp_code (c:=partR Tryz.f139 11) (by kernel_rfl) ?_
     refine place_r11 (M:=1) (X:=lo3 i.index) _ _ (HPB.out _ HB6_.out) (by decide) (lo3_lt _) HSC.out ?_
     intro g11 y53 y54 y55 y56 y57 y58 y59 y60 y61 y62 y63 y64 y65 y66 y67 y68 y69 y70 y71 y72 w11_ ⟨ho11_,hb11_⟩
     have HOX:=Lh (show w11_.ownsRow W.heap.size 5 1 (.slice (some ⟨g11,0,none⟩) 2 2) 2 (u8V [64*1+8*lo3 mid+4,64*scaleF i.scale+8*(lo3 i.index)+lo3 i.base]) from own_baseB ho11_ HB6_.out.size)
     have HBW:=Lh (HB6_.out.trans (hb11_.mono HB6_.out.size))
     clear ho11_ hb11_ k0_ k1_ k2_ k3_
     have HLT:=Lh (fun w_=>show Calls Tryz.prog 138 #[.int .i64 i.disp,.int .i64 1] w_ (BytesTold (littleF i.disp 1) w_) from little_any i.disp 1 (by decide) w_)
     obtain ⟨d0_,d1_,d2_,d3_⟩:=HPC.out w11_ HBW.out
     go_wp2_with (first
       | ((with_reducible refine (HLT.out _).mono ?_);rintro e_ w5 ⟨A5,n5,c5,rfl,ho5,hn5,hb5⟩;have HO5:=Lh ho5;have HN5:=Lh hn5;have HB5:=Lh hb5;clear ho5 hn5 hb5)
       | (at_builtin;refine wpList_app8 rfl _ _ rfl W.heap.size w11_.heap.size (.slice (some ⟨g11,0,none⟩) 2 2) (.slice A5 n5 c5) 2 n5 [64*1+8*lo3 mid+4,64*scaleF i.scale+8*(lo3 i.index)+lo3 i.base] (littleF i.disp 1) rfl rfl (own_keepB HOX.out HB5.out) HO5.out (by have:=HN5.out;rw [little_len] at this;omega) (Nat.le_trans HBW.out.size HB5.out.size) ?_;intro v6_ w6 ho6 hg6;obtain ⟨A6,c6,rfl,hh_⟩:=own_formB ho6;have HO6:=Lh ho6;have HG6:=Lh hg6;clear ho6 hg6 hh_))
     go_ret
     exact ⟨_,_,_,by rfl,by rw [HRES.out];exact own_baseB HO6.out HB.out.size,by rw [HRES.out];have:=HN5.out;simp [little_len] at *;omega,HB.out.trans ((Below.grown (HBW.out.trans (HB5.out.mono HBW.out.size)) HG6.out (Nat.le_trans HBW.out.size HB5.out.size) (fun k_ hk_=>(own_ltB HOX.out k_ hk_).2)).mono HB.out.size)⟩
   · have HRES:=Lh (show placeY mid i=[64*1+8*lo3 mid+4,64*scaleF i.scale+8*4+lo3 i.base]++littleF i.disp 1 from by
       unfold placeY
       rw [HMD.out]
       rw [if_pos (.inr (HLE.out.symm.trans hx4)),if_pos hx];rfl)
     clear hx hx4
     go_upto_region 11 with (first | ((with_reducible refine (HLB.out _).mono ?_);rintro e_ w1_ ⟨rfl,hw_⟩;subst w1_) | ((with_reducible refine (HLX.out _).mono ?_);rintro e_ w1_ ⟨rfl,hw_⟩;subst w1_) | go_in)
     refine wp_code (c:=partR Tryz.f139 11) (by kernel_rfl) ?_
     refine place_r11 (M:=1) (X:=4) _ _ (HPB.out _ HB6_.out) (by decide) (by decide) HSC.out ?_
     intro g11 y53 y54 y55 y56 y57 y58 y59 y60 y61 y62 y63 y64 y65 y66 y67 y68 y69 y70 y71 y72 w11_ ⟨ho11_,hb11_⟩
     have HOX:=Lh (show w11_.ownsRow W.heap.size 5 1 (.slice (some ⟨g11,0,none⟩) 2 2) 2 (u8V [64*1+8*lo3 mid+4,64*scaleF i.scale+8*(4)+lo3 i.base]) from own_baseB ho11_ HB6_.out.size)
     have HBW:=Lh (HB6_.out.trans (hb11_.mono HB6_.out.size))
     clear ho11_ hb11_ k0_ k1_ k2_ k3_
     have HLT:=Lh (fun w_=>show Calls Tryz.prog 138 #[.int .i64 i.disp,.int .i64 1] w_ (BytesTold (littleF i.disp 1) w_) from little_any i.disp 1 (by decide) w_)
     obtain ⟨d0_,d1_,d2_,d3_⟩:=HPC.out w11_ HBW.out
     go_wp2_with (first
       | ((with_reducible refine (HLT.out _).mono ?_);rintro e_ w5 ⟨A5,n5,c5,rfl,ho5,hn5,hb5⟩;have HO5:=Lh ho5;have HN5:=Lh hn5;have HB5:=Lh hb5;clear ho5 hn5 hb5)
       | (at_builtin;refine wpList_app8 rfl _ _ rfl W.heap.size w11_.heap.size (.slice (some ⟨g11,0,none⟩) 2 2) (.slice A5 n5 c5) 2 n5 [64*1+8*lo3 mid+4,64*scaleF i.scale+8*(4)+lo3 i.base] (littleF i.disp 1) rfl rfl (own_keepB HOX.out HB5.out) HO5.out (by have:=HN5.out;rw [little_len] at this;omega) (Nat.le_trans HBW.out.size HB5.out.size) ?_;intro v6_ w6 ho6 hg6;obtain ⟨A6,c6,rfl,hh_⟩:=own_formB ho6;have HO6:=Lh ho6;have HG6:=Lh hg6;clear ho6 hg6 hh_))
     go_ret
     exact ⟨_,_,_,by rfl,by rw [HRES.out];exact own_baseB HO6.out HB.out.size,by rw [HRES.out];have:=HN5.out;simp [little_len] at *;omega,HB.out.trans ((Below.grown (HBW.out.trans (HB5.out.mono HBW.out.size)) HG6.out (Nat.le_trans HBW.out.size HB5.out.size) (fun k_ hk_=>(own_ltB HOX.out k_ hk_).2)).mono HB.out.size)⟩
   · have HRES:=Lh (show placeY mid i=[64*1+8*lo3 mid+lo3 i.base]++littleF i.disp 1 from by
       unfold placeY
       rw [HMD.out]
       rw [if_neg (fun h=>h.elim (fun h=>h hx) (fun h=>hx4 (HLE.out.trans h)))];rfl)
     clear hx hx4
     have HOX:=Lh (show w6_.ownsRow W.heap.size 5 1 (.slice (some ⟨g6,0,none⟩) 1 1) 1 (u8V [64*1+8*lo3 mid+lo3 i.base]) from HO6_.out)
     have HBW:=HB6_
     have HLT:=Lh (fun w_=>show Calls Tryz.prog 138 #[.int .i64 i.disp,.int .i64 1] w_ (BytesTold (littleF i.disp 1) w_) from little_any i.disp 1 (by decide) w_)
     go_wp2_with (first
       | ((with_reducible refine (HLB.out _).mono ?_);rintro e_ w1_ ⟨rfl,hw_⟩;subst w1_)
       | ((with_reducible refine (HLT.out _).mono ?_);rintro e_ w5 ⟨A5,n5,c5,rfl,ho5,hn5,hb5⟩;have HO5:=Lh ho5;have HN5:=Lh hn5;have HB5:=Lh hb5;clear ho5 hn5 hb5)
       | (at_builtin;refine wpList_app8 rfl _ _ rfl W.heap.size w6_.heap.size (.slice (some ⟨g6,0,none⟩) 1 1) (.slice A5 n5 c5) 1 n5 [64*1+8*lo3 mid+lo3 i.base] (littleF i.disp 1) rfl rfl (own_keepB HOX.out HB5.out) HO5.out (by have:=HN5.out;rw [little_len] at this;omega) (Nat.le_trans HBW.out.size HB5.out.size) ?_;intro v6_ w6 ho6 hg6;obtain ⟨A6,c6,rfl,hh_⟩:=own_formB ho6;have HO6:=Lh ho6;have HG6:=Lh hg6;clear ho6 hg6 hh_))
     go_ret
     exact ⟨_,_,_,by rfl,by rw [HRES.out];exact own_baseB HO6.out HB.out.size,by rw [HRES.out];have:=HN5.out;simp [little_len] at *;omega,HB.out.trans ((Below.grown (HBW.out.trans (HB5.out.mono HBW.out.size)) HG6.out (Nat.le_trans HBW.out.size HB5.out.size) (fun k_ hk_=>(own_ltB HOX.out k_ hk_).2)).mono HB.out.size)⟩
 · have HMD:=Lh hmod
   clear hmod hlb8
   go_enter Tryz.func139,Tryz.ntmps139
   go_upto_region 1 with go_in
   rw [←HW.out]
   clear HW
   go_upto_region 6 with (first | ((with_reducible refine (HLB.out _).mono ?_);rintro e_ w1_ ⟨rfl,hw_⟩;subst w1_) | ((with_reducible refine (HLX.out _).mono ?_);rintro e_ w1_ ⟨rfl,hw_⟩;subst w1_) | go_in)
   refine wp_code (c:=partR Tryz.f139 6) (by kernel_rfl) ?_
   refine place_r6 (M:=2) _ _ HP.out (by decide) ?_
   intro g6 c9 dA dB dC dD dE dF dG dH dI dJ w6_ ⟨ho6_,hb6_⟩
   have HO6_:=Lh ho6_
   have HB6_:=Lh hb6_
   obtain ⟨k0_,k1_,k2_,k3_⟩:=HPC.out w6_ hb6_
   clear ho6_ hb6_ c0_ c1_ c2_ c3_
   rcases hidx with ⟨x1_,hx⟩ | ⟨⟨x1_,hx⟩,⟨x2_,hx4⟩ | ⟨x2_,hx4⟩⟩
   · have HRES:=Lh (show placeY mid i=[64*2+8*lo3 mid+4,64*scaleF i.scale+8*lo3 i.index+lo3 i.base]++littleF i.disp 4 from by
       unfold placeY
       rw [HMD.out]
       rw [if_pos (.inl hx),if_neg hx];rfl)
     clear hx
     go_upto_region 11 with (first | ((with_reducible refine (HLB.out _).mono ?_);rintro e_ w1_ ⟨rfl,hw_⟩;subst w1_) | ((with_reducible refine (HLX.out _).mono ?_);rintro e_ w1_ ⟨rfl,hw_⟩;subst w1_) | go_in)
     refine wp_code (c:=partR Tryz.f139 11) (by kernel_rfl) ?_
     refine place_r11 (M:=2) (X:=lo3 i.index) _ _ (HPB.out _ HB6_.out) (by decide) (lo3_lt _) HSC.out ?_
     intro g11 y53 y54 y55 y56 y57 y58 y59 y60 y61 y62 y63 y64 y65 y66 y67 y68 y69 y70 y71 y72 w11_ ⟨ho11_,hb11_⟩
     have HOX:=Lh (show w11_.ownsRow W.heap.size 5 1 (.slice (some ⟨g11,0,none⟩) 2 2) 2 (u8V [64*2+8*lo3 mid+4,64*scaleF i.scale+8*(lo3 i.index)+lo3 i.base]) from own_baseB ho11_ HB6_.out.size)
     have HBW:=Lh (HB6_.out.trans (hb11_.mono HB6_.out.size))
     clear ho11_ hb11_ k0_ k1_ k2_ k3_
     have HLT:=Lh (fun w_=>show Calls Tryz.prog 138 #[.int .i64 i.disp,.int .i64 4] w_ (BytesTold (littleF i.disp 4) w_) from little_any i.disp 4 (by decide) w_)
     obtain ⟨d0_,d1_,d2_,d3_⟩:=HPC.out w11_ HBW.out
     go_wp2_with (first
       | ((with_reducible refine (HLT.out _).mono ?_);rintro e_ w5 ⟨A5,n5,c5,rfl,ho5,hn5,hb5⟩;have HO5:=Lh ho5;have HN5:=Lh hn5;have HB5:=Lh hb5;clear ho5 hn5 hb5)
       | (at_builtin;refine wpList_app8 rfl _ _ rfl W.heap.size w11_.heap.size (.slice (some ⟨g11,0,none⟩) 2 2) (.slice A5 n5 c5) 2 n5 [64*2+8*lo3 mid+4,64*scaleF i.scale+8*(lo3 i.index)+lo3 i.base] (littleF i.disp 4) rfl rfl (own_keepB HOX.out HB5.out) HO5.out (by have:=HN5.out;rw [little_len] at this;omega) (Nat.le_trans HBW.out.size HB5.out.size) ?_;intro v6_ w6 ho6 hg6;obtain ⟨A6,c6,rfl,hh_⟩:=own_formB ho6;have HO6:=Lh ho6;have HG6:=Lh hg6;clear ho6 hg6 hh_))
     go_ret
     exact ⟨_,_,_,by rfl,by rw [HRES.out];exact own_baseB HO6.out HB.out.size,by rw [HRES.out];have:=HN5.out;simp [little_len] at *;omega,HB.out.trans ((Below.grown (HBW.out.trans (HB5.out.mono HBW.out.size)) HG6.out (Nat.le_trans HBW.out.size HB5.out.size) (fun k_ hk_=>(own_ltB HOX.out k_ hk_).2)).mono HB.out.size)⟩
   · have HRES:=Lh (show placeY mid i=[64*2+8*lo3 mid+4,64*scaleF i.scale+8*4+lo3 i.base]++littleF i.disp 4 from by
       unfold placeY
       rw [HMD.out]
       rw [if_pos (.inr (HLE.out.symm.trans hx4)),if_pos hx];rfl)
     clear hx hx4
     go_upto_region 11 with (first | ((with_reducible refine (HLB.out _).mono ?_);rintro e_ w1_ ⟨rfl,hw_⟩;subst w1_) | ((with_reducible refine (HLX.out _).mono ?_);rintro e_ w1_ ⟨rfl,hw_⟩;subst w1_) | go_in)
     refine wp_code (c:=partR Tryz.f139 11) (by kernel_rfl) ?_
     refine place_r11 (M:=2) (X:=4) _ _ (HPB.out _ HB6_.out) (by decide) (by decide) HSC.out ?_
     intro g11 y53 y54 y55 y56 y57 y58 y59 y60 y61 y62 y63 y64 y65 y66 y67 y68 y69 y70 y71 y72 w11_ ⟨ho11_,hb11_⟩
     have HOX:=Lh (show w11_.ownsRow W.heap.size 5 1 (.slice (some ⟨g11,0,none⟩) 2 2) 2 (u8V [64*2+8*lo3 mid+4,64*scaleF i.scale+8*(4)+lo3 i.base]) from own_baseB ho11_ HB6_.out.size)
     have HBW:=Lh (HB6_.out.trans (hb11_.mono HB6_.out.size))
     clear ho11_ hb11_ k0_ k1_ k2_ k3_
     have HLT:=Lh (fun w_=>show Calls Tryz.prog 138 #[.int .i64 i.disp,.int .i64 4] w_ (BytesTold (littleF i.disp 4) w_) from little_any i.disp 4 (by decide) w_)
     obtain ⟨d0_,d1_,d2_,d3_⟩:=HPC.out w11_ HBW.out
     go_wp2_with (first
       | ((with_reducible refine (HLT.out _).mono ?_);rintro e_ w5 ⟨A5,n5,c5,rfl,ho5,hn5,hb5⟩;have HO5:=Lh ho5;have HN5:=Lh hn5;have HB5:=Lh hb5;clear ho5 hn5 hb5)
       | (at_builtin;refine wpList_app8 rfl _ _ rfl W.heap.size w11_.heap.size (.slice (some ⟨g11,0,none⟩) 2 2) (.slice A5 n5 c5) 2 n5 [64*2+8*lo3 mid+4,64*scaleF i.scale+8*(4)+lo3 i.base] (littleF i.disp 4) rfl rfl (own_keepB HOX.out HB5.out) HO5.out (by have:=HN5.out;rw [little_len] at this;omega) (Nat.le_trans HBW.out.size HB5.out.size) ?_;intro v6_ w6 ho6 hg6;obtain ⟨A6,c6,rfl,hh_⟩:=own_formB ho6;have HO6:=Lh ho6;have HG6:=Lh hg6;clear ho6 hg6 hh_))
     go_ret
     exact ⟨_,_,_,by rfl,by rw [HRES.out];exact own_baseB HO6.out HB.out.size,by rw [HRES.out];have:=HN5.out;simp [little_len] at *;omega,HB.out.trans ((Below.grown (HBW.out.trans (HB5.out.mono HBW.out.size)) HG6.out (Nat.le_trans HBW.out.size HB5.out.size) (fun k_ hk_=>(own_ltB HOX.out k_ hk_).2)).mono HB.out.size)⟩
   · have HRES:=Lh (show placeY mid i=[64*2+8*lo3 mid+lo3 i.base]++littleF i.disp 4 from by
       unfold placeY
       rw [HMD.out]
       rw [if_neg (fun h=>h.elim (fun h=>h hx) (fun h=>hx4 (HLE.out.trans h)))];rfl)
     clear hx hx4
     have HOX:=Lh (show w6_.ownsRow W.heap.size 5 1 (.slice (some ⟨g6,0,none⟩) 1 1) 1 (u8V [64*2+8*lo3 mid+lo3 i.base]) from HO6_.out)
     have HBW:=HB6_
     have HLT:=Lh (fun w_=>show Calls Tryz.prog 138 #[.int .i64 i.disp,.int .i64 4] w_ (BytesTold (littleF i.disp 4) w_) from little_any i.disp 4 (by decide) w_)
     go_wp2_with (first
       | ((with_reducible refine (HLB.out _).mono ?_);rintro e_ w1_ ⟨rfl,hw_⟩;subst w1_)
       | ((with_reducible refine (HLT.out _).mono ?_);rintro e_ w5 ⟨A5,n5,c5,rfl,ho5,hn5,hb5⟩;have HO5:=Lh ho5;have HN5:=Lh hn5;have HB5:=Lh hb5;clear ho5 hn5 hb5)
       | (at_builtin;refine wpList_app8 rfl _ _ rfl W.heap.size w6_.heap.size (.slice (some ⟨g6,0,none⟩) 1 1) (.slice A5 n5 c5) 1 n5 [64*2+8*lo3 mid+lo3 i.base] (littleF i.disp 4) rfl rfl (own_keepB HOX.out HB5.out) HO5.out (by have:=HN5.out;rw [little_len] at this;omega) (Nat.le_trans HBW.out.size HB5.out.size) ?_;intro v6_ w6 ho6 hg6;obtain ⟨A6,c6,rfl,hh_⟩:=own_formB ho6;have HO6:=Lh ho6;have HG6:=Lh hg6;clear ho6 hg6 hh_))
     go_ret
     exact ⟨_,_,_,by rfl,by rw [HRES.out];exact own_baseB HO6.out HB.out.size,by rw [HRES.out];have:=HN5.out;simp [little_len] at *;omega,HB.out.trans ((Below.grown (HBW.out.trans (HB5.out.mono HBW.out.size)) HG6.out (Nat.le_trans HBW.out.size HB5.out.size) (fun k_ hk_=>(own_ltB HOX.out k_ hk_).2)).mono HB.out.size)⟩
end Go.Proofs.YtocndimihokcmaaGreat
