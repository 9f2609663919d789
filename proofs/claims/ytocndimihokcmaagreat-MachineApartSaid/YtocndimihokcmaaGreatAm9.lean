/- Part 9 of a claim; what it proves stands in its last text. -/
import Derived.Test.YtocndimihokcmaaGreatAm8
import Derived.Test.YtocndimihokcmaaGreatAm1
import Derived.Test.YtocndimihokcmaaGreatAm2
import Derived.Laws.Rows
import Derived.Deep.WholeRow
import Derived.Deep.DeepCutAuto
import Derived.Outline
import Derived.Deep.LoopGhost
namespace Go.Proofs.YtocndimihokcmaaGreat
open Go.RowKit
set_option maxRecDepth 100000
theorem FormAt.mem {w:World} {b:Nat} {c m:Nat} {i:Ins} (h:FormAt w b c m i):∀ (j:Nat) (v:Value),(#[Value.int .i64 i.base,.int .i64 i.index,.int .i64 i.scale,.int .i64 i.disp]:Array Value).toList[j]? = some v→w.cell? ((⟨b+1,4,none⟩:Addr).add j)=some v:=by
 intro j v hv
 rw [add_plain]
 simp only [World.cell?,h.ins]
 match j,hv with
 | 0,hv=>simpa [insRow] using hv
 | 1,hv=>simpa [insRow] using hv
 | 2,hv=>simpa [insRow] using hv
 | 3,hv=>simpa [insRow] using hv
 | j+4,hv=>simp at hv
theorem infoMem4:(Tryz.prog.info? 38).map (·.size)=some 4:=by kernel_rfl
set_option maxHeartbeats 8000000 in
theorem puttoD_any (c m:Nat) (i:Ins) (hr:0≤i.d∧i.d < 16) (hok:PlcOk i) (w:World):Calls Tryz.prog 103 #[.agg #[.int .u8 (c:Nat),.int .u8 (m:Nat)],.agg (insRow i).toArray] w (BytesTold ([rexF i.d i.index i.base,c]++placeY (i.d) i) w):=by
 obtain ⟨W,hW⟩:∃ W,W=(w.alloc (.cells #[.int .u8 (c:Nat),.int .u8 (m:Nat)] 139)).alloc (.cells (insRow i).toArray 40):=⟨_,rfl⟩
 have hb:Below w.heap.size w W:=by rw [hW];exact ((Below.refl _ _).alloc (Nat.le_refl _) _).alloc (by simp) _
 have hf:W.heap[w.heap.size]? = some (.cells #[.int .u8 (c:Nat),.int .u8 (m:Nat)] 139 (0,0)):=by rw [hW];exact (Below.heap_alloc _ _ _ (by simp)).trans (heap_alloc_new w _)
 have hi:W.heap[w.heap.size+1]? = some (.cells (insRow i).toArray 40 (0,0)):=by
   rw [hW]
   have:=heap_alloc_new (w.alloc (.cells #[.int .u8 (c:Nat),.int .u8 (m:Nat)] 139)) (.cells (insRow i).toArray 40)
   simpa using this
 have HC:=Lh (show ∀ w_,Below W.heap.size W w_→FormAt w_ w.heap.size c m i from fun w_ h=>⟨(h.block w.heap.size (lt_of_block hf)).trans hf,(h.block (w.heap.size+1) (lt_of_block hi)).trans hi⟩)
 have HW:=Lh hW
 have HB:=Lh hb
 clear hW hb hf hi
 have HR:=Lh (fun w_=>rex_any (i.d) i.index i.base hr.2 hok.lt hok.base.2 w_)
 have HPL:=Lh (fun w_=>place9_any (i.d) i hok w_)
 clear hr hok
 go_enter Tryz.func103,Tryz.ntmps103
 go_upto_region 1 with go_in
 rw [←HW.out]
 clear HW
 refine wp_region_grow (Below W.heap.size W) (by kernel_rfl) (by kernel_rfl) (Below.refl _ W).drew ?_
 have hSx0:=(Below.refl W.heap.size W).drew
 obtain ⟨x0,hx0⟩:∃ x0,x0=W.drew:=⟨_,rfl⟩
 rw [←hx0] at hSx0 ⊢
 clear hx0
 show runC _ _ _ 19 _ [0,1,2,3,4,5,6,7,8,9,10,11,12,13,14,15,16,17,18] _ _
 refine runC_at 0 (v:=?_) (by rfl) (by rfl) (by rfl) (by kernel_rfl) (by rfl) ?_ ?_
 rotate_left
 focus (intro w_ hw_;obtain ⟨⟨f0_,f1_⟩,f2_,f3_,f4_,f5_,f6_,f7_⟩:=(HC.out w_ hw_).cells;go_simp;(try with_reducible rfl);done)
 (try dsimp only [Act.put])
 show runC _ _ _ 18 _ [1,2,3,4,5,6,7,8,9,10,11,12,13,14,15,16,17,18] _ _
 try simp only [List.setIfInBounds_toArray,List.set_cons_zero,List.set_cons_succ]
 refine runC_at 1 (v:=?_) (by rfl) (by rfl) (by rfl) (by kernel_rfl) (by rfl) ?_ ?_
 rotate_left
 focus (intro w_ hw_;obtain ⟨⟨f0_,f1_⟩,f2_,f3_,f4_,f5_,f6_,f7_⟩:=(HC.out w_ hw_).cells;go_simp;(try with_reducible rfl);done)
 (try dsimp only [Act.put])
 show runC _ _ _ 17 _ [2,3,4,5,6,7,8,9,10,11,12,13,14,15,16,17,18] _ _
 try simp only [List.setIfInBounds_toArray,List.set_cons_zero,List.set_cons_succ]
 refine runC_at 2 (v:=?_) (by rfl) (by rfl) (by rfl) (by kernel_rfl) (by rfl) ?_ ?_
 rotate_left
 focus (intro w_ hw_;obtain ⟨⟨f0_,f1_⟩,f2_,f3_,f4_,f5_,f6_,f7_⟩:=(HC.out w_ hw_).cells;go_simp;(try with_reducible rfl);done)
 (try dsimp only [Act.put])
 show runC _ _ _ 16 _ [3,4,5,6,7,8,9,10,11,12,13,14,15,16,17,18] _ _
 try simp only [List.setIfInBounds_toArray,List.set_cons_zero,List.set_cons_succ]
 refine runC_at 3 (v:=?_) (by rfl) (by rfl) (by rfl) (by kernel_rfl) (by rfl) ?_ ?_
 rotate_left
 focus (intro w_ hw_;obtain ⟨⟨f0_,f1_⟩,f2_,f3_,f4_,f5_,f6_,f7_⟩:=(HC.out w_ hw_).cells;go_simp;(try with_reducible rfl);done)
 (try dsimp only [Act.put])
 show runC _ _ _ 15 _ [4,5,6,7,8,9,10,11,12,13,14,15,16,17,18] _ _
 try simp only [List.setIfInBounds_toArray,List.set_cons_zero,List.set_cons_succ]
 refine runC_at 4 (v:=?_) (by rfl) (by rfl) (by rfl) (by kernel_rfl) (by rfl) ?_ ?_
 rotate_left
 focus (intro w_ hw_;obtain ⟨⟨f0_,f1_⟩,f2_,f3_,f4_,f5_,f6_,f7_⟩:=(HC.out w_ hw_).cells;go_simp;(try with_reducible rfl);done)
 (try dsimp only [Act.put])
 show runC _ _ _ 14 _ [5,6,7,8,9,10,11,12,13,14,15,16,17,18] _ _
 try simp only [List.setIfInBounds_toArray,List.set_cons_zero,List.set_cons_succ]
 refine runC_at 5 (v:=?_) (by rfl) (by rfl) (by rfl) (by kernel_rfl) (by rfl) ?_ ?_
 rotate_left
 focus (intro w_ hw_;obtain ⟨⟨f0_,f1_⟩,f2_,f3_,f4_,f5_,f6_,f7_⟩:=(HC.out w_ hw_).cells;go_simp;(try with_reducible rfl);done)
 (try dsimp only [Act.put])
 show runC _ _ _ 13 _ [6,7,8,9,10,11,12,13,14,15,16,17,18] _ _
 try simp only [List.setIfInBounds_toArray,List.set_cons_zero,List.set_cons_succ]
 refine runC_at 6 (v:=?_) (by rfl) (by rfl) (by rfl) (by kernel_rfl) (by rfl) ?_ ?_
 rotate_left
 focus (intro w_ hw_;obtain ⟨⟨f0_,f1_⟩,f2_,f3_,f4_,f5_,f6_,f7_⟩:=(HC.out w_ hw_).cells;go_simp;(try with_reducible rfl);done)
 (try dsimp only [Act.put])
 show runC _ _ _ 12 _ [7,8,9,10,11,12,13,14,15,16,17,18] _ _
 try simp only [List.setIfInBounds_toArray,List.set_cons_zero,List.set_cons_succ]
 refine runC_at 7 (v:=?_) (by rfl) (by rfl) (by rfl) (by kernel_rfl) (by rfl) ?_ ?_
 rotate_left
 focus (intro w_ hw_;obtain ⟨⟨f0_,f1_⟩,f2_,f3_,f4_,f5_,f6_,f7_⟩:=(HC.out w_ hw_).cells;go_simp;(try with_reducible rfl);done)
 (try dsimp only [Act.put])
 show runC _ _ _ 11 _ [8,9,10,11,12,13,14,15,16,17,18] _ _
 try simp only [List.setIfInBounds_toArray,List.set_cons_zero,List.set_cons_succ]
 refine runC_at 9 (v:=?_) (by rfl) (by rfl) (by rfl) (by kernel_rfl) (by rfl) ?_ ?_
 rotate_left
 focus (intro w_ hw_;obtain ⟨⟨f0_,f1_⟩,f2_,f3_,f4_,f5_,f6_,f7_⟩:=(HC.out w_ hw_).cells;go_simp;(try with_reducible rfl);done)
 (try dsimp only [Act.put])
 show runC _ _ _ 10 _ [8,10,11,12,13,14,15,16,17,18] _ _
 try simp only [List.setIfInBounds_toArray,List.set_cons_zero,List.set_cons_succ]
 refine runC_at 10 (v:=?_) (by rfl) (by rfl) (by rfl) (by kernel_rfl) (by rfl) ?_ ?_
 rotate_left
 focus (intro w_ hw_;obtain ⟨⟨f0_,f1_⟩,f2_,f3_,f4_,f5_,f6_,f7_⟩:=(HC.out w_ hw_).cells;go_simp;(try with_reducible rfl);done)
 (try dsimp only [Act.put])
 show runC _ _ _ 9 _ [8,11,12,13,14,15,16,17,18] _ _
 try simp only [List.setIfInBounds_toArray,List.set_cons_zero,List.set_cons_succ]
 refine runC_at 12 (v:=?_) (by rfl) (by rfl) (by rfl) (by kernel_rfl) (by rfl) ?_ ?_
 rotate_left
 focus (intro w_ hw_;obtain ⟨⟨f0_,f1_⟩,f2_,f3_,f4_,f5_,f6_,f7_⟩:=(HC.out w_ hw_).cells;go_simp;(try with_reducible rfl);done)
 (try dsimp only [Act.put])
 show runC _ _ _ 8 _ [8,11,13,14,15,16,17,18] _ _
 try simp only [List.setIfInBounds_toArray,List.set_cons_zero,List.set_cons_succ]
 refine runC_at 13 (v:=?_) (by rfl) (by rfl) (by rfl) (by kernel_rfl) (by rfl) ?_ ?_
 rotate_left
 focus (intro w_ hw_;obtain ⟨⟨f0_,f1_⟩,f2_,f3_,f4_,f5_,f6_,f7_⟩:=(HC.out w_ hw_).cells;go_simp;(try with_reducible rfl);done)
 (try dsimp only [Act.put])
 show runC _ _ _ 7 _ [8,11,14,15,16,17,18] _ _
 try simp only [List.setIfInBounds_toArray,List.set_cons_zero,List.set_cons_succ]
 refine runC_at 14 (v:=?_) (by rfl) (by rfl) (by rfl) (by kernel_rfl) (by rfl) ?_ ?_
 rotate_left
 focus (intro w_ hw_;obtain ⟨⟨f0_,f1_⟩,f2_,f3_,f4_,f5_,f6_,f7_⟩:=(HC.out w_ hw_).cells;go_simp;(try with_reducible rfl);done)
 (try dsimp only [Act.put])
 show runC _ _ _ 6 _ [8,11,15,16,17,18] _ _
 try simp only [List.setIfInBounds_toArray,List.set_cons_zero,List.set_cons_succ]
 refine runC_at 15 (v:=.agg #[.int .i64 i.base,.int .i64 i.index,.int .i64 i.scale,.int .i64 i.disp]) (by rfl) (by rfl) (by rfl) (by kernel_rfl) (by rfl) (fun w_ hw_=>exec_load 38 _ rfl ⟨w.heap.size+1,4,none⟩ rfl _ _ Tryz.underlying38 rfl infoMem4 (HC.out w_ hw_).mem) ?_
 (try dsimp only [Act.put])
 show runC _ _ _ 5 _ [8,11,16,17,18] _ _
 try simp only [List.setIfInBounds_toArray,List.set_cons_zero,List.set_cons_succ]
 refine runC_one 8 (by kernel_rfl) (by kernel_rfl) (by rfl) (by rfl) ?_
 refine tdoes_call (f:=?_) (args:=?_) (w1:=?_) ?_ ?_
 rotate_left 3
 focus (go_simp;refine ⟨⟨?_,?_⟩,?_⟩ <;> with_reducible rfl)
 refine (HR.out x0).mono ?_
 rintro e_ w1_ ⟨rfl,hw_⟩
 subst w1_
 refine ⟨_,rfl,sameS hSx0 ?_⟩
 (try dsimp only [Act.put])
 try simp only [List.setIfInBounds_toArray,List.set_cons_zero,List.set_cons_succ]
 show runC _ _ _ 4 _ [11,16,17,18] _ _
 refine runC_two 11 16 (by kernel_rfl) (by kernel_rfl) (by rfl) (by rfl) (by rfl) (by rfl) ?_ ?_
 · obtain ⟨x2,h_⟩:∃ q,q=x0.alloc (.cells #[.int .u8 (rexF i.d i.index i.base:Nat),.int .u8 (c:Nat)] 5):=⟨_,rfl⟩
   have hb_:Below x0.heap.size x0 x2:=by rw [h_];exact (Below.refl _ _).alloc (Nat.le_refl _) _
   have hSx2:=hSx0.trans (hb_.mono hSx0.size)
   refine tdoes_op (w1:=x2) (v:=.slice (some ⟨x0.heap.size,0,none⟩) 2 2) (by rw [h_];exact exec_u8_2 _ _ rfl rfl rfl) (sameS hSx2 ?_)
   (try dsimp only [Act.put])
   try simp only [List.setIfInBounds_toArray,List.set_cons_zero,List.set_cons_succ]
   obtain ⟨gL,hg_⟩:∃ q,q=x0.heap.size:=⟨_,rfl⟩
   have HOL:=Lh (show x2.ownsRow W.heap.size 5 1 (.slice (some ⟨gL,0,none⟩) 2 2) 2 (u8V [rexF i.d i.index i.base,c]) from by rw [hg_];exact own_lit8 [rexF i.d i.index i.base,c] #[.int .u8 (rexF i.d i.index i.base:Nat),.int .u8 (c:Nat)] rfl hSx0.size (by simp) (by simp) (by rw [h_];exact heap_alloc_new x0 _) 2 rfl)
   have HBx2:=Lh hb_
   rw [←hg_]
   clear h_ hg_ hb_
   show runC _ _ _ 3 _ [16,17,18] _ _
   refine runC_one 16 (by kernel_rfl) (by kernel_rfl) (by rfl) (by rfl) ?_
   refine tdoes_call (f:=?_) (args:=?_) (w1:=?_) ?_ ?_
   rotate_left 3
   focus (go_simp;refine ⟨⟨?_,?_⟩,?_⟩ <;> with_reducible rfl)
   refine (HPL.out x2).mono ?_
   rintro e_ x3 ⟨AT,nT,cT,rfl,ho_,hn_,hb_⟩
   have hSx3:=hSx2.trans (hb_.mono hSx2.size)
   have HOT:=Lh ho_
   have HNT:=Lh hn_
   have HBx3:=Lh hb_
   clear ho_ hn_ hb_
   refine ⟨_,rfl,sameS hSx3 ?_⟩
   (try dsimp only [Act.put])
   try simp only [List.setIfInBounds_toArray,List.set_cons_zero,List.set_cons_succ]
   show runC _ _ _ 2 _ [17,18] _ _
   refine runC_one 17 (by kernel_rfl) (by kernel_rfl) (by rfl) (by rfl) ?_
   have hA_:x3.ownsRow W.heap.size 5 1 (.slice (some ⟨gL,0,none⟩) 2 2) 2 (u8V ([rexF i.d i.index i.base,c])):=by first | exact HOL.out | exact own_keepB HOL.out HBx3.out
   have hB_:∃ b_,x3.ownsRow b_ 5 1 (.slice AT nT cT) nT (u8V (placeY (i.d) i)):=by first | exact ⟨_,HOT.out⟩ | exact ⟨_,own_keepB HOT.out HBx3.out⟩
   obtain ⟨b_,hB_⟩:=hB_
   refine tdoes_app8 _ _ rfl W.heap.size b_ (.slice (some ⟨gL,0,none⟩) 2 2) (.slice AT nT cT) 2 nT ([rexF i.d i.index i.base,c]) (placeY (i.d) i) rfl rfl hA_ hB_ (by have:=HNT.out;have:=placeY_len (i.d) i;omega) hSx3.size ?_
   intro v_ x4 ho_ hg_
   obtain ⟨Ar,cr,rfl,h_⟩:=own_formB ho_
   have hSx4:=Below.grown hSx3 hg_ hSx3.size (fun k_ hk_=>(own_ltB hA_ k_ hk_).2)
   have HOr:=Lh ho_
   clear ho_ hg_ h_ hA_ hB_
   refine sameS hSx4 ?_
   (try dsimp only [Act.put])
   try simp only [List.setIfInBounds_toArray,List.set_cons_zero,List.set_cons_succ]
   show runC _ _ _ 1 _ [18] _ _
   refine runC_at 18 (v:=?_) (by rfl) (by rfl) (by rfl) (by kernel_rfl) (by rfl) ?_ ?_
   rotate_left
   focus (intro w_ hw_;obtain ⟨⟨f0_,f1_⟩,f2_,f3_,f4_,f5_,f6_,f7_⟩:=(HC.out w_ hw_).cells;go_simp;(try with_reducible rfl);done)
   (try dsimp only [Act.put])
   show runC _ _ _ 0 _ [] _ _
   try simp only [List.setIfInBounds_toArray,List.set_cons_zero,List.set_cons_succ]
   refine runC_nil ?_
   (try dsimp only [Act.put])
   try simp only [List.setIfInBounds_toArray,List.set_cons_zero,List.set_cons_succ]
   go_wp2
   go_ret
   exact ⟨_,_,_,by rfl,own_baseB HOr.out HB.out.size,by have:=HNT.out;simp at *;omega,HB.out.trans (hSx4.mono HB.out.size)⟩
 · refine tdoes_call (f:=?_) (args:=?_) (w1:=?_) ?_ ?_
   rotate_left 3
   focus (go_simp;refine ⟨⟨?_,?_⟩,?_⟩ <;> with_reducible rfl)
   refine (HPL.out x0).mono ?_
   rintro e_ x5 ⟨AT,nT,cT,rfl,ho_,hn_,hb_⟩
   have hSx5:=hSx0.trans (hb_.mono hSx0.size)
   have HOT:=Lh ho_
   have HNT:=Lh hn_
   have HBx5:=Lh hb_
   clear ho_ hn_ hb_
   refine ⟨_,rfl,sameS hSx5 ?_⟩
   (try dsimp only [Act.put])
   try simp only [List.setIfInBounds_toArray,List.set_cons_zero,List.set_cons_succ]
   show runC _ _ _ 3 _ [11,17,18] _ _
   refine runC_one 11 (by kernel_rfl) (by kernel_rfl) (by rfl) (by rfl) ?_
   obtain ⟨x6,h_⟩:∃ q,q=x5.alloc (.cells #[.int .u8 (rexF i.d i.index i.base:Nat),.int .u8 (c:Nat)] 5):=⟨_,rfl⟩
   have hb_:Below x5.heap.size x5 x6:=by rw [h_];exact (Below.refl _ _).alloc (Nat.le_refl _) _
   have hSx6:=hSx5.trans (hb_.mono hSx5.size)
   refine tdoes_op (w1:=x6) (v:=.slice (some ⟨x5.heap.size,0,none⟩) 2 2) (by rw [h_];exact exec_u8_2 _ _ rfl rfl rfl) (sameS hSx6 ?_)
   (try dsimp only [Act.put])
   try simp only [List.setIfInBounds_toArray,List.set_cons_zero,List.set_cons_succ]
   obtain ⟨gL,hg_⟩:∃ q,q=x5.heap.size:=⟨_,rfl⟩
   have HOL:=Lh (show x6.ownsRow W.heap.size 5 1 (.slice (some ⟨gL,0,none⟩) 2 2) 2 (u8V [rexF i.d i.index i.base,c]) from by rw [hg_];exact own_lit8 [rexF i.d i.index i.base,c] #[.int .u8 (rexF i.d i.index i.base:Nat),.int .u8 (c:Nat)] rfl hSx5.size (by simp) (by simp) (by rw [h_];exact heap_alloc_new x5 _) 2 rfl)
   have HBx6:=Lh hb_
   rw [←hg_]
   clear h_ hg_ hb_
   show runC _ _ _ 2 _ [17,18] _ _
   refine runC_one 17 (by kernel_rfl) (by kernel_rfl) (by rfl) (by rfl) ?_
   have hA_:x6.ownsRow W.heap.size 5 1 (.slice (some ⟨gL,0,none⟩) 2 2) 2 (u8V ([rexF i.d i.index i.base,c])):=by first | exact HOL.out | exact own_keepB HOL.out HBx6.out
   have hB_:∃ b_,x6.ownsRow b_ 5 1 (.slice AT nT cT) nT (u8V (placeY (i.d) i)):=by first | exact ⟨_,HOT.out⟩ | exact ⟨_,own_keepB HOT.out HBx6.out⟩
   obtain ⟨b_,hB_⟩:=hB_
   refine tdoes_app8 _ _ rfl W.heap.size b_ (.slice (some ⟨gL,0,none⟩) 2 2) (.slice AT nT cT) 2 nT ([rexF i.d i.index i.base,c]) (placeY (i.d) i) rfl rfl hA_ hB_ (by have:=HNT.out;have:=placeY_len (i.d) i;omega) hSx6.size ?_
   intro v_ x7 ho_ hg_
   obtain ⟨Ar,cr,rfl,h_⟩:=own_formB ho_
   have hSx7:=Below.grown hSx6 hg_ hSx6.size (fun k_ hk_=>(own_ltB hA_ k_ hk_).2)
   have HOr:=Lh ho_
   clear ho_ hg_ h_ hA_ hB_
   refine sameS hSx7 ?_
   (try dsimp only [Act.put])
   try simp only [List.setIfInBounds_toArray,List.set_cons_zero,List.set_cons_succ]
   show runC _ _ _ 1 _ [18] _ _
   refine runC_at 18 (v:=?_) (by rfl) (by rfl) (by rfl) (by kernel_rfl) (by rfl) ?_ ?_
   rotate_left
   focus (intro w_ hw_;obtain ⟨⟨f0_,f1_⟩,f2_,f3_,f4_,f5_,f6_,f7_⟩:=(HC.out w_ hw_).cells;go_simp;(try with_reducible rfl);done)
   (try dsimp only [Act.put])
   show runC _ _ _ 0 _ [] _ _
   try simp only [List.setIfInBounds_toArray,List.set_cons_zero,List.set_cons_succ]
   refine runC_nil ?_
   (try dsimp only [Act.put])
   try simp only [List.setIfInBounds_toArray,List.set_cons_zero,List.set_cons_succ]
   go_wp2
   go_ret
   exact ⟨_,_,_,by rfl,own_baseB HOr.out HB.out.size,by have:=HNT.out;simp at *;omega,HB.out.trans (hSx7.mono HB.out.size)⟩
set_option maxHeartbeats 8000000 in
theorem putfromS_any (c m:Nat) (i:Ins) (hr:0≤i.s∧i.s < 16) (hok:PlcOk i) (w:World):Calls Tryz.prog 104 #[.agg #[.int .u8 (c:Nat),.int .u8 (m:Nat)],.agg (insRow i).toArray] w (BytesTold ([rexF i.s i.index i.base,c]++placeY (i.s) i) w):=by
 obtain ⟨W,hW⟩:∃ W,W=(w.alloc (.cells #[.int .u8 (c:Nat),.int .u8 (m:Nat)] 139)).alloc (.cells (insRow i).toArray 40):=⟨_,rfl⟩
 have hb:Below w.heap.size w W:=by rw [hW];exact ((Below.refl _ _).alloc (Nat.le_refl _) _).alloc (by simp) _
 have hf:W.heap[w.heap.size]? = some (.cells #[.int .u8 (c:Nat),.int .u8 (m:Nat)] 139 (0,0)):=by rw [hW];exact (Below.heap_alloc _ _ _ (by simp)).trans (heap_alloc_new w _)
 have hi:W.heap[w.heap.size+1]? = some (.cells (insRow i).toArray 40 (0,0)):=by
   rw [hW]
   have:=heap_alloc_new (w.alloc (.cells #[.int .u8 (c:Nat),.int .u8 (m:Nat)] 139)) (.cells (insRow i).toArray 40)
   simpa using this
 have HC:=Lh (show ∀ w_,Below W.heap.size W w_→FormAt w_ w.heap.size c m i from fun w_ h=>⟨(h.block w.heap.size (lt_of_block hf)).trans hf,(h.block (w.heap.size+1) (lt_of_block hi)).trans hi⟩)
 have HW:=Lh hW
 have HB:=Lh hb
 clear hW hb hf hi
 have HR:=Lh (fun w_=>rex_any (i.s) i.index i.base hr.2 hok.lt hok.base.2 w_)
 have HPL:=Lh (fun w_=>place9_any (i.s) i hok w_)
 clear hr hok
 go_enter Tryz.func104,Tryz.ntmps104
 go_upto_region 1 with go_in
 rw [←HW.out]
 clear HW
 refine wp_region_grow (Below W.heap.size W) (by kernel_rfl) (by kernel_rfl) (Below.refl _ W).drew ?_
 have hSx0:=(Below.refl W.heap.size W).drew
 obtain ⟨x0,hx0⟩:∃ x0,x0=W.drew:=⟨_,rfl⟩
 rw [←hx0] at hSx0 ⊢
 clear hx0
 show runC _ _ _ 19 _ [0,1,2,3,4,5,6,7,8,9,10,11,12,13,14,15,16,17,18] _ _
 refine runC_at 0 (v:=?_) (by rfl) (by rfl) (by rfl) (by kernel_rfl) (by rfl) ?_ ?_
 rotate_left
 focus (intro w_ hw_;obtain ⟨⟨f0_,f1_⟩,f2_,f3_,f4_,f5_,f6_,f7_⟩:=(HC.out w_ hw_).cells;go_simp;(try with_reducible rfl);done)
 (try dsimp only [Act.put])
 show runC _ _ _ 18 _ [1,2,3,4,5,6,7,8,9,10,11,12,13,14,15,16,17,18] _ _
 try simp only [List.setIfInBounds_toArray,List.set_cons_zero,List.set_cons_succ]
 refine runC_at 1 (v:=?_) (by rfl) (by rfl) (by rfl) (by kernel_rfl) (by rfl) ?_ ?_
 rotate_left
 focus (intro w_ hw_;obtain ⟨⟨f0_,f1_⟩,f2_,f3_,f4_,f5_,f6_,f7_⟩:=(HC.out w_ hw_).cells;go_simp;(try with_reducible rfl);done)
 (try dsimp only [Act.put])
 show runC _ _ _ 17 _ [2,3,4,5,6,7,8,9,10,11,12,13,14,15,16,17,18] _ _
 try simp only [List.setIfInBounds_toArray,List.set_cons_zero,List.set_cons_succ]
 refine runC_at 2 (v:=?_) (by rfl) (by rfl) (by rfl) (by kernel_rfl) (by rfl) ?_ ?_
 rotate_left
 focus (intro w_ hw_;obtain ⟨⟨f0_,f1_⟩,f2_,f3_,f4_,f5_,f6_,f7_⟩:=(HC.out w_ hw_).cells;go_simp;(try with_reducible rfl);done)
 (try dsimp only [Act.put])
 show runC _ _ _ 16 _ [3,4,5,6,7,8,9,10,11,12,13,14,15,16,17,18] _ _
 try simp only [List.setIfInBounds_toArray,List.set_cons_zero,List.set_cons_succ]
 refine runC_at 3 (v:=?_) (by rfl) (by rfl) (by rfl) (by kernel_rfl) (by rfl) ?_ ?_
 rotate_left
 focus (intro w_ hw_;obtain ⟨⟨f0_,f1_⟩,f2_,f3_,f4_,f5_,f6_,f7_⟩:=(HC.out w_ hw_).cells;go_simp;(try with_reducible rfl);done)
 (try dsimp only [Act.put])
 show runC _ _ _ 15 _ [4,5,6,7,8,9,10,11,12,13,14,15,16,17,18] _ _
 try simp only [List.setIfInBounds_toArray,List.set_cons_zero,List.set_cons_succ]
 refine runC_at 4 (v:=?_) (by rfl) (by rfl) (by rfl) (by kernel_rfl) (by rfl) ?_ ?_
 rotate_left
 focus (intro w_ hw_;obtain ⟨⟨f0_,f1_⟩,f2_,f3_,f4_,f5_,f6_,f7_⟩:=(HC.out w_ hw_).cells;go_simp;(try with_reducible rfl);done)
 (try dsimp only [Act.put])
 show runC _ _ _ 14 _ [5,6,7,8,9,10,11,12,13,14,15,16,17,18] _ _
 try simp only [List.setIfInBounds_toArray,List.set_cons_zero,List.set_cons_succ]
 refine runC_at 5 (v:=?_) (by rfl) (by rfl) (by rfl) (by kernel_rfl) (by rfl) ?_ ?_
 rotate_left
 focus (intro w_ hw_;obtain ⟨⟨f0_,f1_⟩,f2_,f3_,f4_,f5_,f6_,f7_⟩:=(HC.out w_ hw_).cells;go_simp;(try with_reducible rfl);done)
 (try dsimp only [Act.put])
 show runC _ _ _ 13 _ [6,7,8,9,10,11,12,13,14,15,16,17,18] _ _
 try simp only [List.setIfInBounds_toArray,List.set_cons_zero,List.set_cons_succ]
 refine runC_at 6 (v:=?_) (by rfl) (by rfl) (by rfl) (by kernel_rfl) (by rfl) ?_ ?_
 rotate_left
 focus (intro w_ hw_;obtain ⟨⟨f0_,f1_⟩,f2_,f3_,f4_,f5_,f6_,f7_⟩:=(HC.out w_ hw_).cells;go_simp;(try with_reducible rfl);done)
 (try dsimp only [Act.put])
 show runC _ _ _ 12 _ [7,8,9,10,11,12,13,14,15,16,17,18] _ _
 try simp only [List.setIfInBounds_toArray,List.set_cons_zero,List.set_cons_succ]
 refine runC_at 7 (v:=?_) (by rfl) (by rfl) (by rfl) (by kernel_rfl) (by rfl) ?_ ?_
 rotate_left
 focus (intro w_ hw_;obtain ⟨⟨f0_,f1_⟩,f2_,f3_,f4_,f5_,f6_,f7_⟩:=(HC.out w_ hw_).cells;go_simp;(try with_reducible rfl);done)
 (try dsimp only [Act.put])
 show runC _ _ _ 11 _ [8,9,10,11,12,13,14,15,16,17,18] _ _
 try simp only [List.setIfInBounds_toArray,List.set_cons_zero,List.set_cons_succ]
 refine runC_at 9 (v:=?_) (by rfl) (by rfl) (by rfl) (by kernel_rfl) (by rfl) ?_ ?_
 rotate_left
 focus (intro w_ hw_;obtain ⟨⟨f0_,f1_⟩,f2_,f3_,f4_,f5_,f6_,f7_⟩:=(HC.out w_ hw_).cells;go_simp;(try with_reducible rfl);done)
 (try dsimp only [Act.put])
 show runC _ _ _ 10 _ [8,10,11,12,13,14,15,16,17,18] _ _
 try simp only [List.setIfInBounds_toArray,List.set_cons_zero,List.set_cons_succ]
 refine runC_at 10 (v:=?_) (by rfl) (by rfl) (by rfl) (by kernel_rfl) (by rfl) ?_ ?_
 rotate_left
 focus (intro w_ hw_;obtain ⟨⟨f0_,f1_⟩,f2_,f3_,f4_,f5_,f6_,f7_⟩:=(HC.out w_ hw_).cells;go_simp;(try with_reducible rfl);done)
 (try dsimp only [Act.put])
 show runC _ _ _ 9 _ [8,11,12,13,14,15,16,17,18] _ _
 try simp only [List.setIfInBounds_toArray,List.set_cons_zero,List.set_cons_succ]
 refine runC_at 12 (v:=?_) (by rfl) (by rfl) (by rfl) (by kernel_rfl) (by rfl) ?_ ?_
 rotate_left
 focus (intro w_ hw_;obtain ⟨⟨f0_,f1_⟩,f2_,f3_,f4_,f5_,f6_,f7_⟩:=(HC.out w_ hw_).cells;go_simp;(try with_reducible rfl);done)
 (try dsimp only [Act.put])
 show runC _ _ _ 8 _ [8,11,13,14,15,16,17,18] _ _
 try simp only [List.setIfInBounds_toArray,List.set_cons_zero,List.set_cons_succ]
 refine runC_at 13 (v:=?_) (by rfl) (by rfl) (by rfl) (by kernel_rfl) (by rfl) ?_ ?_
 rotate_left
 focus (intro w_ hw_;obtain ⟨⟨f0_,f1_⟩,f2_,f3_,f4_,f5_,f6_,f7_⟩:=(HC.out w_ hw_).cells;go_simp;(try with_reducible rfl);done)
 (try dsimp only [Act.put])
 show runC _ _ _ 7 _ [8,11,14,15,16,17,18] _ _
 try simp only [List.setIfInBounds_toArray,List.set_cons_zero,List.set_cons_succ]
 refine runC_at 14 (v:=?_) (by rfl) (by rfl) (by rfl) (by kernel_rfl) (by rfl) ?_ ?_
 rotate_left
 focus (intro w_ hw_;obtain ⟨⟨f0_,f1_⟩,f2_,f3_,f4_,f5_,f6_,f7_⟩:=(HC.out w_ hw_).cells;go_simp;(try with_reducible rfl);done)
 (try dsimp only [Act.put])
 show runC _ _ _ 6 _ [8,11,15,16,17,18] _ _
 try simp only [List.setIfInBounds_toArray,List.set_cons_zero,List.set_cons_succ]
 refine runC_at 15 (v:=.agg #[.int .i64 i.base,.int .i64 i.index,.int .i64 i.scale,.int .i64 i.disp]) (by rfl) (by rfl) (by rfl) (by kernel_rfl) (by rfl) (fun w_ hw_=>exec_load 38 _ rfl ⟨w.heap.size+1,4,none⟩ rfl _ _ Tryz.underlying38 rfl infoMem4 (HC.out w_ hw_).mem) ?_
 (try dsimp only [Act.put])
 show runC _ _ _ 5 _ [8,11,16,17,18] _ _
 try simp only [List.setIfInBounds_toArray,List.set_cons_zero,List.set_cons_succ]
 refine runC_one 8 (by kernel_rfl) (by kernel_rfl) (by rfl) (by rfl) ?_
 refine tdoes_call (f:=?_) (args:=?_) (w1:=?_) ?_ ?_
 rotate_left 3
 focus (go_simp;refine ⟨⟨?_,?_⟩,?_⟩ <;> with_reducible rfl)
 refine (HR.out x0).mono ?_
 rintro e_ w1_ ⟨rfl,hw_⟩
 subst w1_
 refine ⟨_,rfl,sameS hSx0 ?_⟩
 (try dsimp only [Act.put])
 try simp only [List.setIfInBounds_toArray,List.set_cons_zero,List.set_cons_succ]
 show runC _ _ _ 4 _ [11,16,17,18] _ _
 refine runC_two 11 16 (by kernel_rfl) (by kernel_rfl) (by rfl) (by rfl) (by rfl) (by rfl) ?_ ?_
 · obtain ⟨x2,h_⟩:∃ q,q=x0.alloc (.cells #[.int .u8 (rexF i.s i.index i.base:Nat),.int .u8 (c:Nat)] 5):=⟨_,rfl⟩
   have hb_:Below x0.heap.size x0 x2:=by rw [h_];exact (Below.refl _ _).alloc (Nat.le_refl _) _
   have hSx2:=hSx0.trans (hb_.mono hSx0.size)
   refine tdoes_op (w1:=x2) (v:=.slice (some ⟨x0.heap.size,0,none⟩) 2 2) (by rw [h_];exact exec_u8_2 _ _ rfl rfl rfl) (sameS hSx2 ?_)
   (try dsimp only [Act.put])
   try simp only [List.setIfInBounds_toArray,List.set_cons_zero,List.set_cons_succ]
   obtain ⟨gL,hg_⟩:∃ q,q=x0.heap.size:=⟨_,rfl⟩
   have HOL:=Lh (show x2.ownsRow W.heap.size 5 1 (.slice (some ⟨gL,0,none⟩) 2 2) 2 (u8V [rexF i.s i.index i.base,c]) from by rw [hg_];exact own_lit8 [rexF i.s i.index i.base,c] #[.int .u8 (rexF i.s i.index i.base:Nat),.int .u8 (c:Nat)] rfl hSx0.size (by simp) (by simp) (by rw [h_];exact heap_alloc_new x0 _) 2 rfl)
   have HBx2:=Lh hb_
   rw [←hg_]
   clear h_ hg_ hb_
   show runC _ _ _ 3 _ [16,17,18] _ _
   refine runC_one 16 (by kernel_rfl) (by kernel_rfl) (by rfl) (by rfl) ?_
   refine tdoes_call (f:=?_) (args:=?_) (w1:=?_) ?_ ?_
   rotate_left 3
   focus (go_simp;refine ⟨⟨?_,?_⟩,?_⟩ <;> with_reducible rfl)
   refine (HPL.out x2).mono ?_
   rintro e_ x3 ⟨AT,nT,cT,rfl,ho_,hn_,hb_⟩
   have hSx3:=hSx2.trans (hb_.mono hSx2.size)
   have HOT:=Lh ho_
   have HNT:=Lh hn_
   have HBx3:=Lh hb_
   clear ho_ hn_ hb_
   refine ⟨_,rfl,sameS hSx3 ?_⟩
   (try dsimp only [Act.put])
   try simp only [List.setIfInBounds_toArray,List.set_cons_zero,List.set_cons_succ]
   show runC _ _ _ 2 _ [17,18] _ _
   refine runC_one 17 (by kernel_rfl) (by kernel_rfl) (by rfl) (by rfl) ?_
   have hA_:x3.ownsRow W.heap.size 5 1 (.slice (some ⟨gL,0,none⟩) 2 2) 2 (u8V ([rexF i.s i.index i.base,c])):=by first | exact HOL.out | exact own_keepB HOL.out HBx3.out
   have hB_:∃ b_,x3.ownsRow b_ 5 1 (.slice AT nT cT) nT (u8V (placeY (i.s) i)):=by first | exact ⟨_,HOT.out⟩ | exact ⟨_,own_keepB HOT.out HBx3.out⟩
   obtain ⟨b_,hB_⟩:=hB_
   refine tdoes_app8 _ _ rfl W.heap.size b_ (.slice (some ⟨gL,0,none⟩) 2 2) (.slice AT nT cT) 2 nT ([rexF i.s i.index i.base,c]) (placeY (i.s) i) rfl rfl hA_ hB_ (by have:=HNT.out;have:=placeY_len (i.s) i;omega) hSx3.size ?_
   intro v_ x4 ho_ hg_
   obtain ⟨Ar,cr,rfl,h_⟩:=own_formB ho_
   have hSx4:=Below.grown hSx3 hg_ hSx3.size (fun k_ hk_=>(own_ltB hA_ k_ hk_).2)
   have HOr:=Lh ho_
   clear ho_ hg_ h_ hA_ hB_
   refine sameS hSx4 ?_
   (try dsimp only [Act.put])
   try simp only [List.setIfInBounds_toArray,List.set_cons_zero,List.set_cons_succ]
   show runC _ _ _ 1 _ [18] _ _
   refine runC_at 18 (v:=?_) (by rfl) (by rfl) (by rfl) (by kernel_rfl) (by rfl) ?_ ?_
   rotate_left
   focus (intro w_ hw_;obtain ⟨⟨f0_,f1_⟩,f2_,f3_,f4_,f5_,f6_,f7_⟩:=(HC.out w_ hw_).cells;go_simp;(try with_reducible rfl);done)
   (try dsimp only [Act.put])
   show runC _ _ _ 0 _ [] _ _
   try simp only [List.setIfInBounds_toArray,List.set_cons_zero,List.set_cons_succ]
   refine runC_nil ?_
   (try dsimp only [Act.put])
   try simp only [List.setIfInBounds_toArray,List.set_cons_zero,List.set_cons_succ]
   go_wp2
   go_ret
   exact ⟨_,_,_,by rfl,own_baseB HOr.out HB.out.size,by have:=HNT.out;simp at *;omega,HB.out.trans (hSx4.mono HB.out.size)⟩
 · refine tdoes_call (f:=?_) (args:=?_) (w1:=?_) ?_ ?_
   rotate_left 3
   focus (go_simp;refine ⟨⟨?_,?_⟩,?_⟩ <;> with_reducible rfl)
   refine (HPL.out x0).mono ?_
   rintro e_ x5 ⟨AT,nT,cT,rfl,ho_,hn_,hb_⟩
   have hSx5:=hSx0.trans (hb_.mono hSx0.size)
   have HOT:=Lh ho_
   have HNT:=Lh hn_
   have HBx5:=Lh hb_
   clear ho_ hn_ hb_
   refine ⟨_,rfl,sameS hSx5 ?_⟩
   (try dsimp only [Act.put])
   try simp only [List.setIfInBounds_toArray,List.set_cons_zero,List.set_cons_succ]
   show runC _ _ _ 3 _ [11,17,18] _ _
   refine runC_one 11 (by kernel_rfl) (by kernel_rfl) (by rfl) (by rfl) ?_
   obtain ⟨x6,h_⟩:∃ q,q=x5.alloc (.cells #[.int .u8 (rexF i.s i.index i.base:Nat),.int .u8 (c:Nat)] 5):=⟨_,rfl⟩
   have hb_:Below x5.heap.size x5 x6:=by rw [h_];exact (Below.refl _ _).alloc (Nat.le_refl _) _
   have hSx6:=hSx5.trans (hb_.mono hSx5.size)
   refine tdoes_op (w1:=x6) (v:=.slice (some ⟨x5.heap.size,0,none⟩) 2 2) (by rw [h_];exact exec_u8_2 _ _ rfl rfl rfl) (sameS hSx6 ?_)
   (try dsimp only [Act.put])
   try simp only [List.setIfInBounds_toArray,List.set_cons_zero,List.set_cons_succ]
   obtain ⟨gL,hg_⟩:∃ q,q=x5.heap.size:=⟨_,rfl⟩
   have HOL:=Lh (show x6.ownsRow W.heap.size 5 1 (.slice (some ⟨gL,0,none⟩) 2 2) 2 (u8V [rexF i.s i.index i.base,c]) from by rw [hg_];exact own_lit8 [rexF i.s i.index i.base,c] #[.int .u8 (rexF i.s i.index i.base:Nat),.int .u8 (c:Nat)] rfl hSx5.size (by simp) (by simp) (by rw [h_];exact heap_alloc_new x5 _) 2 rfl)
   have HBx6:=Lh hb_
   rw [←hg_]
   clear h_ hg_ hb_
   show runC _ _ _ 2 _ [17,18] _ _
   refine runC_one 17 (by kernel_rfl) (by kernel_rfl) (by rfl) (by rfl) ?_
   have hA_:x6.ownsRow W.heap.size 5 1 (.slice (some ⟨gL,0,none⟩) 2 2) 2 (u8V ([rexF i.s i.index i.base,c])):=by first | exact HOL.out | exact own_keepB HOL.out HBx6.out
   have hB_:∃ b_,x6.ownsRow b_ 5 1 (.slice AT nT cT) nT (u8V (placeY (i.s) i)):=by first | exact ⟨_,HOT.out⟩ | exact ⟨_,own_keepB HOT.out HBx6.out⟩
   obtain ⟨b_,hB_⟩:=hB_
   refine tdoes_app8 _ _ rfl W.heap.size b_ (.slice (some ⟨gL,0,none⟩) 2 2) (.slice AT nT cT) 2 nT ([rexF i.s i.index i.base,c]) (placeY (i.s) i) rfl rfl hA_ hB_ (by have:=HNT.out;have:=placeY_len (i.s) i;omega) hSx6.size ?_
   intro v_ x7 ho_ hg_
   obtain ⟨Ar,cr,rfl,h_⟩:=own_formB ho_
   have hSx7:=Below.grown hSx6 hg_ hSx6.size (fun k_ hk_=>(own_ltB hA_ k_ hk_).2)
   have HOr:=Lh ho_
   clear ho_ hg_ h_ hA_ hB_
   refine sameS hSx7 ?_
   (try dsimp only [Act.put])
   try simp only [List.setIfInBounds_toArray,List.set_cons_zero,List.set_cons_succ]
   show runC _ _ _ 1 _ [18] _ _
   refine runC_at 18 (v:=?_) (by rfl) (by rfl) (by rfl) (by kernel_rfl) (by rfl) ?_ ?_
   rotate_left
   focus (intro w_ hw_;obtain ⟨⟨f0_,f1_⟩,f2_,f3_,f4_,f5_,f6_,f7_⟩:=(HC.out w_ hw_).cells;go_simp;(try with_reducible rfl);done)
   (try dsimp only [Act.put])
   show runC _ _ _ 0 _ [] _ _
   try simp only [List.setIfInBounds_toArray,List.set_cons_zero,List.set_cons_succ]
   refine runC_nil ?_
   (try dsimp only [Act.put])
   try simp only [List.setIfInBounds_toArray,List.set_cons_zero,List.set_cons_succ]
   go_wp2
   go_ret
   exact ⟨_,_,_,by rfl,own_baseB HOr.out HB.out.size,by have:=HNT.out;simp at *;omega,HB.out.trans (hSx7.mono HB.out.size)⟩
set_option maxHeartbeats 8000000 in
theorem putjump2_any (c m:Nat) (i:Ins) (hm:m≠0) (w:World):Calls Tryz.prog 112 #[.agg #[.int .u8 (c:Nat),.int .u8 (m:Nat)],.agg (insRow i).toArray] w (BytesTold ([c,m]++littleF i.imm 4) w):=by
 obtain ⟨W,hW⟩:∃ W,W=(w.alloc (.cells #[.int .u8 (c:Nat),.int .u8 (m:Nat)] 139)).alloc (.cells (insRow i).toArray 40):=⟨_,rfl⟩
 have hb:Below w.heap.size w W:=by rw [hW];exact ((Below.refl _ _).alloc (Nat.le_refl _) _).alloc (by simp) _
 have hf:W.heap[w.heap.size]? = some (.cells #[.int .u8 (c:Nat),.int .u8 (m:Nat)] 139 (0,0)):=by rw [hW];exact (Below.heap_alloc _ _ _ (by simp)).trans (heap_alloc_new w _)
 have hi:W.heap[w.heap.size+1]? = some (.cells (insRow i).toArray 40 (0,0)):=by
   rw [hW]
   have:=heap_alloc_new (w.alloc (.cells #[.int .u8 (c:Nat),.int .u8 (m:Nat)] 139)) (.cells (insRow i).toArray 40)
   simpa using this
 have HC:=Lh (show ∀ w_,Below W.heap.size W w_→FormAt w_ w.heap.size c m i from fun w_ h=>⟨(h.block w.heap.size (lt_of_block hf)).trans hf,(h.block (w.heap.size+1) (lt_of_block hi)).trans hi⟩)
 have HW:=Lh hW
 have HB:=Lh hb
 clear hW hb hf hi
 have HLT:=Lh (fun w_=>show Calls Tryz.prog 138 #[.int .i64 i.imm,.int .i64 4] w_ (BytesTold (littleF i.imm 4) w_) from little_any i.imm 4 (by decide) w_)
 have d9_:((m:Int) != 0)=true:=by rw [bne_iff_ne];omega
 clear hm
 obtain ⟨⟨c0_,c1_⟩,c2_,c3_,c4_,c5_,c6_,c7_⟩:=(HC.out _ (Below.refl _ W)).cells
 have HC2:=Lh (HC.out _ ((Below.refl _ W).alloc (Nat.le_refl _) (.cells #[.int .u8 (c:Nat)] 5)))
 obtain ⟨⟨e0_,e1_⟩,e2_,e3_,e4_,e5_,e6_,e7_⟩:=HC2.out.cells
 go_enter Tryz.func112,Tryz.ntmps112
 go_upto_region 1 with go_in
 rw [←HW.out]
 clear HW
 go_upto_region 3 with go_in
 obtain ⟨W1,hW1⟩:∃ W1,W1=W.alloc (.cells #[.int .u8 (c:Nat)] 5):=⟨_,rfl⟩
 have HO0:=Lh (show W1.ownsRow W.heap.size 5 1 (.slice (some ⟨W.heap.size,0,none⟩) 1 1) 1 (u8V [c]) from own_lit8 [c] _ rfl (Nat.le_refl _) (by simp) (by simp) (by rw [hW1];exact heap_alloc_new W _) 1 rfl)
 have HB1:=Lh (show Below W.heap.size W W1 by rw [hW1];exact (Below.refl _ _).alloc (Nat.le_refl _) _)
 rw [←hW1] at e0_ e1_ e2_ e3_ e4_ e5_ e6_ e7_ ⊢
 clear hW1 HC2 c0_ c1_ c2_ c3_ c4_ c5_ c6_ c7_
 go_upto_region 4 with (first
   | (at_builtin;refine wpList_app8 rfl _ _ rfl W.heap.size W1.heap.size (.slice (some ⟨W.heap.size,0,none⟩) 1 1) (.slice (some ⟨W1.heap.size,0,none⟩) 1 1) 1 1 [c] [m] rfl rfl (HO0.out.alloc _) (own_lit8 [m] _ rfl (Nat.le_refl _) (by simp) (by simp) (heap_alloc_new W1 _) 1 rfl) (by decide) (by have:=HB1.out.size;simp;omega) ?_;intro eB w3 ho3 hg3;obtain ⟨A3,c3,rfl,hh_⟩:=own_formB ho3;have HO3:=Lh ho3;have HB3:=Lh (Below.grown (HB1.out.alloc HB1.out.size _) hg3 (by have:=HB1.out.size;simp;omega) (fun k_ hk_=>(own_ltB HO0.out k_ hk_).2));clear ho3 hg3 hh_)
   | go_in)
 obtain ⟨⟨f0_,f1_⟩,f2_,f3_,f4_,f5_,f6_,f7_⟩:=(HC.out _ HB3.out).cells
 clear e0_ e1_ e2_ e3_ e4_ e5_ e6_ e7_
 go_wp2_with (first
   | ((with_reducible refine (HLT.out _).mono ?_);rintro e_ w5 ⟨A5,n5,c5,rfl,ho5,hn5,hb5⟩;have HO5:=Lh ho5;have HN5:=Lh hn5;have HB5:=Lh hb5;clear ho5 hn5 hb5)
   | (at_builtin;refine wpList_app8 rfl _ _ rfl W.heap.size w3.heap.size (.slice A3 (1+1) c3) (.slice A5 n5 c5) (1+1) n5 ([c]++[m]) (littleF i.imm 4) rfl rfl (own_keepB HO3.out HB5.out) HO5.out (by have:=HN5.out;rw [little_len] at this;omega) (Nat.le_trans HB3.out.size HB5.out.size) ?_;intro aE w6 ho6 hg6;obtain ⟨A6,c6,rfl,hh_⟩:=own_formB ho6;have HO6:=Lh ho6;have HG6:=Lh hg6;clear ho6 hg6 hh_))
 go_ret
 exact ⟨_,_,_,by rfl,own_baseB HO6.out HB.out.size,by have:=HN5.out;simp [little_len] at *;omega,HB.out.trans ((Below.grown (HB3.out.trans (HB5.out.mono HB3.out.size)) HG6.out (Nat.le_trans HB3.out.size HB5.out.size) (fun k_ hk_=>(own_ltB HO3.out k_ hk_).2)).mono HB.out.size)⟩
end Go.Proofs.YtocndimihokcmaaGreat
namespace Go.Proofs.YtocndimihokcmaaGreat
open Go.RowKit
set_option maxRecDepth 100000
structure FormX where
 name:List UInt8
 is:Nat
 reads:Nat
 writes:Nat
def formsL:List FormX:=[
 ⟨[],0,0,0⟩,
 ⟨[109,111,118],131,0,0⟩,
 ⟨[109,111,118],161,0,0⟩,
 ⟨[109,111,118],137,0,0⟩,
 ⟨[109,111,118],10,0,0⟩,
 ⟨[108,101,97],137,0,0⟩,
 ⟨[97,100,100],387,0,7⟩,
 ⟨[97,100,99],387,1,7⟩,
 ⟨[115,117,98],387,0,7⟩,
 ⟨[115,98,98],387,1,7⟩,
 ⟨[97,110,100],387,0,7⟩,
 ⟨[111,114],387,0,7⟩,
 ⟨[120,111,114],387,0,7⟩,
 ⟨[99,109,112],259,0,7⟩,
 ⟨[116,101,115,116],259,0,7⟩,
 ⟨[97,100,100],401,0,7⟩,
 ⟨[97,110,100],401,0,7⟩,
 ⟨[115,117,98],401,0,7⟩,
 ⟨[99,109,112],273,0,7⟩,
 ⟨[109,117,108,120],135,0,0⟩,
 ⟨[97,100,99,120],387,1,1⟩,
 ⟨[97,100,111,120],387,2,2⟩,
 ⟨[110,101,103],385,0,7⟩,
 ⟨[110,111,116],385,0,0⟩,
 ⟨[115,104,108],449,0,5⟩,
 ⟨[115,104,114],449,0,5⟩,
 ⟨[99,109,111,118,99],387,1,0⟩,
 ⟨[99,109,111,118,110,122],387,4,0⟩,
 ⟨[112,117,115,104],514,0,0⟩,
 ⟨[112,111,112],641,0,0⟩,
 ⟨[106,109,112],16,0,0⟩,
 ⟨[106,110,122],16,4,0⟩,
 ⟨[106,99],16,1,0⟩,
 ⟨[114,101,116],512,0,0⟩]
def noForm:FormX:=⟨[],0,0,0⟩
def formRow (f:FormX):List Value:=[.string ⟨f.name.toArray⟩,.int .i64 f.is,.int .i64 f.reads,.int .i64 f.writes]
def formV (f:FormX):Value:=.agg (formRow f).toArray
def formF (op:Int):FormX:=if op < 0 then noForm else formsL.getD op.toNat noForm
def formCells:List Value:=formsL.flatMap formRow
theorem Below.setRow {b:Nat} {w w':World} (h:Below b w w') {g:Nat} (hg:b≤g) (cs:Array Value):Below b w (w'.setRow g cs) :=
 ⟨h.os,h.tape,h.output,by rw [show (w'.setRow g cs).heap.size=w'.heap.size by simp [World.setRow]];exact h.size,fun k hk=>by rw [setRow_other _ _ _ _ (by omega)];exact h.block k hk⟩
theorem info34:(Tryz.prog.info? 199).map (fun i=>(i.zero,i.size))=some (some (.agg ((List.replicate 34 (formRow noForm)).flatten.toArray)),136):=by kernel_rfl
set_option maxHeartbeats 800000 in
theorem forms_any (w:World):Calls Tryz.prog 132 #[] w fun e w'=>e=.returned (.agg formCells.toArray)∧Below w.heap.size w w':=by
 obtain ⟨hz,hs⟩:=zero_of_info info34
 generalize hzc:((List.replicate 34 (formRow noForm)).flatten.toArray)=zc at *
 have HZ:=Lh hzc
 have hsz:zc.size=136:=by rw [←hzc];rfl
 have HSZ:=Lh hsz
 clear hzc hsz
 go_enter Tryz.func132,Tryz.ntmps132
 go_wp2_with (first | (refine wpList_build rfl 199 _ rfl (by as_aux_lemma=>kernel_rfl) ?_) | (refine wpList_store_row rfl 199 _ _ rfl w.heap.size _ rfl rfl 199 zc (heap_alloc_new w _) (by as_aux_lemma=>kernel_rfl) (by rw [HSZ.out];as_aux_lemma=>kernel_rfl) (by as_aux_lemma=>kernel_rfl) ?_))
 refine bodyPost_ret (results_cell_row (ty:=199) rfl _ _ w.heap.size 199 _ (0,0) _ rfl (setRow_heap _ _ _ _ _ _ (heap_alloc_new w _)) Tryz.underlying199 rfl (by as_aux_lemma=>kernel_rfl)) rfl ⟨congrArg (fun c=>Ending.returned (Value.agg c)) (by as_aux_lemma=>kernel_rfl),?_⟩
 exact Below.setRow ((Below.refl _ _).alloc (Nat.le_refl _) _) (Nat.le_refl _) _
theorem flat_row (L:List FormX):∀ (o j:Nat),j < 4→(L.flatMap formRow)[o*4+j]? =(L[o]?).bind (fun f=>(formRow f)[j]?):=by
 induction L with
 | nil=>intro o j _;simp
 | cons f fs ih =>
   intro o j hj
   rw [List.flatMap_cons]
   cases o with
   | zero=>rw [Nat.zero_mul,Nat.zero_add,List.getElem?_append_left (by simpa [formRow] using hj)];rfl
   | succ o =>
     rw [List.getElem?_append_right (by simp [formRow];omega),show (o+1)*4+j - (formRow f).length=o*4+j by simp [formRow];omega,ih o j hj];rfl
theorem formCell (op:Nat) (h:op < 34) (j:Nat) (hj:j < 4):formCells[op*4+j]? =(formRow (formF op))[j]?:=by
 have h0:¬ ((op:Int) < 0):=by omega
 have h1:formF (op:Int)=formsL.getD op noForm:=by unfold formF;rw [if_neg h0];rfl
 have hl:op < formsL.length:=h
 rw [formCells,flat_row _ _ _ hj,h1,List.getD_eq_getElem?_getD,List.getElem?_eq_getElem hl];rfl
theorem formF_out (op:Int) (h:op < 0∨34≤op):formF op=noForm:=by
 unfold formF
 split
 · rfl
 · rw [List.getD_eq_getElem?_getD,List.getElem?_eq_none];rfl
   have hl:formsL.length=34:=rfl
   omega
end Go.Proofs.YtocndimihokcmaaGreat
namespace Go.Proofs.YtocndimihokcmaaGreat
open Go.RowKit
set_option maxRecDepth 100000
theorem forms_one:formCells.toArray.all (·.oneCell')=true:=by kernel_rfl
theorem zrow {w w2:World} {cs:Array Value} {t1:Nat} (hb:Below (w.alloc (.cells cs t1)).heap.size (w.alloc (.cells cs t1)) w2) (j:Nat):w2.cell? ⟨w.heap.size,j,none⟩=cs[j]?:=by
 rw [hb.cell (p:=⟨w.heap.size,j,none⟩) (by simp),World.cell?_alloc_at _ _ _ _ rfl]
theorem zfree {w w2:World} {cs:Array Value} {t1:Nat} (hb:Below (w.alloc (.cells cs t1)).heap.size (w.alloc (.cells cs t1)) w2) (j:Nat):w2.frozen? ⟨w.heap.size,j,none⟩=false:=by
 rw [hb.frozen (p:=⟨w.heap.size,j,none⟩) (by simp)]
 exact frozen_of_row _ _ _ _ _ (heap_alloc_new w _)
theorem zset {w w2:World} {p q r s:Value} {t1:Nat} (hb:Below (w.alloc (.cells #[p,q,r,s] t1)).heap.size (w.alloc (.cells #[p,q,r,s] t1)) w2) (o:Obj) (a b c d:Value) :
   (((((w2.setCell ⟨w.heap.size,0,none⟩ a).setCell ⟨w.heap.size,1,none⟩ b).setCell ⟨w.heap.size,2,none⟩ c).setCell ⟨w.heap.size,3,none⟩ d).alloc o).heap[w.heap.size]? = some (.cells #[a,b,c,d] t1 (0,0)) ∧
   Below w.heap.size w (((((w2.setCell ⟨w.heap.size,0,none⟩ a).setCell ⟨w.heap.size,1,none⟩ b).setCell ⟨w.heap.size,2,none⟩ c).setCell ⟨w.heap.size,3,none⟩ d).alloc o):=by
 have hs:=hb.size
 simp at hs
 have h0:w2.heap[w.heap.size]? = some (.cells #[p,q,r,s] t1 (0,0)):=(hb.block _ (by simp)).trans (heap_alloc_new w _)
 have h1:=heap_setCell_same w2 w.heap.size 0 _ t1 a h0
 have h2:=heap_setCell_same _ w.heap.size 1 _ t1 b h1
 have h3:=heap_setCell_same _ w.heap.size 2 _ t1 c h2
 have h4:=heap_setCell_same _ w.heap.size 3 _ t1 d h3
 have hz:((((w2.setCell ⟨w.heap.size,0,none⟩ a).setCell ⟨w.heap.size,1,none⟩ b).setCell ⟨w.heap.size,2,none⟩ c).setCell ⟨w.heap.size,3,none⟩ d).heap.size=w2.heap.size:=by simp [World.setCell]
 refine ⟨?_,(((((((Below.refl _ _).alloc (Nat.le_refl _) _).trans (hb.mono (by simp))).setCell (Nat.le_refl _) _).setCell (Nat.le_refl _) _).setCell (Nat.le_refl _) _).setCell (Nat.le_refl _) _).alloc (by omega) _⟩
 rw [Below.heap_alloc _ _ _ (by omega),h4];rfl
set_option maxHeartbeats 800000 in
theorem of_form (w:World) (op:Int):Calls Tryz.prog 96 #[.int .i64 op] w fun e w'=>e=.returned (formV (formF op))∧Below w.heap.size w w':=by
 obtain ⟨hz,hs⟩:=zero_of_info info34
 generalize hzc:((List.replicate 34 (formRow noForm)).flatten.toArray)=zc at *
 have hsz:zc.size=136:=by rw [←hzc];rfl
 have HSZ:=Lh hsz
 have hcs:formCells.toArray.size=136:=by simp [formCells];rfl
 have HI:=Lh (show (Tryz.prog.info? 199).map (·.size)=some formCells.toArray.size by rw [hcs];exact hs)
 have HCS:=Lh hcs
 have HF:=Lh (fun w=>forms_any w)
 have hst:=fun w=>run_storeCells_new (P:=Tryz.prog) w 199 zc formCells.toArray (show (Tryz.prog.info? 199).map (·.size)=some formCells.toArray.size by rw [hcs];exact hs) (by rw [hsz,hcs]) forms_one
 have cells:∀ (w3:World) (g:Nat),w3.heap[g]? = some (.cells formCells.toArray 199 (0,0))→∀ n j:Nat,n < 34→j < 4→w3.cell? ⟨g,n*4+j,none⟩=(formRow (formF n))[j]?:=fun w3 g h n j hn hj=>by
   rw [cell_of_row w3 g _ _ _ _ h,List.getElem?_toArray,formCell n hn j hj]
 have HCE:=Lh cells
 clear hzc hsz hcs cells
 generalize formCells.toArray=fc at *
 by_cases h0:op < 0∨34≤op
 · have HE:=Lh (formF_out op h0)
   by_cases hlo:op < 0
   · have d2:decide (op < 0)=true:=by simpa using hlo
     clear h0
     go_enter Tryz.func96,Tryz.ntmps96
     go_wp2_with ((with_reducible refine (HF.out _).mono ?_);rintro e w2 ⟨rfl,hb2⟩;have hlt2:w.heap.size < w2.heap.size:=(by have:=hb2.size;simp at this;omega);have z0:=zrow hb2 0;have z1:=zrow hb2 1;have z2:=zrow hb2 2;have z3:=zrow hb2 3;have y0:=zfree hb2 0;have y1:=zfree hb2 1;have y2:=zfree hb2 2;have y3:=zfree hb2 3;simp only [List.getElem?_toArray,List.getElem?_cons_zero,List.getElem?_cons_succ] at z0 z1 z2 z3;have HB2:=Lh hb2;have hce:=HCE.out (w2.alloc (.cells fc 199)) w2.heap.size (heap_alloc_new w2 _);have HC3:=Lh hce;clear hb2 hce;skip)
     refine bodyPost_ret (results_cell_row (ty:=175) rfl _ _ w.heap.size 175 _ (0,0) _ rfl (zset HB2.out _ _ _ _ _).1 Tryz.underlying175 rfl (by as_aux_lemma=>kernel_rfl)) rfl ⟨?_,(zset HB2.out _ _ _ _ _).2⟩
     rw [HE.out];rfl
   · have d2:decide (op < 0)=false:=by simpa using hlo
     have d3:decide (34≤op)=true:=by simp;omega
     clear h0
     go_enter Tryz.func96,Tryz.ntmps96
     go_wp2_with ((with_reducible refine (HF.out _).mono ?_);rintro e w2 ⟨rfl,hb2⟩;have hlt2:w.heap.size < w2.heap.size:=(by have:=hb2.size;simp at this;omega);have z0:=zrow hb2 0;have z1:=zrow hb2 1;have z2:=zrow hb2 2;have z3:=zrow hb2 3;have y0:=zfree hb2 0;have y1:=zfree hb2 1;have y2:=zfree hb2 2;have y3:=zfree hb2 3;simp only [List.getElem?_toArray,List.getElem?_cons_zero,List.getElem?_cons_succ] at z0 z1 z2 z3;have HB2:=Lh hb2;have hce:=HCE.out (w2.alloc (.cells fc 199)) w2.heap.size (heap_alloc_new w2 _);have HC3:=Lh hce;clear hb2 hce;skip)
     refine bodyPost_ret (results_cell_row (ty:=175) rfl _ _ w.heap.size 175 _ (0,0) _ rfl (zset HB2.out _ _ _ _ _).1 Tryz.underlying175 rfl (by as_aux_lemma=>kernel_rfl)) rfl ⟨?_,(zset HB2.out _ _ _ _ _).2⟩
     rw [HE.out];rfl
 · obtain ⟨n,rfl⟩:∃ n:Nat,op=n:=⟨op.toNat,by omega⟩
   have hn:n < 34:=by omega
   have i0:(0:Int)≤(n:Int):=by omega
   have i1:(n:Int) < 34:=by omega
   have d2:decide ((n:Int) < 0)=false:=by simp
   have d3:decide (34≤(n:Int))=false:=by simp;omega
   clear h0
   go_enter Tryz.func96,Tryz.ntmps96
   go_wp2_with ((with_reducible refine (HF.out _).mono ?_);rintro e w2 ⟨rfl,hb2⟩;have hlt2:w.heap.size < w2.heap.size:=(by have:=hb2.size;simp at this;omega);have z0:=zrow hb2 0;have z1:=zrow hb2 1;have z2:=zrow hb2 2;have z3:=zrow hb2 3;have y0:=zfree hb2 0;have y1:=zfree hb2 1;have y2:=zfree hb2 2;have y3:=zfree hb2 3;simp only [List.getElem?_toArray,List.getElem?_cons_zero,List.getElem?_cons_succ] at z0 z1 z2 z3;have HB2:=Lh hb2;have hce:=HCE.out (w2.alloc (.cells fc 199)) w2.heap.size (heap_alloc_new w2 _);have HC3:=Lh hce;clear hb2 hce;have c0:=HC3.out n 0 hn (by decide);have c1:=HC3.out n 1 hn (by decide);have c2:=HC3.out n 2 hn (by decide);have c3:=HC3.out n 3 hn (by decide);simp only [formRow,List.getElem?_cons_zero,List.getElem?_cons_succ,Nat.add_zero] at c0 c1 c2 c3)
   refine bodyPost_ret (results_cell_row (ty:=175) rfl _ _ w.heap.size 175 _ (0,0) _ rfl (zset HB2.out _ _ _ _ _).1 Tryz.underlying175 rfl (by as_aux_lemma=>kernel_rfl)) rfl ⟨?_,(zset HB2.out _ _ _ _ _).2⟩
   rfl
end Go.Proofs.YtocndimihokcmaaGreat
namespace Go.Proofs.YtocndimihokcmaaGreat
open Go.RowKit
def hasB (is:Nat) (what:Int):Bool:=Go.bits .and .i64 (is:Int) what != 0
set_option maxHeartbeats 400000 in
theorem has_any (f:FormX) (what:Int) (w:World):Calls Tryz.prog 98 #[formV f,.int .i64 what] w fun e w'=>e=.returned (.bool (hasB f.is what))∧Below w.heap.size w w':=by
 have h1:(Go.bits .and .i64 (f.is:Int) what != 0)=hasB f.is what:=rfl
 unfold formV formRow
 generalize hasB f.is what=b at *
 go_enter Tryz.func98,Tryz.ntmps98
 go_wp2
 go_ret
 exact ⟨rfl,(Below.refl _ _).alloc (Nat.le_refl _) _⟩
theorem register_any (r:Int) (w:World):Calls Tryz.prog 99 #[.int .i64 r] w fun e w'=>e=.returned (.bool (regOk r))∧w=w':=by
 unfold regOk
 by_cases h0:0≤r
 · have d0:decide (0≤r)=true:=by simpa using h0
   go_enter Tryz.func99,Tryz.ntmps99
   go_wp2
   go_ret
   exact ⟨by simp [d0],rfl⟩
 · have d0:decide (0≤r)=false:=by simpa using h0
   go_enter Tryz.func99,Tryz.ntmps99
   go_wp2
   go_ret
   exact ⟨by simp,rfl⟩
theorem small_wrap (n:Int) (h:-9223372036854775808≤n∧n≤9223372036854775807):(n == wrap64 (wrap32 n))=smallI n:=by
 rw [Bool.eq_iff_iff,beq_iff_eq]
 simp only [smallI,Bool.and_eq_true,decide_eq_true_eq,wrap64,wrap32]
 omega
theorem small_any (n:Int) (h:-9223372036854775808≤n∧n≤9223372036854775807) (w:World):Calls Tryz.prog 133 #[.int .i64 n] w fun e w'=>e=.returned (.bool (smallI n))∧w=w':=by
 have h1:=small_wrap n h
 generalize smallI n=b at *
 clear h
 go_enter Tryz.func133,Tryz.ntmps133
 go_wp2
 go_ret
 exact ⟨rfl,rfl⟩
def numB (is:Nat) (n:Int):Bool:=if hasB is 32 then true else if hasB is 16 then smallI n else if hasB is 64 then decide (1≤n) && decide (n≤63) else n == 0
set_option maxHeartbeats 400000 in
theorem number_any (f:FormX) (n:Int) (h:-9223372036854775808≤n∧n≤9223372036854775807) (w:World):Calls Tryz.prog 97 #[formV f,.int .i64 n] w fun e w'=>e=.returned (.bool (numB f.is n))∧Below w.heap.size w w':=by
 have HH:=Lh (fun (what:Int) (w:World)=>has_any f what w)
 have HS:=Lh (fun (w:World)=>small_any n h w)
 obtain ⟨W,hW,hbW,hsz,hnew,_⟩:=boxed w (formRow f).toArray 175
 have n0:W.cell? ⟨w.heap.size,0,none⟩=some (.string ⟨f.name.toArray⟩):=hnew 0
 have n1:W.cell? ⟨w.heap.size,1,none⟩=some (.int .i64 f.is):=hnew 1
 have n2:W.cell? ⟨w.heap.size,2,none⟩=some (.int .i64 f.reads):=hnew 2
 have n3:W.cell? ⟨w.heap.size,3,none⟩=some (.int .i64 f.writes):=hnew 3
 have m0:w.heap.size < W.heap.size:=by omega
 have HW:=Lh hW
 have HB:=Lh hbW
 unfold formV formRow at HH HW ⊢
 obtain ⟨nb,hnb⟩:∃ nb,nb=numB f.is n:=⟨_,rfl⟩
 rw [←hnb]
 unfold numB at hnb
 have HN:=Lh hnb
 clear hnb
 clear hW hbW hsz hnew h
 go_enter Tryz.func97,Tryz.ntmps97
 go_wp2_with fail
 rw [←HW.out]
 refine (HH.out 32 W).mono ?_
 rintro e w1 ⟨rfl,hb1⟩
 have q0:=(hb1.cell (p:=⟨w.heap.size,0,none⟩) m0).trans n0
 have q1:=(hb1.cell (p:=⟨w.heap.size,1,none⟩) m0).trans n1
 have q2:=(hb1.cell (p:=⟨w.heap.size,2,none⟩) m0).trans n2
 have q3:=(hb1.cell (p:=⟨w.heap.size,3,none⟩) m0).trans n3
 have m1:=Nat.lt_of_lt_of_le m0 hb1.size
 have HB1:=Lh (HB.out.trans (hb1.mono HB.out.size))
 clear hb1
 cases h32:hasB f.is 32 with
 | true =>
   have HX:=Lh h32
   clear h32
   go_wp2
   go_ret
   exact ⟨by rw [HN.out,HX.out];rfl,HB1.out⟩
 | false =>
   have HX:=Lh h32
   clear h32
   go_wp2_with fail
   refine (HH.out 16 w1).mono ?_
   rintro e w2 ⟨rfl,hb2⟩
   have r0:=(hb2.cell (p:=⟨w.heap.size,0,none⟩) m1).trans q0
   have r1:=(hb2.cell (p:=⟨w.heap.size,1,none⟩) m1).trans q1
   have r2:=(hb2.cell (p:=⟨w.heap.size,2,none⟩) m1).trans q2
   have r3:=(hb2.cell (p:=⟨w.heap.size,3,none⟩) m1).trans q3
   have HB2:=Lh (HB1.out.trans (hb2.mono HB1.out.size))
   clear hb2
   cases h16:hasB f.is 16 with
   | true =>
     have HY:=Lh h16
     clear h16
     go_wp2_with fail
     refine (HS.out w2).mono ?_
     rintro e w3 ⟨rfl,rfl⟩
     go_wp2
     go_ret
     exact ⟨by rw [HN.out,HX.out,HY.out];rfl,HB2.out⟩
   | false =>
     have HY:=Lh h16
     clear h16
     go_wp2_with fail
     refine (HH.out 64 w2).mono ?_
     rintro e w3 ⟨rfl,hb3⟩
     have HB3:=Lh (HB2.out.trans (hb3.mono HB2.out.size))
     clear hb3
     cases h64:hasB f.is 64 with
     | true =>
       have HZ:=Lh h64
       clear h64
       by_cases h1:1≤n
       · have d1:decide (1≤n)=true:=by simpa using h1
         have HD:=Lh d1
         go_wp2
         go_ret
         exact ⟨by rw [HN.out,HX.out,HY.out,HZ.out,HD.out];rfl,HB3.out⟩
       · have d1:decide (1≤n)=false:=by simpa using h1
         have HD:=Lh d1
         go_wp2
         go_ret
         exact ⟨by rw [HN.out,HX.out,HY.out,HZ.out,HD.out];rfl,HB3.out⟩
     | false =>
       have HZ:=Lh h64
       clear h64
       go_wp2
       go_ret
       exact ⟨by rw [HN.out,HX.out,HY.out,HZ.out];rfl,HB3.out⟩
def fourB (z:Int):Bool:=decide (z=1) || decide (z=2) || decide (z=4) || decide (z=8)
set_option maxHeartbeats 400000 in
theorem Index4_any (g:Nat) (z:Int) (w:World) (c0:w.cell? ⟨g,0,none⟩=some (.int .i64 1)) (c1:w.cell? ⟨g,1,none⟩=some (.int .i64 2)) (c2:w.cell? ⟨g,2,none⟩=some (.int .i64 4)) (c3:w.cell? ⟨g,3,none⟩=some (.int .i64 8)) :
   Calls Tryz.prog 171 #[.slice (some ⟨g,0,none⟩) 4 4,.int .i64 z] w fun e w'=>e=.returned (.int .i64 (if z=1 then 0 else if z=2 then 1 else if z=4 then 2 else if z=8 then 3 else -1))∧w=w':=by
 obtain ⟨r,hr⟩:∃ r:Int,r=(if z=1 then 0 else if z=2 then 1 else if z=4 then 2 else if z=8 then 3 else -1):=⟨_,rfl⟩
 rw [←hr]
 have HR:=Lh hr
 clear hr
 go_enter Tryz.func171,Tryz.ntmps171
 go_wp2
 go_loop [8] (fun i=>∃ (q:Nat) (y:Int),y=q∧q≤4∧i=.int .i64 y∧((1≤q→z≠1)∧(2≤q→z≠2)∧(3≤q→z≠4)∧(4≤q→z≠8))) (fun i=>4 - (intOf i).toNat)
 case atStart=>exact ⟨0,0,rfl,by omega,rfl,by omega,by omega,by omega,by omega⟩
 case round =>
   obtain ⟨q,y,hy,hq,rfl,hne⟩:=hrel
   have HNE:=Lh hne
   clear hne
   rcases (by omega:y=0∨y=1∨y=2∨y=3∨y=4) with rfl | rfl | rfl | rfl | rfl
   · have HQ:=Lh hy
     clear hy hq
     by_cases hz:z=1
     · subst hz
       go_wp2
       go_ret
       exact ⟨ret_int (by rw [HR.out];rfl),rfl⟩
     · have hb:(z == 1)=false:=by simpa using hz
       have HZ:=Lh hz
       clear hz
       go_wp2
       go_round
       case rel=>have h1:=HNE.out;have h2:=HQ.out;have h3:=HZ.out;exact ⟨1,1,rfl,by omega,rfl,by omega,by omega,by omega,by omega⟩
       case measure=>simp [intOf]
   · have HQ:=Lh hy
     clear hy hq
     by_cases hz:z=2
     · subst hz
       go_wp2
       go_ret
       exact ⟨ret_int (by rw [HR.out];rfl),rfl⟩
     · have hb:(z == 2)=false:=by simpa using hz
       have HZ:=Lh hz
       clear hz
       go_wp2
       go_round
       case rel=>have h1:=HNE.out;have h2:=HQ.out;have h3:=HZ.out;exact ⟨2,2,rfl,by omega,rfl,by omega,by omega,by omega,by omega⟩
       case measure=>simp [intOf]
   · have HQ:=Lh hy
     clear hy hq
     by_cases hz:z=4
     · subst hz
       go_wp2
       go_ret
       exact ⟨ret_int (by rw [HR.out];rfl),rfl⟩
     · have hb:(z == 4)=false:=by simpa using hz
       have HZ:=Lh hz
       clear hz
       go_wp2
       go_round
       case rel=>have h1:=HNE.out;have h2:=HQ.out;have h3:=HZ.out;exact ⟨3,3,rfl,by omega,rfl,by omega,by omega,by omega,by omega⟩
       case measure=>simp [intOf]
   · have HQ:=Lh hy
     clear hy hq
     by_cases hz:z=8
     · subst hz
       go_wp2
       go_ret
       exact ⟨ret_int (by rw [HR.out];rfl),rfl⟩
     · have hb:(z == 8)=false:=by simpa using hz
       have HZ:=Lh hz
       clear hz
       go_wp2
       go_round
       case rel=>have h1:=HNE.out;have h2:=HQ.out;have h3:=HZ.out;exact ⟨4,4,rfl,by omega,rfl,by omega,by omega,by omega,by omega⟩
       case measure=>simp [intOf]
   · have HQ:=Lh hy
     clear hy hq
     go_wp2
     go_ret
     have h1:=HNE.out
     have h2:=HQ.out
     exact ⟨ret_int (by rw [HR.out,if_neg (by omega),if_neg (by omega),if_neg (by omega),if_neg (by omega)]),rfl⟩
theorem Contains4_any (g:Nat) (z:Int) (w:World) (c0:w.cell? ⟨g,0,none⟩=some (.int .i64 1)) (c1:w.cell? ⟨g,1,none⟩=some (.int .i64 2)) (c2:w.cell? ⟨g,2,none⟩=some (.int .i64 4)) (c3:w.cell? ⟨g,3,none⟩=some (.int .i64 8)) :
   Calls Tryz.prog 134 #[.slice (some ⟨g,0,none⟩) 4 4,.int .i64 z] w fun e w'=>e=.returned (.bool (fourB z))∧w=w':=by
 have HI:=Lh (Index4_any g z w c0 c1 c2 c3)
 have hb:decide (0≤(if z=1 then 0 else if z=2 then 1 else if z=4 then 2 else if z=8 then 3 else -1:Int))=fourB z:=by
   unfold fourB
   by_cases h1:z=1
   · subst h1;rfl
   · by_cases h2:z=2
     · subst h2;rfl
     · by_cases h3:z=4
       · subst h3;rfl
       · by_cases h4:z=8
         · subst h4;rfl
         · rw [if_neg h1,if_neg h2,if_neg h3,if_neg h4];simp [h1,h2,h3,h4]
 generalize (if z=1 then 0 else if z=2 then 1 else if z=4 then 2 else if z=8 then 3 else -1:Int)=r at *
 generalize fourB z=b at *
 clear c0 c1 c2 c3
 go_enter Tryz.func134,Tryz.ntmps134
 go_wp2_with ((with_reducible refine (HI.out).mono ?_);rintro e w1 ⟨rfl,rfl⟩)
 go_ret
 exact ⟨rfl,rfl⟩
def placeB (i:Ins):Bool:=(regOk i.base && smallI i.disp) && (if i.index = -1 then decide (i.scale=1) else (regOk i.index && decide (i.index≠4)) && fourB i.scale)
set_option maxHeartbeats 800000 in
theorem iplace_any (i:Ins) (h:-9223372036854775808≤i.disp∧i.disp≤9223372036854775807) (w:World) :
   Calls Tryz.prog 100 #[.agg #[.int .i64 i.base,.int .i64 i.index,.int .i64 i.scale,.int .i64 i.disp]] w fun e w'=>e=.returned (.bool (placeB i))∧Below w.heap.size w w':=by
 obtain ⟨pb,hpb⟩:∃ pb,pb=placeB i:=⟨_,rfl⟩
 rw [←hpb]
 unfold placeB at hpb
 have HP:=Lh hpb
 clear hpb
 obtain ⟨op,d,s,t,ba,ix,sc,di,im⟩:=i
 simp only at h HP ⊢
 obtain ⟨W,hW,hbW,hsz,hnew,_⟩:=boxed w #[.int .i64 ba,.int .i64 ix,.int .i64 sc,.int .i64 di] 38
 have n0:W.cell? ⟨w.heap.size,0,none⟩=some (.int .i64 ba):=hnew 0
 have n1:W.cell? ⟨w.heap.size,1,none⟩=some (.int .i64 ix):=hnew 1
 have n2:W.cell? ⟨w.heap.size,2,none⟩=some (.int .i64 sc):=hnew 2
 have n3:W.cell? ⟨w.heap.size,3,none⟩=some (.int .i64 di):=hnew 3
 have m0:w.heap.size < W.heap.size:=by omega
 have HW:=Lh hW
 have HB:=Lh hbW
 have HS:=Lh (small_any di h W)
 have HR:=Lh (fun r=>register_any r W)
 clear hW hbW hsz hnew h
 go_enter Tryz.func100,Tryz.ntmps100
 go_wp2_with fail
 rw [←HW.out]
 refine (HR.out ba).mono ?_
 rintro e w1 ⟨rfl,rfl⟩
 cases hb:regOk ba with
 | false =>
   have HX:=Lh hb
   clear hb
   go_wp2
   go_ret
   exact ⟨by rw [HP.out,HX.out];rfl,HB.out⟩
 | true =>
   have HX:=Lh hb
   clear hb
   go_wp2_with fail
   refine HS.out.mono ?_
   rintro e w1 ⟨rfl,rfl⟩
   cases hs:smallI di with
   | false =>
     have HY:=Lh hs
     clear hs
     go_wp2
     go_ret
     exact ⟨by rw [HP.out,HX.out,HY.out];rfl,HB.out⟩
   | true =>
     have HY:=Lh hs
     clear hs
     by_cases hix:ix = -1
     · subst hix
       go_wp2
       go_ret
       exact ⟨by rw [HP.out,HX.out,HY.out];rfl,HB.out⟩
     · have d1:(ix == -1)=false:=by simpa using hix
       have HIX:=Lh hix
       clear hix
       go_wp2_with fail
       refine (HR.out ix).mono ?_
       rintro e w1 ⟨rfl,rfl⟩
       cases hr:regOk ix with
       | false =>
         have HZ:=Lh hr
         clear hr
         go_wp2
         go_ret
         exact ⟨by rw [HP.out,HX.out,HY.out,HZ.out,if_neg HIX.out];rfl,HB.out⟩
       | true =>
         have HZ:=Lh hr
         clear hr
         by_cases h4:ix=4
         · subst h4
           go_wp2
           go_ret
           exact ⟨by rw [HP.out,HX.out,HY.out,HZ.out];rfl,HB.out⟩
         · have d2:(ix == 4)=false:=by simpa using h4
           have d3:(ix != 4)=true:=by simpa using h4
           have H4:=Lh h4
           clear h4
           go_wp2_with fail
           refine (Contains4_any W.heap.size sc _ (by go_simp) (by go_simp) (by go_simp) (by go_simp)).mono ?_
           rintro e w1 ⟨rfl,rfl⟩
           go_wp2
           go_ret
           exact ⟨by rw [HP.out,HX.out,HY.out,HZ.out,if_neg HIX.out];simp [H4.out],HB.out.trans ((Below.refl _ _).alloc (Nat.le_of_lt m0) _)⟩
end Go.Proofs.YtocndimihokcmaaGreat
