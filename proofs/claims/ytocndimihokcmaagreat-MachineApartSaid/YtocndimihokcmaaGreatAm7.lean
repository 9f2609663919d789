/- Part 7 of a claim; what it proves stands in its last text. -/
import Derived.Test.YtocndimihokcmaaGreatAm6
import Derived.Maps.OwnSet
import Derived.Maps.Views
import Derived.Test.YtocndimihokcmaaGreatAm1
import Derived.Test.YtocndimihokcmaaGreatAm2
namespace Go.Proofs.YtocndimihokcmaaGreat
open Go.RowKit
set_option maxRecDepth 100000
open Go.Maps (Keyed)
open Go.Maps
theorem FormAt.wholeF {w:World} {b:Nat} {c m:Nat} {i:Ins} (h:FormAt w b c m i):∀ (j:Nat) (v:Value),(#[Value.int .u8 (c:Nat),.int .u8 (m:Nat)]:Array Value).toList[j]? = some v→w.cell? ((⟨b,0,none⟩:Addr).add j)=some v:=by
 intro j v hv
 rw [add_plain,Nat.zero_add]
 simp only [World.cell?,h.form]
 simpa using hv
theorem FormAt.wholeI {w:World} {b:Nat} {c m:Nat} {i:Ins} (h:FormAt w b c m i):∀ (j:Nat) (v:Value),(insRow i).toArray.toList[j]? = some v→w.cell? ((⟨b+1,0,none⟩:Addr).add j)=some v:=by
 intro j v hv
 rw [add_plain,Nat.zero_add]
 simp only [World.cell?,h.ins]
 simpa using hv
theorem infoForm2:(Tryz.prog.info? 139).map (·.size)=some 2:=by kernel_rfl
theorem infoIns9' (i:Ins):(Tryz.prog.info? 40).map (·.size)=some (insRow i).toArray.size:=by
 show _=some 9
 kernel_rfl
set_option maxHeartbeats 8000000 in
theorem putshift_any (c m:Nat) (i:Ins) (hd:0≤i.d∧i.d < 16) (hm:m < 8) (w:World):Calls Tryz.prog 109 #[.agg #[.int .u8 (c:Nat),.int .u8 (m:Nat)],.agg (insRow i).toArray] w (BytesTold ([rexF 0 0 i.d,c,bothF m i.d]++[(i.imm % 256).toNat]) w):=by
 obtain ⟨W,hW⟩:∃ W,W=(w.alloc (.cells #[.int .u8 (c:Nat),.int .u8 (m:Nat)] 139)).alloc (.cells (insRow i).toArray 40):=⟨_,rfl⟩
 have hb:Below w.heap.size w W:=by rw [hW];exact ((Below.refl _ _).alloc (Nat.le_refl _) _).alloc (by simp) _
 have hf:W.heap[w.heap.size]? = some (.cells #[.int .u8 (c:Nat),.int .u8 (m:Nat)] 139 (0,0)):=by rw [hW];exact (Below.heap_alloc _ _ _ (by simp)).trans (heap_alloc_new w _)
 have hi:W.heap[w.heap.size+1]? = some (.cells (insRow i).toArray 40 (0,0)):=by
   rw [hW]
   have:=heap_alloc_new (w.alloc (.cells #[.int .u8 (c:Nat),.int .u8 (m:Nat)] 139)) (.cells (insRow i).toArray 40)
   simpa using this
 have HC:=Lh (show ∀ w_,Below W.heap.size W w_→FormAt w_ w.heap.size c m i from fun w_ h=>⟨(h.block w.heap.size (lt_of_block hf)).trans hf,(h.block (w.heap.size+1) (lt_of_block hi)).trans hi⟩)
 have HW:=Lh hW
 have HB:=Lh hb
 clear hW hb hf hi
 have HONE:=Lh (fun w_=>putone_any c m i hd hm w_)
 obtain ⟨bb,hbb⟩:∃ b:Nat,b=(i.imm % 256).toNat:=⟨_,rfl⟩
 have f9_:IntKind.u8.wrap i.imm=(bb:Int):=by rw [wrapU8];omega
 rw [←hbb]
 clear hbb
 go_enter Tryz.func109,Tryz.ntmps109
 go_upto_region 1 with go_in
 rw [←HW.out]
 clear HW
 refine wp_region_grow (Below W.heap.size W) (by kernel_rfl) (by kernel_rfl) (Below.refl _ W).drew ?_
 have hSx0:=(Below.refl W.heap.size W).drew
 obtain ⟨x0,hx0⟩:∃ x0,x0=W.drew:=⟨_,rfl⟩
 rw [←hx0] at hSx0 ⊢
 clear hx0
 show runC _ _ _ 9 _ [0,1,2,3,4,5,6,7,8] _ _
 refine runC_at 0 (v:=.agg #[.int .u8 (c:Nat),.int .u8 (m:Nat)]) (by rfl) (by rfl) (by rfl) (by kernel_rfl) (by rfl) (fun w_ hw_=>exec_load 139 _ rfl ⟨w.heap.size,0,none⟩ rfl _ _ Tryz.underlying139 rfl infoForm2 (HC.out w_ hw_).wholeF) ?_
 (try dsimp only [Act.put])
 show runC _ _ _ 8 _ [1,2,3,4,5,6,7,8] _ _
 try simp only [List.setIfInBounds_toArray,List.set_cons_zero,List.set_cons_succ]
 refine runC_at 1 (v:=.agg (insRow i).toArray) (by rfl) (by rfl) (by rfl) (by kernel_rfl) (by rfl) (fun w_ hw_=>exec_load 40 _ rfl ⟨w.heap.size+1,0,none⟩ rfl _ _ Tryz.underlying40 rfl (infoIns9' i) (HC.out w_ hw_).wholeI) ?_
 (try dsimp only [Act.put])
 show runC _ _ _ 7 _ [2,3,4,5,6,7,8] _ _
 try simp only [List.setIfInBounds_toArray,List.set_cons_zero,List.set_cons_succ]
 refine runC_at 3 (v:=?_) (by rfl) (by rfl) (by rfl) (by kernel_rfl) (by rfl) ?_ ?_
 rotate_left
 focus (intro w_ hw_;obtain ⟨⟨f0_,f1_⟩,f2_,f3_,f4_,f5_,f6_,f7_⟩:=(HC.out w_ hw_).cells;go_simp;(try with_reducible rfl);done)
 (try dsimp only [Act.put])
 show runC _ _ _ 6 _ [2,4,5,6,7,8] _ _
 try simp only [List.setIfInBounds_toArray,List.set_cons_zero,List.set_cons_succ]
 refine runC_at 4 (v:=?_) (by rfl) (by rfl) (by rfl) (by kernel_rfl) (by rfl) ?_ ?_
 rotate_left
 focus (intro w_ hw_;obtain ⟨⟨f0_,f1_⟩,f2_,f3_,f4_,f5_,f6_,f7_⟩:=(HC.out w_ hw_).cells;go_simp;(try with_reducible rfl);done)
 (try dsimp only [Act.put])
 show runC _ _ _ 5 _ [2,5,6,7,8] _ _
 try simp only [List.setIfInBounds_toArray,List.set_cons_zero,List.set_cons_succ]
 refine runC_at 5 (v:=?_) (by rfl) (by rfl) (by rfl) (by kernel_rfl) (by rfl) ?_ ?_
 rotate_left
 focus (intro w_ hw_;obtain ⟨⟨f0_,f1_⟩,f2_,f3_,f4_,f5_,f6_,f7_⟩:=(HC.out w_ hw_).cells;go_simp;(try with_reducible rfl);done)
 (try dsimp only [Act.put])
 show runC _ _ _ 4 _ [2,6,7,8] _ _
 try simp only [List.setIfInBounds_toArray,List.set_cons_zero,List.set_cons_succ]
 refine runC_two 2 6 (by kernel_rfl) (by kernel_rfl) (by rfl) (by rfl) (by rfl) (by rfl) ?_ ?_
 · have hzT_:=hSx0.size
   refine tdoes_call (f:=?_) (args:=?_) (w1:=?_) ?_ ?_
   rotate_left 3
   focus (go_simp;refine ⟨⟨?_,?_⟩,?_⟩ <;> with_reducible rfl)
   refine (HONE.out x0).mono ?_
   rintro e_ x1 ⟨AT,nT,cT,rfl,ho_,hn_,hb_⟩
   have hSx1:=hSx0.trans (hb_.mono hSx0.size)
   have HOT:=Lh ho_
   have HNT:=Lh hn_
   have HBx1:=Lh hb_
   clear ho_ hn_ hb_
   refine ⟨_,rfl,sameS hSx1 ?_⟩
   (try dsimp only [Act.put])
   try simp only [List.setIfInBounds_toArray,List.set_cons_zero,List.set_cons_succ]
   show runC _ _ _ 3 _ [6,7,8] _ _
   refine runC_one 6 (by kernel_rfl) (by kernel_rfl) (by rfl) (by rfl) ?_
   obtain ⟨x2,h_⟩:∃ q,q=x1.alloc (.cells #[.int .u8 (bb:Nat)] 5):=⟨_,rfl⟩
   have hb_:Below x1.heap.size x1 x2:=by rw [h_];exact (Below.refl _ _).alloc (Nat.le_refl _) _
   have hSx2:=hSx1.trans (hb_.mono hSx1.size)
   refine tdoes_op (w1:=x2) (v:=.slice (some ⟨x1.heap.size,0,none⟩) 1 1) (by rw [h_];exact exec_u8_1 _ rfl rfl) (sameS hSx2 ?_)
   (try dsimp only [Act.put])
   try simp only [List.setIfInBounds_toArray,List.set_cons_zero,List.set_cons_succ]
   obtain ⟨gL,hg_⟩:∃ q,q=x1.heap.size:=⟨_,rfl⟩
   have HOL:=Lh (show x2.ownsRow W.heap.size 5 1 (.slice (some ⟨gL,0,none⟩) 1 1) 1 (u8V [bb]) from by rw [hg_];exact own_lit8 [bb] #[.int .u8 (bb:Nat)] rfl hSx1.size (by simp) (by simp) (by rw [h_];exact heap_alloc_new x1 _) 1 rfl)
   have HBx2:=Lh hb_
   rw [←hg_]
   clear h_ hg_ hb_
   show runC _ _ _ 2 _ [7,8] _ _
   refine runC_one 7 (by kernel_rfl) (by kernel_rfl) (by rfl) (by rfl) ?_
   have hA_:x2.ownsRow W.heap.size 5 1 (.slice AT nT cT) nT (u8V [rexF 0 0 i.d,c,bothF m i.d]):=by first | exact own_baseB HOT.out hSx0.size | exact own_baseB (own_keepB HOT.out HBx2.out) hSx0.size | exact own_baseB HOT.out (by assumption) | exact own_baseB (own_keepB HOT.out HBx2.out) (by assumption)
   have hB_:∃ b_,x2.ownsRow b_ 5 1 (.slice (some ⟨gL,0,none⟩) 1 1) 1 (u8V [bb]):=by first | exact ⟨_,HOL.out⟩ | exact ⟨_,own_keepB HOL.out HBx2.out⟩
   obtain ⟨b_,hB_⟩:=hB_
   refine tdoes_app8 _ _ rfl W.heap.size b_ (.slice AT nT cT) (.slice (some ⟨gL,0,none⟩) 1 1) nT 1 [rexF 0 0 i.d,c,bothF m i.d] [bb] rfl rfl hA_ hB_ (by have:=HNT.out;simp at this;omega) hSx2.size ?_
   intro v_ x3 ho_ hg_
   obtain ⟨Ar,cr,rfl,h_⟩:=own_formB ho_
   have hSx3:=Below.grown hSx2 hg_ hSx2.size (fun k_ hk_=>(own_ltB hA_ k_ hk_).2)
   have HOr:=Lh ho_
   clear ho_ hg_ h_ hA_ hB_
   refine sameS hSx3 ?_
   (try dsimp only [Act.put])
   try simp only [List.setIfInBounds_toArray,List.set_cons_zero,List.set_cons_succ]
   show runC _ _ _ 1 _ [8] _ _
   refine runC_at 8 (v:=?_) (by rfl) (by rfl) (by rfl) (by kernel_rfl) (by rfl) ?_ ?_
   rotate_left
   focus (intro w_ hw_;obtain ⟨⟨f0_,f1_⟩,f2_,f3_,f4_,f5_,f6_,f7_⟩:=(HC.out w_ hw_).cells;go_simp;(try with_reducible rfl);done)
   (try dsimp only [Act.put])
   show runC _ _ _ 0 _ [] _ _
   try simp only [List.setIfInBounds_toArray,List.set_cons_zero,List.set_cons_succ]
   refine runC_nil ?_
   (try dsimp only [Act.put])
   try simp only [List.setIfInBounds_toArray,List.set_cons_zero,List.set_cons_succ]
   go_wp2
   go_ret
   exact ⟨_,_,_,by rfl,own_baseB HOr.out HB.out.size,by have:=HNT.out;simp at *;omega,HB.out.trans (hSx3.mono HB.out.size)⟩
 · obtain ⟨x4,h_⟩:∃ q,q=x0.alloc (.cells #[.int .u8 (bb:Nat)] 5):=⟨_,rfl⟩
   have hb_:Below x0.heap.size x0 x4:=by rw [h_];exact (Below.refl _ _).alloc (Nat.le_refl _) _
   have hSx4:=hSx0.trans (hb_.mono hSx0.size)
   refine tdoes_op (w1:=x4) (v:=.slice (some ⟨x0.heap.size,0,none⟩) 1 1) (by rw [h_];exact exec_u8_1 _ rfl rfl) (sameS hSx4 ?_)
   (try dsimp only [Act.put])
   try simp only [List.setIfInBounds_toArray,List.set_cons_zero,List.set_cons_succ]
   obtain ⟨gL,hg_⟩:∃ q,q=x0.heap.size:=⟨_,rfl⟩
   have HOL:=Lh (show x4.ownsRow W.heap.size 5 1 (.slice (some ⟨gL,0,none⟩) 1 1) 1 (u8V [bb]) from by rw [hg_];exact own_lit8 [bb] #[.int .u8 (bb:Nat)] rfl hSx0.size (by simp) (by simp) (by rw [h_];exact heap_alloc_new x0 _) 1 rfl)
   have HBx4:=Lh hb_
   rw [←hg_]
   clear h_ hg_ hb_
   show runC _ _ _ 3 _ [2,7,8] _ _
   refine runC_one 2 (by kernel_rfl) (by kernel_rfl) (by rfl) (by rfl) ?_
   have hzT_:=hSx4.size
   refine tdoes_call (f:=?_) (args:=?_) (w1:=?_) ?_ ?_
   rotate_left 3
   focus (go_simp;refine ⟨⟨?_,?_⟩,?_⟩ <;> with_reducible rfl)
   refine (HONE.out x4).mono ?_
   rintro e_ x5 ⟨AT,nT,cT,rfl,ho_,hn_,hb_⟩
   have hSx5:=hSx4.trans (hb_.mono hSx4.size)
   have HOT:=Lh ho_
   have HNT:=Lh hn_
   have HBx5:=Lh hb_
   clear ho_ hn_ hb_
   refine ⟨_,rfl,sameS hSx5 ?_⟩
   (try dsimp only [Act.put])
   try simp only [List.setIfInBounds_toArray,List.set_cons_zero,List.set_cons_succ]
   show runC _ _ _ 2 _ [7,8] _ _
   refine runC_one 7 (by kernel_rfl) (by kernel_rfl) (by rfl) (by rfl) ?_
   have hA_:x5.ownsRow W.heap.size 5 1 (.slice AT nT cT) nT (u8V [rexF 0 0 i.d,c,bothF m i.d]):=by first | exact own_baseB HOT.out hSx0.size | exact own_baseB (own_keepB HOT.out HBx5.out) hSx0.size | exact own_baseB HOT.out (by assumption) | exact own_baseB (own_keepB HOT.out HBx5.out) (by assumption)
   have hB_:∃ b_,x5.ownsRow b_ 5 1 (.slice (some ⟨gL,0,none⟩) 1 1) 1 (u8V [bb]):=by first | exact ⟨_,HOL.out⟩ | exact ⟨_,own_keepB HOL.out HBx5.out⟩
   obtain ⟨b_,hB_⟩:=hB_
   refine tdoes_app8 _ _ rfl W.heap.size b_ (.slice AT nT cT) (.slice (some ⟨gL,0,none⟩) 1 1) nT 1 [rexF 0 0 i.d,c,bothF m i.d] [bb] rfl rfl hA_ hB_ (by have:=HNT.out;simp at this;omega) hSx5.size ?_
   intro v_ x6 ho_ hg_
   obtain ⟨Ar,cr,rfl,h_⟩:=own_formB ho_
   have hSx6:=Below.grown hSx5 hg_ hSx5.size (fun k_ hk_=>(own_ltB hA_ k_ hk_).2)
   have HOr:=Lh ho_
   clear ho_ hg_ h_ hA_ hB_
   refine sameS hSx6 ?_
   (try dsimp only [Act.put])
   try simp only [List.setIfInBounds_toArray,List.set_cons_zero,List.set_cons_succ]
   show runC _ _ _ 1 _ [8] _ _
   refine runC_at 8 (v:=?_) (by rfl) (by rfl) (by rfl) (by kernel_rfl) (by rfl) ?_ ?_
   rotate_left
   focus (intro w_ hw_;obtain ⟨⟨f0_,f1_⟩,f2_,f3_,f4_,f5_,f6_,f7_⟩:=(HC.out w_ hw_).cells;go_simp;(try with_reducible rfl);done)
   (try dsimp only [Act.put])
   show runC _ _ _ 0 _ [] _ _
   try simp only [List.setIfInBounds_toArray,List.set_cons_zero,List.set_cons_succ]
   refine runC_nil ?_
   (try dsimp only [Act.put])
   try simp only [List.setIfInBounds_toArray,List.set_cons_zero,List.set_cons_succ]
   go_wp2
   go_ret
   exact ⟨_,_,_,by rfl,own_baseB HOr.out HB.out.size,by have:=HNT.out;simp at *;omega,HB.out.trans (hSx6.mono HB.out.size)⟩
set_option maxHeartbeats 8000000 in
theorem putstack_any (c m:Nat) (i:Ins) (r:Int) (hrm:r=max i.s i.d) (hr:0≤r∧r < 16) (hc:c < 248) (l:List Nat) (hl:l=if 7 < r then [65,c+lo3 r] else [c+lo3 r]) (w:World):Calls Tryz.prog 111 #[.agg #[.int .u8 (c:Nat),.int .u8 (m:Nat)],.agg (insRow i).toArray] w (BytesTold l w):=by
 obtain ⟨W,hW⟩:∃ W,W=(w.alloc (.cells #[.int .u8 (c:Nat),.int .u8 (m:Nat)] 139)).alloc (.cells (insRow i).toArray 40):=⟨_,rfl⟩
 have hb:Below w.heap.size w W:=by rw [hW];exact ((Below.refl _ _).alloc (Nat.le_refl _) _).alloc (by simp) _
 have hf:W.heap[w.heap.size]? = some (.cells #[.int .u8 (c:Nat),.int .u8 (m:Nat)] 139 (0,0)):=by rw [hW];exact (Below.heap_alloc _ _ _ (by simp)).trans (heap_alloc_new w _)
 have hi:W.heap[w.heap.size+1]? = some (.cells (insRow i).toArray 40 (0,0)):=by
   rw [hW]
   have:=heap_alloc_new (w.alloc (.cells #[.int .u8 (c:Nat),.int .u8 (m:Nat)] 139)) (.cells (insRow i).toArray 40)
   simpa using this
 have HC:=Lh (show ∀ w_,Below W.heap.size W w_→FormAt w_ w.heap.size c m i from fun w_ h=>⟨(h.block w.heap.size (lt_of_block hf)).trans hf,(h.block (w.heap.size+1) (lt_of_block hi)).trans hi⟩)
 have HW:=Lh hW
 have HB:=Lh hb
 clear hW hb hf hi
 have HHI:=Lh (fun w_=>high_any r hr.2 w_)
 have HLW:=Lh (fun w_=>low_any r w_)
 have f9_:IntKind.u8.wrap ((c:Int)+(lo3 r:Int))=((c+lo3 r:Nat):Int):=by have:=lo3_lt r;rw [wrapU8];omega
 have hh:hi3 r=if 7 < r then 1 else 0:=by unfold hi3;split <;> omega
 have HHH:=Lh hh
 have HLL:=Lh hl
 clear hh hl
 obtain ⟨⟨c0_,c1_⟩,c2_,c3_,c4_,c5_,c6_,c7_⟩:=(HC.out _ (Below.refl _ W)).cells
 have f8_:max i.s i.d=r:=hrm.symm
 clear hrm
 go_enter Tryz.func111,Tryz.ntmps111
 go_upto_region 1 with go_in
 rw [←HW.out]
 clear HW
 by_cases h7:7 < r
 · have hv:=HHH.out
   rw [if_pos h7] at hv
   rw [hv] at HHI
   have hl:=HLL.out
   rw [if_pos h7] at hl
   subst hl
   clear hv h7 HHH HLL
   go_upto_region 3 with (first | ((with_reducible refine (HHI.out _).mono ?_);rintro e_ w1 ⟨rfl,hw1⟩;subst w1) | go_in)
   refine wp_region_grow (Below W.heap.size W) (by kernel_rfl) (by kernel_rfl) (Below.refl _ W).drew ?_
   have hSx0:=(Below.refl W.heap.size W).drew
   obtain ⟨x0,hx0⟩:∃ x0,x0=W.drew:=⟨_,rfl⟩
   rw [←hx0] at hSx0 ⊢
   clear hx0
   show runC _ _ _ 7 _ [0,1,2,3,4,5,6] _ _
   refine runC_at 0 (v:=?_) (by rfl) (by rfl) (by rfl) (by kernel_rfl) (by rfl) ?_ ?_
   rotate_left
   focus (intro w_ hw_;obtain ⟨⟨f0_,f1_⟩,f2_,f3_,f4_,f5_,f6_,f7_⟩:=(HC.out w_ hw_).cells;go_simp;(try with_reducible rfl);done)
   (try dsimp only [Act.put])
   show runC _ _ _ 6 _ [1,2,3,4,5,6] _ _
   try simp only [List.setIfInBounds_toArray,List.set_cons_zero,List.set_cons_succ]
   refine runC_at 1 (v:=?_) (by rfl) (by rfl) (by rfl) (by kernel_rfl) (by rfl) ?_ ?_
   rotate_left
   focus (intro w_ hw_;obtain ⟨⟨f0_,f1_⟩,f2_,f3_,f4_,f5_,f6_,f7_⟩:=(HC.out w_ hw_).cells;go_simp;(try with_reducible rfl);done)
   (try dsimp only [Act.put])
   show runC _ _ _ 5 _ [2,3,4,5,6] _ _
   try simp only [List.setIfInBounds_toArray,List.set_cons_zero,List.set_cons_succ]
   refine runC_at 2 (v:=?_) (by rfl) (by rfl) (by rfl) (by kernel_rfl) (by rfl) ?_ ?_
   rotate_left
   focus (intro w_ hw_;obtain ⟨⟨f0_,f1_⟩,f2_,f3_,f4_,f5_,f6_,f7_⟩:=(HC.out w_ hw_).cells;go_simp;(try with_reducible rfl);done)
   (try dsimp only [Act.put])
   show runC _ _ _ 4 _ [3,4,5,6] _ _
   try simp only [List.setIfInBounds_toArray,List.set_cons_zero,List.set_cons_succ]
   refine runC_one 3 (by kernel_rfl) (by kernel_rfl) (by rfl) (by rfl) ?_
   refine tdoes_call (f:=?_) (args:=?_) (w1:=?_) ?_ ?_
   rotate_left 3
   focus (go_simp;refine ⟨⟨?_,?_⟩,?_⟩ <;> with_reducible rfl)
   refine (HLW.out x0).mono ?_
   rintro e_ w1_ ⟨rfl,hw_⟩
   subst w1_
   refine ⟨_,rfl,sameS hSx0 ?_⟩
   (try dsimp only [Act.put])
   try simp only [List.setIfInBounds_toArray,List.set_cons_zero,List.set_cons_succ]
   show runC _ _ _ 3 _ [4,5,6] _ _
   refine runC_at 4 (v:=?_) (by rfl) (by rfl) (by rfl) (by kernel_rfl) (by rfl) ?_ ?_
   rotate_left
   focus (intro w_ hw_;obtain ⟨⟨f0_,f1_⟩,f2_,f3_,f4_,f5_,f6_,f7_⟩:=(HC.out w_ hw_).cells;go_simp;(try with_reducible rfl);done)
   (try dsimp only [Act.put])
   show runC _ _ _ 2 _ [5,6] _ _
   try simp only [List.setIfInBounds_toArray,List.set_cons_zero,List.set_cons_succ]
   refine runC_one 5 (by kernel_rfl) (by kernel_rfl) (by rfl) (by rfl) ?_
   obtain ⟨x2,h_⟩:∃ q,q=x0.alloc (.cells #[.int .u8 (65:Nat),.int .u8 (c+lo3 r:Nat)] 5):=⟨_,rfl⟩
   have hb_:Below x0.heap.size x0 x2:=by rw [h_];exact (Below.refl _ _).alloc (Nat.le_refl _) _
   have hSx2:=hSx0.trans (hb_.mono hSx0.size)
   refine tdoes_op (w1:=x2) (v:=.slice (some ⟨x0.heap.size,0,none⟩) 2 2) (by rw [h_];exact exec_u8_2 _ _ rfl rfl rfl) (sameS hSx2 ?_)
   (try dsimp only [Act.put])
   try simp only [List.setIfInBounds_toArray,List.set_cons_zero,List.set_cons_succ]
   obtain ⟨gL,hg_⟩:∃ q,q=x0.heap.size:=⟨_,rfl⟩
   have HOL:=Lh (show x2.ownsRow W.heap.size 5 1 (.slice (some ⟨gL,0,none⟩) 2 2) 2 (u8V [65,c+lo3 r]) from by rw [hg_];exact own_lit8 [65,c+lo3 r] #[.int .u8 (65:Nat),.int .u8 (c+lo3 r:Nat)] rfl hSx0.size (by simp) (by simp) (by rw [h_];exact heap_alloc_new x0 _) 2 rfl)
   have HBx2:=Lh hb_
   rw [←hg_]
   clear h_ hg_ hb_
   show runC _ _ _ 1 _ [6] _ _
   refine runC_at 6 (v:=?_) (by rfl) (by rfl) (by rfl) (by kernel_rfl) (by rfl) ?_ ?_
   rotate_left
   focus (intro w_ hw_;obtain ⟨⟨f0_,f1_⟩,f2_,f3_,f4_,f5_,f6_,f7_⟩:=(HC.out w_ hw_).cells;go_simp;(try with_reducible rfl);done)
   (try dsimp only [Act.put])
   show runC _ _ _ 0 _ [] _ _
   try simp only [List.setIfInBounds_toArray,List.set_cons_zero,List.set_cons_succ]
   refine runC_nil ?_
   (try dsimp only [Act.put])
   try simp only [List.setIfInBounds_toArray,List.set_cons_zero,List.set_cons_succ]
   go_wp2
   go_ret
   exact ⟨_,_,_,by rfl,own_baseB HOL.out HB.out.size,by simp,HB.out.trans (hSx2.mono HB.out.size)⟩
 · have hv:=HHH.out
   rw [if_neg h7] at hv
   rw [hv] at HHI
   have hl:=HLL.out
   rw [if_neg h7] at hl
   subst hl
   clear hv h7 HHH HLL
   go_upto_region 4 with (first | ((with_reducible refine (HHI.out _).mono ?_);rintro e_ w1 ⟨rfl,hw1⟩;subst w1) | go_in)
   refine wp_region_grow (Below W.heap.size W) (by kernel_rfl) (by kernel_rfl) (Below.refl _ W).drew ?_
   have hSx0:=(Below.refl W.heap.size W).drew
   obtain ⟨x0,hx0⟩:∃ x0,x0=W.drew:=⟨_,rfl⟩
   rw [←hx0] at hSx0 ⊢
   clear hx0
   show runC _ _ _ 7 _ [0,1,2,3,4,5,6] _ _
   refine runC_at 0 (v:=?_) (by rfl) (by rfl) (by rfl) (by kernel_rfl) (by rfl) ?_ ?_
   rotate_left
   focus (intro w_ hw_;obtain ⟨⟨f0_,f1_⟩,f2_,f3_,f4_,f5_,f6_,f7_⟩:=(HC.out w_ hw_).cells;go_simp;(try with_reducible rfl);done)
   (try dsimp only [Act.put])
   show runC _ _ _ 6 _ [1,2,3,4,5,6] _ _
   try simp only [List.setIfInBounds_toArray,List.set_cons_zero,List.set_cons_succ]
   refine runC_at 1 (v:=?_) (by rfl) (by rfl) (by rfl) (by kernel_rfl) (by rfl) ?_ ?_
   rotate_left
   focus (intro w_ hw_;obtain ⟨⟨f0_,f1_⟩,f2_,f3_,f4_,f5_,f6_,f7_⟩:=(HC.out w_ hw_).cells;go_simp;(try with_reducible rfl);done)
   (try dsimp only [Act.put])
   show runC _ _ _ 5 _ [2,3,4,5,6] _ _
   try simp only [List.setIfInBounds_toArray,List.set_cons_zero,List.set_cons_succ]
   refine runC_at 2 (v:=?_) (by rfl) (by rfl) (by rfl) (by kernel_rfl) (by rfl) ?_ ?_
   rotate_left
   focus (intro w_ hw_;obtain ⟨⟨f0_,f1_⟩,f2_,f3_,f4_,f5_,f6_,f7_⟩:=(HC.out w_ hw_).cells;go_simp;(try with_reducible rfl);done)
   (try dsimp only [Act.put])
   show runC _ _ _ 4 _ [3,4,5,6] _ _
   try simp only [List.setIfInBounds_toArray,List.set_cons_zero,List.set_cons_succ]
   refine runC_one 3 (by kernel_rfl) (by kernel_rfl) (by rfl) (by rfl) ?_
   refine tdoes_call (f:=?_) (args:=?_) (w1:=?_) ?_ ?_
   rotate_left 3
   focus (go_simp;refine ⟨⟨?_,?_⟩,?_⟩ <;> with_reducible rfl)
   refine (HLW.out x0).mono ?_
   rintro e_ w1_ ⟨rfl,hw_⟩
   subst w1_
   refine ⟨_,rfl,sameS hSx0 ?_⟩
   (try dsimp only [Act.put])
   try simp only [List.setIfInBounds_toArray,List.set_cons_zero,List.set_cons_succ]
   show runC _ _ _ 3 _ [4,5,6] _ _
   refine runC_at 4 (v:=?_) (by rfl) (by rfl) (by rfl) (by kernel_rfl) (by rfl) ?_ ?_
   rotate_left
   focus (intro w_ hw_;obtain ⟨⟨f0_,f1_⟩,f2_,f3_,f4_,f5_,f6_,f7_⟩:=(HC.out w_ hw_).cells;go_simp;(try with_reducible rfl);done)
   (try dsimp only [Act.put])
   show runC _ _ _ 2 _ [5,6] _ _
   try simp only [List.setIfInBounds_toArray,List.set_cons_zero,List.set_cons_succ]
   refine runC_one 5 (by kernel_rfl) (by kernel_rfl) (by rfl) (by rfl) ?_
   obtain ⟨x2,h_⟩:∃ q,q=x0.alloc (.cells #[.int .u8 (c+lo3 r:Nat)] 5):=⟨_,rfl⟩
   have hb_:Below x0.heap.size x0 x2:=by rw [h_];exact (Below.refl _ _).alloc (Nat.le_refl _) _
   have hSx2:=hSx0.trans (hb_.mono hSx0.size)
   refine tdoes_op (w1:=x2) (v:=.slice (some ⟨x0.heap.size,0,none⟩) 1 1) (by rw [h_];exact exec_u8_1 _ rfl rfl) (sameS hSx2 ?_)
   (try dsimp only [Act.put])
   try simp only [List.setIfInBounds_toArray,List.set_cons_zero,List.set_cons_succ]
   obtain ⟨gL,hg_⟩:∃ q,q=x0.heap.size:=⟨_,rfl⟩
   have HOL:=Lh (show x2.ownsRow W.heap.size 5 1 (.slice (some ⟨gL,0,none⟩) 1 1) 1 (u8V [c+lo3 r]) from by rw [hg_];exact own_lit8 [c+lo3 r] #[.int .u8 (c+lo3 r:Nat)] rfl hSx0.size (by simp) (by simp) (by rw [h_];exact heap_alloc_new x0 _) 1 rfl)
   have HBx2:=Lh hb_
   rw [←hg_]
   clear h_ hg_ hb_
   show runC _ _ _ 1 _ [6] _ _
   refine runC_at 6 (v:=?_) (by rfl) (by rfl) (by rfl) (by kernel_rfl) (by rfl) ?_ ?_
   rotate_left
   focus (intro w_ hw_;obtain ⟨⟨f0_,f1_⟩,f2_,f3_,f4_,f5_,f6_,f7_⟩:=(HC.out w_ hw_).cells;go_simp;(try with_reducible rfl);done)
   (try dsimp only [Act.put])
   show runC _ _ _ 0 _ [] _ _
   try simp only [List.setIfInBounds_toArray,List.set_cons_zero,List.set_cons_succ]
   refine runC_nil ?_
   (try dsimp only [Act.put])
   try simp only [List.setIfInBounds_toArray,List.set_cons_zero,List.set_cons_succ]
   go_wp2
   go_ret
   exact ⟨_,_,_,by rfl,own_baseB HOL.out HB.out.size,by simp,HB.out.trans (hSx2.mono HB.out.size)⟩
set_option maxHeartbeats 8000000 in
theorem putjump1_any (c:Nat) (i:Ins) (w:World):Calls Tryz.prog 112 #[.agg #[.int .u8 (c:Nat),.int .u8 0],.agg (insRow i).toArray] w (BytesTold ([c]++littleF i.imm 4) w):=by
 obtain ⟨m,hm⟩:∃ m:Nat,m=0:=⟨_,rfl⟩
 rw [show (Value.int .u8 0)=.int .u8 (m:Nat) by rw [hm];rfl]
 obtain ⟨W,hW⟩:∃ W,W=(w.alloc (.cells #[.int .u8 (c:Nat),.int .u8 (m:Nat)] 139)).alloc (.cells (insRow i).toArray 40):=⟨_,rfl⟩
 have hb:Below w.heap.size w W:=by rw [hW];exact ((Below.refl _ _).alloc (Nat.le_refl _) _).alloc (by simp) _
 have hf:W.heap[w.heap.size]? = some (.cells #[.int .u8 (c:Nat),.int .u8 (m:Nat)] 139 (0,0)):=by rw [hW];exact (Below.heap_alloc _ _ _ (by simp)).trans (heap_alloc_new w _)
 have hi:W.heap[w.heap.size+1]? = some (.cells (insRow i).toArray 40 (0,0)):=by
   rw [hW]
   have:=heap_alloc_new (w.alloc (.cells #[.int .u8 (c:Nat),.int .u8 (m:Nat)] 139)) (.cells (insRow i).toArray 40)
   simpa using this
 have HC:=Lh (show ∀ w_,Below W.heap.size W w_→FormAt w_ w.heap.size c m i from fun w_ h=>⟨(h.block w.heap.size (lt_of_block hf)).trans hf,(h.block (w.heap.size+1) (lt_of_block hi)).trans hi⟩)
 have HW:=Lh hW
 have HB:=Lh hb
 clear hW hb hf hi
 have HLT:=Lh (fun w_=>show Calls Tryz.prog 138 #[.int .i64 i.imm,.int .i64 4] w_ (BytesTold (littleF i.imm 4) w_) from little_any i.imm 4 (by decide) w_)
 have d9_:((m:Int) != 0)=false:=by rw [hm];rfl
 clear hm
 have HC2:=Lh (HC.out _ ((Below.refl _ W).alloc (Nat.le_refl _) (.cells #[.int .u8 (c:Nat)] 5)))
 obtain ⟨⟨c0_,c1_⟩,c2_,c3_,c4_,c5_,c6_,c7_⟩:=(HC.out _ (Below.refl _ W)).cells
 obtain ⟨⟨e0_,e1_⟩,e2_,e3_,e4_,e5_,e6_,e7_⟩:=HC2.out.cells
 go_enter Tryz.func112,Tryz.ntmps112
 go_upto_region 1 with go_in
 rw [←HW.out]
 clear HW
 go_upto_region 4 with go_in
 obtain ⟨W1,hW1⟩:∃ W1,W1=W.alloc (.cells #[.int .u8 (c:Nat)] 5):=⟨_,rfl⟩
 have HO0:=Lh (show W1.ownsRow W.heap.size 5 1 (.slice (some ⟨W.heap.size,0,none⟩) 1 1) 1 (u8V [c]) from own_lit8 [c] _ rfl (Nat.le_refl _) (by simp) (by simp) (by rw [hW1];exact heap_alloc_new W _) 1 rfl)
 have HB1:=Lh (show Below W.heap.size W W1 by rw [hW1];exact (Below.refl _ _).alloc (Nat.le_refl _) _)
 rw [←hW1] at e0_ e1_ e2_ e3_ e4_ e5_ e6_ e7_ ⊢
 clear hW1 HC2 c0_ c1_ c2_ c3_ c4_ c5_ c6_ c7_
 go_wp2_with (first
   | ((with_reducible refine (HLT.out _).mono ?_);rintro e_ w5 ⟨A5,n5,c5,rfl,ho5,hn5,hb5⟩;have HO5:=Lh ho5;have HN5:=Lh hn5;have HB5:=Lh hb5;clear ho5 hn5 hb5)
   | (at_builtin;refine wpList_app8 rfl _ _ rfl W.heap.size W1.heap.size (.slice (some ⟨W.heap.size,0,none⟩) 1 1) (.slice A5 n5 c5) 1 n5 [c] (littleF i.imm 4) rfl rfl (own_keepB HO0.out HB5.out) HO5.out (by have:=HN5.out;rw [little_len] at this;omega) (Nat.le_trans HB1.out.size HB5.out.size) ?_;intro aE w6 ho6 hg6;obtain ⟨A6,c6,rfl,hh_⟩:=own_formB ho6;have HO6:=Lh ho6;have HG6:=Lh hg6;clear ho6 hg6 hh_))
 go_ret
 exact ⟨_,_,_,by rfl,own_baseB HO6.out HB.out.size,by have:=HN5.out;simp [little_len] at *;omega,HB.out.trans ((Below.grown (HB1.out.trans (HB5.out.mono HB1.out.size)) HG6.out (Nat.le_trans HB1.out.size HB5.out.size) (fun k_ hk_=>(own_ltB HO0.out k_ hk_).2)).mono HB.out.size)⟩
set_option maxHeartbeats 8000000 in
theorem putret_any (c m:Nat) (i:Ins) (w:World):Calls Tryz.prog 113 #[.agg #[.int .u8 (c:Nat),.int .u8 (m:Nat)],.agg (insRow i).toArray] w (BytesTold [c] w):=by
 obtain ⟨W,hW⟩:∃ W,W=(w.alloc (.cells #[.int .u8 (c:Nat),.int .u8 (m:Nat)] 139)).alloc (.cells (insRow i).toArray 40):=⟨_,rfl⟩
 have hb:Below w.heap.size w W:=by rw [hW];exact ((Below.refl _ _).alloc (Nat.le_refl _) _).alloc (by simp) _
 have hf:W.heap[w.heap.size]? = some (.cells #[.int .u8 (c:Nat),.int .u8 (m:Nat)] 139 (0,0)):=by rw [hW];exact (Below.heap_alloc _ _ _ (by simp)).trans (heap_alloc_new w _)
 have hi:W.heap[w.heap.size+1]? = some (.cells (insRow i).toArray 40 (0,0)):=by
   rw [hW]
   have:=heap_alloc_new (w.alloc (.cells #[.int .u8 (c:Nat),.int .u8 (m:Nat)] 139)) (.cells (insRow i).toArray 40)
   simpa using this
 have HC:=Lh (show ∀ w_,Below W.heap.size W w_→FormAt w_ w.heap.size c m i from fun w_ h=>⟨(h.block w.heap.size (lt_of_block hf)).trans hf,(h.block (w.heap.size+1) (lt_of_block hi)).trans hi⟩)
 have HW:=Lh hW
 have HB:=Lh hb
 clear hW hb hf hi
 obtain ⟨⟨c0_,c1_⟩,c2_,c3_,c4_,c5_,c6_,c7_⟩:=(HC.out _ (Below.refl _ W)).cells
 go_enter Tryz.func113,Tryz.ntmps113
 go_upto_region 1 with go_in
 rw [←HW.out]
 clear HW
 go_wp2
 go_ret
 exact ⟨_,_,_,by rfl,own_baseB (own_lit8 [c] _ rfl (Nat.le_refl _) (by simp) (by simp) (heap_alloc_new W _) 1 rfl) HB.out.size,by simp,HB.out.trans (((Below.refl _ W).alloc (Nat.le_refl _) _).mono HB.out.size)⟩
end Go.Proofs.YtocndimihokcmaaGreat
namespace Go.Proofs.YtocndimihokcmaaGreat
open Go.RowKit
set_option maxRecDepth 100000
open Go.Maps (Keyed)
open Go.Maps
theorem keyedI:Keyed Tryz.prog 3:=Go.Maps.int_keyed Tryz.underlying3
theorem wpList_insert_in {H:Type} {P:Program} (w:World) {ops:Array Oper} {rest:List Oper} {o:Oper} {a:Act} {Q:Exit→Act→World→Prop} (hg:o.guard=none) (m x v:Operand) (t:TypeId) (hop:o.op=Op.insert t m x v)
   (k e:TypeId) (K:Keyed P k) (ht:P.underlying t=some (.map k e)) (R:Value→Option (DataW H×List MemPlace)) (b n:Nat) (D:DataW H)
   (hm:a.eval m=.map (some b)) (hown:w.ownsMap P k R b n D) (hn:n < maxLen) (key val:Value) (kl:Lit) (hx:a.eval x=key) (hv:a.eval v=val) (hkey:keyOf P k key=some kl)
   (d:DataW H) (ps:List MemPlace) (hval:R val=some (d,ps))
   (hK:∀ w',w'.ownsMap P k R b (n+1) (D.put kl d)→w.mapTurned w' b→wpList P ops Q rest (a.put o.dst undef) w') :
   wpList P ops Q (o :: rest) a w:=by
 refine wpList_plain hg fun K' hK'=>?_
 obtain ⟨w',hrun,r1,r2⟩:=hown.store K ht hn hkey hval
 unfold Oper.wp
 simp [execOp,hop,hm,hx,hv,hrun,Result.andThen]
 exact hK' _ _ (hK w' r1 r2)
def byteE (v:Value):Option (DataW Unit×List MemPlace):=match v with
 | .int .u8 n=>some (.lit (.int .u8 n),[])
 | _=>none
theorem byteE_mk (n:Int):byteE (.int .u8 n)=some (.lit (.int .u8 n),[]):=rfl
theorem byteE_inv {v:Value} {n:Int} {ps:List MemPlace} (h:byteE v=some (.lit (.int .u8 n),ps)):v=.int .u8 n:=by
 unfold byteE at h
 split at h
 · rename_i m
   have h1:=congrArg (fun x:DataW Unit×List MemPlace=>x.1) (Option.some.inj h)
   simp only [DataW.lit.injEq,Lit.int.injEq,true_and] at h1
   rw [h1]
 · cases h
def scalesD:DataW Unit:=((((DataW.map []).put (.int .i64 1) (.lit (.int .u8 0))).put (.int .i64 2) (.lit (.int .u8 1))).put (.int .i64 4) (.lit (.int .u8 2))).put (.int .i64 8) (.lit (.int .u8 3))
set_option maxHeartbeats 4000000 in
theorem scales_any (w:World):Calls Tryz.prog 172 #[] w fun e w'=>e=.returned (.map (some w.heap.size))∧w'.ownsMap Tryz.prog 3 byteE w.heap.size 4 scalesD∧Below w.heap.size w w':=by
 have HM:=Lh (World.ownsMap_made w Tryz.prog 3 byteE)
 have HG:=Lh ((Below.refl w.heap.size w).alloc (Nat.le_refl _) (.map #[] 0))
 have hmm:=@run_makeMap Tryz.prog
 go_enter Tryz.func172,Tryz.ntmps172
 go_wp2_with (first
   | (refine wpList_insert_in _ rfl _ _ _ 216 rfl 3 5 keyedI Tryz.underlying216 byteE w.heap.size _ _ rfl HM.out (by unfold maxLen;decide) _ _ _ rfl rfl (Go.Maps.keyOf_int_mk Tryz.underlying3 (by decide)) _ _ (byteE_mk _) ?_;intro w1 hm1 ht1;have HM:=Lh hm1;have HG:=Lh (HG.out.grown ht1.grown (by have:=HG.out.size;omega) (fun j e=>by cases e;exact Nat.le_refl _));clear hm1 ht1)
   | go_in)
 go_ret
 exact ⟨rfl,HM.out,HG.out⟩
theorem infoB8:(Tryz.prog.info? 5).map (fun i=>i.zero)=some (some (.int .u8 0)):=by kernel_rfl
theorem scale_look {w:World} {b n:Nat} (hown:w.ownsMap Tryz.prog 3 byteE b n scalesD) {s:Int} (hs:s=1∨s=2∨s=4∨s=8):(Instr.lookup 216 (.map (some b)) (.int .i64 s) false).run Tryz.prog w=.ok (.int .u8 (scaleF s:Nat)) w:=by
 have hz:(zeroValue 5).run Tryz.prog w=.ok (.int .u8 0) w:=by
   obtain ⟨i0,hi,hz0⟩:=Option.map_eq_some_iff.1 infoB8
   simp [zeroValue,typeInfo,hi,hz0]
 have hk:(Lit.int .i64 s).wf=true:=by rcases hs with rfl | rfl | rfl | rfl <;> decide
 obtain ⟨v,ps,hrun,hv⟩:=hown.lookup keyedI Tryz.underlying216 hz (zd:=.lit (.int .u8 0)) (zp:=[]) rfl (Go.Maps.keyOf_int_mk Tryz.underlying3 hk)
 have e:scalesD.atKey (.int .i64 s) (.lit (.int .u8 0))=.lit (.int .u8 (scaleF s:Nat)):=by
   rcases hs with rfl | rfl | rfl | rfl <;> kernel_rfl
 rw [e] at hv
 rw [byteE_inv hv] at hrun
 exact hrun
end Go.Proofs.YtocndimihokcmaaGreat
namespace Go.Proofs.YtocndimihokcmaaGreat
open Go.RowKit
set_option maxRecDepth 100000
open Go.Maps (Keyed)
open Go.Maps
def wayV (c m:Int) (N:Nat):Value:=.agg #[.int .u8 c,.int .u8 m,.func (.func N) #[] #[]]
def wayN (c m:Int) (N:Nat):DataW Unit:=.lit (.int .i64 (c+256*m+65536*N))
def wayE (v:Value):Option (DataW Unit×List MemPlace):=match v with
 | .agg cs=>match cs.toList with
   | [.int .u8 c,.int .u8 m,.func (.func N) a b]=>if (a.size=0∧b.size=0)∧(0≤c∧c < 256)∧(0≤m∧m < 256) then some (.lit (.int .i64 (c+256*m+65536*N)),[]) else none
   | [.int .u8 _,.int .u8 _,.nilFunc]=>some (.lit (.int .i64 (-1)),[])
   | _=>none
 | _=>none
theorem wayE_mk (c m:Int) (N:Nat) (hc:0≤c∧c < 256) (hm:0≤m∧m < 256):wayE (.agg #[.int .u8 c,.int .u8 m,.func (.func N) #[] #[]])=some (wayN c m N,[]):=by
 unfold wayE wayN
 simp only
 rw [if_pos ⟨⟨rfl,rfl⟩,hc,hm⟩]
theorem wayE_inv {v:Value} {c m:Int} {N:Nat} {ps:List MemPlace} (hc:0≤c∧c < 256) (hm:0≤m∧m < 256) (h:wayE v=some (wayN c m N,ps)):v=wayV c m N:=by
 unfold wayE at h
 split at h
 · rename_i cs
   split at h
   · rename_i c' m' N' a b hcs
     split at h
     · rename_i hx
       obtain ⟨⟨h1,h2⟩,⟨h3,h4⟩,⟨h5,h6⟩⟩:=hx
       have e:=congrArg (fun x:DataW Unit×List MemPlace=>x.1) (Option.some.inj h)
       simp only [wayN,DataW.lit.injEq,Lit.int.injEq,true_and] at e
       have e0:(m' - m)+256*((N':Int) - N)=0:=by omega
       have e1:c'=c:=by omega
       have e2:m'=m:=by omega
       have e3:N'=N:=Int.ofNat.inj (show (N':Int)=(N:Int) by omega)
       have ea:a=#[]:=Array.eq_empty_of_size_eq_zero h1
       have eb:b=#[]:=Array.eq_empty_of_size_eq_zero h2
       subst e1 e2 e3 ea eb
       unfold wayV
       rw [←Array.toArray_toList (xs:=cs),hcs]
     · cases h
   · have e:=congrArg (fun x:DataW Unit×List MemPlace=>x.1) (Option.some.inj h)
     simp only [wayN,DataW.lit.injEq,Lit.int.injEq,true_and] at e
     omega
   · cases h
 · cases h
def waysD:DataW Unit:=(((((((((((((((((((((((((((((((((DataW.map []).put (.int .i64 1) (wayN 137 0 101)).put (.int .i64 6) (wayN 1 0 101)).put (.int .i64 7) (wayN 17 0 101)).put (.int .i64 8) (wayN 41 0 101)).put (.int .i64 9) (wayN 25 0 101)).put (.int .i64 10) (wayN 33 0 101)).put (.int .i64 11) (wayN 9 0 101)).put (.int .i64 12) (wayN 49 0 101)).put (.int .i64 13) (wayN 57 0 101)).put (.int .i64 14) (wayN 133 0 101)).put (.int .i64 2) (wayN 184 0 102)).put (.int .i64 3) (wayN 139 0 103)).put (.int .i64 4) (wayN 137 0 104)).put (.int .i64 5) (wayN 141 0 103)).put (.int .i64 15) (wayN 129 0 105)).put (.int .i64 16) (wayN 129 4 105)).put (.int .i64 17) (wayN 129 5 105)).put (.int .i64 18) (wayN 129 7 105)).put (.int .i64 19) (wayN 196 246 106)).put (.int .i64 20) (wayN 102 246 107)).put (.int .i64 21) (wayN 243 246 107)).put (.int .i64 22) (wayN 247 3 108)).put (.int .i64 23) (wayN 247 2 108)).put (.int .i64 24) (wayN 193 4 109)).put (.int .i64 25) (wayN 193 5 109)).put (.int .i64 26) (wayN 15 66 110)).put (.int .i64 27) (wayN 15 69 110)).put (.int .i64 28) (wayN 80 0 111)).put (.int .i64 29) (wayN 88 0 111)).put (.int .i64 30) (wayN 233 0 112)).put (.int .i64 31) (wayN 15 133 112)).put (.int .i64 32) (wayN 15 130 112)).put (.int .i64 33) (wayN 195 0 113)
theorem ins_way {ops:Array Oper} {rest:List Oper} {o:Oper} {a:Act} {Q:Exit→Act→World→Prop} {w:World} {b n:Nat} {D:DataW Unit} (hown:w.ownsMap Tryz.prog 3 wayE b n D) {m x v:Operand} {c mm op:Int} {N:Nat} (hn:n < 1000) (hg:o.guard=none) (hop:o.op=.insert 144 m x v)
   (hm:a.eval m=.map (some b)) (hx:a.eval x=.int .i64 op) (hv:a.eval v=wayV c mm N) (hk:(Lit.int .i64 op).wf=true) (hc:0≤c∧c < 256) (hmm:0≤mm∧mm < 256)
   (hK:∀ w',w'.ownsMap Tryz.prog 3 wayE b (n+1) (D.put (.int .i64 op) (wayN c mm N))→w.mapTurned w' b→wpList Tryz.prog ops Q rest (a.put o.dst undef) w'):wpList Tryz.prog ops Q (o :: rest) a w :=
 wpList_insert_in w hg m x v 144 hop 3 143 keyedI Tryz.underlying144 wayE b n D hm hown (by unfold maxLen;omega) _ _ _ hx hv (Go.Maps.keyOf_int_mk Tryz.underlying3 hk) _ _ (wayE_mk c mm N hc hmm) hK
set_option maxHeartbeats 8000000 in
theorem ways_any (w:World):Calls Tryz.prog 76 #[] w fun e w'=>e=.returned (.map (some w.heap.size))∧w'.ownsMap Tryz.prog 3 wayE w.heap.size 33 waysD∧Below w.heap.size w w':=by
 have HM:=Lh (World.ownsMap_made w Tryz.prog 3 wayE)
 have HG:=Lh ((Below.refl w.heap.size w).alloc (Nat.le_refl _) (.map #[] 0))
 have hmm:=@run_makeMap Tryz.prog
 go_enter Tryz.func76,Tryz.ntmps76
 go_upto_region 1 with go_in
 refine wp_region_lit ?_
 repeat (first
   | (apply ins_way HM.out;(· decide);(· rfl);(· rfl);(· rfl);(· rfl);(· rfl);(· decide);(· decide);(· decide);(intro w1 hm1 ht1;(try dsimp only [Act.put]);have HM:=Lh hm1;have HG:=Lh (HG.out.grown ht1.grown (by have:=HG.out.size;omega) (fun j e=>by cases e;exact Nat.le_refl _));clear hm1 ht1))
   | go_step)
 go_wp2
 go_ret
 exact ⟨rfl,HM.out,HG.out⟩
theorem infoWay:(Tryz.prog.info? 143).map (fun i=>i.zero)=some (some (.agg #[.int .u8 0,.int .u8 0,.nilFunc])):=by kernel_rfl
theorem way_look {w:World} {b n N:Nat} {c m op:Int} (hown:w.ownsMap Tryz.prog 3 wayE b n waysD) (hk:(Lit.int .i64 op).wf=true) (hc:0≤c∧c < 256) (hm:0≤m∧m < 256) (e:waysD.atKey (.int .i64 op) (.lit (.int .i64 (-1)))=wayN c m N):(Instr.lookup 144 (.map (some b)) (.int .i64 op) false).run Tryz.prog w=.ok (wayV c m N) w:=by
 have hz:(zeroValue 143).run Tryz.prog w=.ok (.agg #[.int .u8 0,.int .u8 0,.nilFunc]) w:=by
   obtain ⟨i0,hi,hz0⟩:=Option.map_eq_some_iff.1 infoWay
   simp [zeroValue,typeInfo,hi,hz0]
 obtain ⟨v,ps,hrun,hv⟩:=hown.lookup keyedI Tryz.underlying144 hz (zd:=.lit (.int .i64 (-1))) (zp:=[]) rfl (Go.Maps.keyOf_int_mk Tryz.underlying3 hk)
 rw [e] at hv
 rw [wayE_inv hc hm hv] at hrun
 exact hrun
theorem way_1:waysD.atKey (.int .i64 1) (.lit (.int .i64 (-1)))=wayN 137 0 101:=by kernel_rfl
theorem way_6:waysD.atKey (.int .i64 6) (.lit (.int .i64 (-1)))=wayN 1 0 101:=by kernel_rfl
theorem way_7:waysD.atKey (.int .i64 7) (.lit (.int .i64 (-1)))=wayN 17 0 101:=by kernel_rfl
theorem way_8:waysD.atKey (.int .i64 8) (.lit (.int .i64 (-1)))=wayN 41 0 101:=by kernel_rfl
theorem way_9:waysD.atKey (.int .i64 9) (.lit (.int .i64 (-1)))=wayN 25 0 101:=by kernel_rfl
theorem way_10:waysD.atKey (.int .i64 10) (.lit (.int .i64 (-1)))=wayN 33 0 101:=by kernel_rfl
theorem way_11:waysD.atKey (.int .i64 11) (.lit (.int .i64 (-1)))=wayN 9 0 101:=by kernel_rfl
theorem way_12:waysD.atKey (.int .i64 12) (.lit (.int .i64 (-1)))=wayN 49 0 101:=by kernel_rfl
theorem way_13:waysD.atKey (.int .i64 13) (.lit (.int .i64 (-1)))=wayN 57 0 101:=by kernel_rfl
theorem way_14:waysD.atKey (.int .i64 14) (.lit (.int .i64 (-1)))=wayN 133 0 101:=by kernel_rfl
theorem way_2:waysD.atKey (.int .i64 2) (.lit (.int .i64 (-1)))=wayN 184 0 102:=by kernel_rfl
theorem way_3:waysD.atKey (.int .i64 3) (.lit (.int .i64 (-1)))=wayN 139 0 103:=by kernel_rfl
theorem way_4:waysD.atKey (.int .i64 4) (.lit (.int .i64 (-1)))=wayN 137 0 104:=by kernel_rfl
theorem way_5:waysD.atKey (.int .i64 5) (.lit (.int .i64 (-1)))=wayN 141 0 103:=by kernel_rfl
theorem way_15:waysD.atKey (.int .i64 15) (.lit (.int .i64 (-1)))=wayN 129 0 105:=by kernel_rfl
theorem way_16:waysD.atKey (.int .i64 16) (.lit (.int .i64 (-1)))=wayN 129 4 105:=by kernel_rfl
theorem way_17:waysD.atKey (.int .i64 17) (.lit (.int .i64 (-1)))=wayN 129 5 105:=by kernel_rfl
theorem way_18:waysD.atKey (.int .i64 18) (.lit (.int .i64 (-1)))=wayN 129 7 105:=by kernel_rfl
theorem way_19:waysD.atKey (.int .i64 19) (.lit (.int .i64 (-1)))=wayN 196 246 106:=by kernel_rfl
theorem way_20:waysD.atKey (.int .i64 20) (.lit (.int .i64 (-1)))=wayN 102 246 107:=by kernel_rfl
theorem way_21:waysD.atKey (.int .i64 21) (.lit (.int .i64 (-1)))=wayN 243 246 107:=by kernel_rfl
theorem way_22:waysD.atKey (.int .i64 22) (.lit (.int .i64 (-1)))=wayN 247 3 108:=by kernel_rfl
theorem way_23:waysD.atKey (.int .i64 23) (.lit (.int .i64 (-1)))=wayN 247 2 108:=by kernel_rfl
theorem way_24:waysD.atKey (.int .i64 24) (.lit (.int .i64 (-1)))=wayN 193 4 109:=by kernel_rfl
theorem way_25:waysD.atKey (.int .i64 25) (.lit (.int .i64 (-1)))=wayN 193 5 109:=by kernel_rfl
theorem way_26:waysD.atKey (.int .i64 26) (.lit (.int .i64 (-1)))=wayN 15 66 110:=by kernel_rfl
theorem way_27:waysD.atKey (.int .i64 27) (.lit (.int .i64 (-1)))=wayN 15 69 110:=by kernel_rfl
theorem way_28:waysD.atKey (.int .i64 28) (.lit (.int .i64 (-1)))=wayN 80 0 111:=by kernel_rfl
theorem way_29:waysD.atKey (.int .i64 29) (.lit (.int .i64 (-1)))=wayN 88 0 111:=by kernel_rfl
theorem way_30:waysD.atKey (.int .i64 30) (.lit (.int .i64 (-1)))=wayN 233 0 112:=by kernel_rfl
theorem way_31:waysD.atKey (.int .i64 31) (.lit (.int .i64 (-1)))=wayN 15 133 112:=by kernel_rfl
theorem way_32:waysD.atKey (.int .i64 32) (.lit (.int .i64 (-1)))=wayN 15 130 112:=by kernel_rfl
theorem way_33:waysD.atKey (.int .i64 33) (.lit (.int .i64 (-1)))=wayN 195 0 113:=by kernel_rfl
end Go.Proofs.YtocndimihokcmaaGreat
namespace Go.Proofs.YtocndimihokcmaaGreat
open Go.RowKit
def findR (n:Nat):Code→Option Code
 | .region id ops d=>if id=n then some (.region id ops d) else none
 | .seq a b=>match findR n a with
   | some c=>some c
   | none=>findR n b
 | .cond _ a b=>match findR n a with
   | some c=>some c
   | none=>findR n b
 | .block _ c=>findR n c
 | .loop c=>findR n c
 | .scope c=>findR n c
 | .rangeFunc _ _ a b=>match findR n a with
   | some c=>some c
   | none=>findR n b
 | _=>none
noncomputable def partR (f:Func) (n:Nat):Code:=((f.body.bind (findR n)).getD .skip)
theorem wp_code {P:Program} {c d:Code} {Q:Exit→Act→World→Prop} {a:Act} {w:World} (h:c=d) (k:c.wp P Q a w):d.wp P Q a w:=h▸k
end Go.Proofs.YtocndimihokcmaaGreat
namespace Go.Proofs.YtocndimihokcmaaGreat
theorem rex_lt {m x l:Int} (hm:m < 16) (hx:x < 16) (hl:l < 16):72≤rexF m x l∧rexF m x l < 80:=by
 have:=hi3_lt hm;have:=hi3_lt hx;have:=hi3_lt hl
 unfold rexF;omega
theorem rex_mid {m x l:Int} (hm:m < 16) (hx:x < 16) (hl:l < 16):rexF m x l / 4 % 2=hi3 m:=by
 have:=hi3_lt hm;have:=hi3_lt hx;have:=hi3_lt hl
 unfold rexF;omega
theorem rex_idx {m x l:Int} (hm:m < 16) (hx:x < 16) (hl:l < 16):rexF m x l / 2 % 2=hi3 x:=by
 have:=hi3_lt hm;have:=hi3_lt hx;have:=hi3_lt hl
 unfold rexF;omega
theorem rex_last {m x l:Int} (hm:m < 16) (hx:x < 16) (hl:l < 16):rexF m x l % 2=hi3 l:=by
 have:=hi3_lt hm;have:=hi3_lt hx;have:=hi3_lt hl
 unfold rexF;omega
theorem hl_reg {r:Int} (h:0≤r) (h2:r < 16):((lo3 r+hi3 r*8:Nat):Int)=r:=by
 unfold lo3 hi3;omega
theorem mid_rex {m x l:Int} (hm:0≤m∧m < 16) (hx:x < 16) (hl:l < 16) (q y:Nat) (hy:y < 8):((midC (rexF m x l) (64*q+8*lo3 m+y):Nat):Int)=m:=by
 unfold midC
 rw [rex_mid hm.2 hx hl]
 have h1:=lo3_lt m
 rw [show (64*q+8*lo3 m+y) / 8 % 8=lo3 m by omega]
 exact hl_reg hm.1 hm.2
theorem last_rex {m x l:Int} (hm:m < 16) (hx:x < 16) (hl:0≤l∧l < 16) (q:Nat):((lastC (rexF m x l) (8*q+lo3 l):Nat):Int)=l:=by
 unfold lastC
 rw [rex_last hm hx hl.2]
 have h1:=lo3_lt l
 rw [show (8*q+lo3 l) % 8=lo3 l by omega]
 exact hl_reg hl.1 hl.2
theorem both_mid {m x l n:Int} (hm:0≤m∧m < 16) (hx:x < 16) (hl:l < 16):((midC (rexF m x l) (bothF m n):Nat):Int)=m:=by
 unfold bothF
 exact mid_rex hm hx hl 3 _ (lo3_lt n)
theorem both_last {m x l n:Int} (hm:m < 16) (hx:x < 16) (hl:0≤l∧l < 16):((lastC (rexF m x l) (bothF n l):Nat):Int)=l:=by
 unfold bothF
 rw [show 192+8*lo3 n+lo3 l=8*(24+lo3 n)+lo3 l by omega]
 exact last_rex hm hx hl _
theorem both_q (n l:Int):bothF n l / 8 % 8=lo3 n∧bothF n l / 64=3∧bothF n l < 256∧192≤bothF n l:=by
 have:=lo3_lt n;have:=lo3_lt l
 unfold bothF;omega
structure PlcOk (i:Ins):Prop where
 base:0≤i.base∧i.base < 16
 idx:(i.index = -1∧i.scale=1)∨(0≤i.index∧i.index < 16∧i.index≠4∧(i.scale=1∨i.scale=2∨i.scale=4∨i.scale=8))
 disp:-2147483648≤i.disp∧i.disp≤2147483647
def plcOf (i:Ins):Plc:=⟨i.base,i.index,i.scale,i.disp⟩
theorem PlcOk.lt {i:Ins} (h:PlcOk i):i.index < 16:=by
 rcases h.idx with ⟨h1,_⟩ | ⟨_,h1,_⟩ <;> omega
theorem modF_cases (i:Ins):(modF i=0∧i.disp=0)∨(modF i=1∧-128≤i.disp∧i.disp < 128)∨modF i=2:=by
 unfold modF
 split
 · rename_i h;exact .inl ⟨rfl,h.1⟩
 · split
   · rename_i h;exact .inr (.inl ⟨rfl,h⟩)
   · exact .inr (.inr rfl)
theorem disp_dec {i:Ins} (h:PlcOk i) (r rm:Nat) (hr:rm / 64=modF i) (c:Cur) (rest:List Nat) (p:Plc) (h1:place1 r rm c=(p,(littleF i.disp (dispN (modF i))++rest,false))) (hb:p.base=i.base) (hi:p.index=i.index) (hs:p.scale=i.scale) (hd:p.disp=0):placeC r rm c=(plcOf i,(rest,false)):=by
 unfold placeC
 rw [h1,hr]
 obtain ⟨pb,pi,ps,pd⟩:=p
 simp only at hb hi hs hd
 subst hb;subst hi;subst hs;subst hd
 have hdp:=h.disp
 rcases modF_cases i with ⟨e,e0⟩ | ⟨e,e1,e2⟩ | e
 · rw [e]
   simp only [show ¬ ((0:Nat)=1) by decide,show ¬ ((0:Nat)=2) by decide,if_false]
   unfold plcOf
   rw [e0]
   rfl
 · rw [e]
   simp only [if_true]
   rw [show dispN 1=1 from rfl,num_little 1 i.disp rest false (by omega) (by omega)]
   rfl
 · rw [e]
   simp only [show ¬ ((2:Nat)=1) by decide,if_true,if_false]
   rw [show dispN 2=4 from rfl,num_little 4 i.disp rest false (by omega) (by omega)]
   rfl
theorem mod_lt (i:Ins):modF i < 3:=by
 rcases modF_cases i with ⟨e,_⟩ | ⟨e,_⟩ | e <;> omega
theorem scale_dec {s:Int} (h:s=1∨s=2∨s=4∨s=8):scaleF s < 4∧((2 ^ scaleF s:Nat):Int)=s:=by
 rcases h with rfl | rfl | rfl | rfl <;> exact ⟨by decide,rfl⟩
theorem place_dec {i:Ins} (h:PlcOk i) {m:Int} (hm:0≤m∧m < 16):∃ (rm:Nat) (tl:List Nat),placeY m i=rm :: tl∧rm < 192∧((midC (rexF m i.index i.base) rm:Nat):Int)=m∧∀ rest:List Nat,placeC (rexF m i.index i.base) rm (tl++rest,false)=(plcOf i,(rest,false)):=by
 have hb:=h.base
 have hx:=h.lt
 have h1:=mod_lt i
 have h2:=lo3_lt m
 have h3:=lo3_lt i.base
 by_cases hs:i.index≠-1∨lo3 i.base=4
 · refine ⟨64*modF i+8*lo3 m+4,(64*scaleF i.scale+8*(if i.index = -1 then 4 else lo3 i.index)+lo3 i.base) :: littleF i.disp (dispN (modF i)),?_,by omega,mid_rex hm hx hb.2 _ 4 (by decide),fun rest=>?_⟩
   · unfold placeY;rw [if_pos hs];rfl
   have hlast:∀ q:Nat,((lastC (rexF m i.index i.base) (8*q+lo3 i.base):Nat):Int)=i.base:=fun q=>last_rex hm.2 hx hb q
   rcases h.idx with ⟨e1,e2⟩ | ⟨e0,e1,e2,e3⟩
   · refine disp_dec h _ _ (by omega) _ rest ⟨i.base,-1,1,0⟩ ?_ rfl e1.symm e2.symm rfl
     unfold place1
     rw [if_pos (by omega),if_pos e1]
     simp only [List.cons_append,byteC]
     unfold sibC
     have hq:64*scaleF i.scale+8*4+lo3 i.base=8*(8*scaleF i.scale+4)+lo3 i.base:=by omega
     rw [hq,if_pos,hlast]
     unfold idxC
     rw [rex_idx hm.2 hx hb.2,e1]
     rw [show (8*(8*scaleF i.scale+4)+lo3 i.base) / 8 % 8=4 by omega]
     rfl
   · obtain ⟨s1,s2⟩:=scale_dec e3
     have h4:=lo3_lt i.index
     refine disp_dec h _ _ (by omega) _ rest ⟨i.base,i.index,i.scale,0⟩ ?_ rfl rfl rfl rfl
     unfold place1
     rw [if_pos (by omega),if_neg (by omega)]
     simp only [List.cons_append,byteC]
     unfold sibC
     have hq:64*scaleF i.scale+8*lo3 i.index+lo3 i.base=8*(8*scaleF i.scale+lo3 i.index)+lo3 i.base:=by omega
     have hi:((idxC (rexF m i.index i.base) (8*(8*scaleF i.scale+lo3 i.index)+lo3 i.base):Nat):Int)=i.index:=by
       unfold idxC
       rw [rex_idx hm.2 hx hb.2,show (8*(8*scaleF i.scale+lo3 i.index)+lo3 i.base) / 8 % 8=lo3 i.index by omega]
       exact hl_reg e0 e1
     rw [hq,if_neg (by omega),hlast,hi,show (8*(8*scaleF i.scale+lo3 i.index)+lo3 i.base) / 64=scaleF i.scale by omega,s2]
 · have hs1:i.index = -1:=Decidable.byContradiction fun e=>hs (.inl e)
   have hs2:lo3 i.base≠4:=fun e=>hs (.inr e)
   refine ⟨64*modF i+8*lo3 m+lo3 i.base,littleF i.disp (dispN (modF i)),?_,by omega,mid_rex hm hx hb.2 _ _ h3,fun rest=>?_⟩
   · unfold placeY;rw [if_neg hs];rfl
   rcases h.idx with ⟨e1,e2⟩ | ⟨e0,e1,e2,e3⟩
   · refine disp_dec h _ _ (by omega) _ rest ⟨i.base,-1,1,0⟩ ?_ rfl e1.symm e2.symm rfl
     unfold place1
     rw [if_neg (by omega),show 64*modF i+8*lo3 m+lo3 i.base=8*(8*modF i+lo3 m)+lo3 i.base by omega,last_rex hm.2 hx hb _]
   · omega
theorem byteC_cons (b:Nat) (t:List Nat) (l:Bool):byteC (b :: t,l)=(b,(t,l)):=rfl
theorem any_wide {r:Nat} (h:72≤r) (h2:r < 80) (t:List Nat) (f:Nat):anyC (f+1) (r :: t,false)=wideC r (t,false):=by
 have h1:¬ r=195:=by omega
 have h3:¬ r / 8=10:=by omega
 have h4:¬ r / 8=11:=by omega
 have h5:¬ r=65:=by omega
 have h6:¬ r=233:=by omega
 have h7:¬ r=15:=by omega
 have h8:¬ r=196:=by omega
 have h9:¬ (r=102∨r=243):=by omega
 unfold anyC
 simp only [byteC_cons,h1,h3,h4,h5,h6,h7,h8,h9,if_false]
theorem rany_wide {r:Nat} (h:72≤r) (h2:r < 80) (t:List Nat):ranyC (r :: t,false)=rwideC r (t,false):=by
 have h1:¬ r=195:=by omega
 have h3:¬ (80≤r∧r < 88):=by omega
 have h4:¬ (88≤r∧r < 96):=by omega
 have h5:¬ r=65:=by omega
 have h6:¬ r=233:=by omega
 have h7:¬ r=15:=by omega
 have h8:¬ r=196:=by omega
 have h9:¬ (r=102∨r=243):=by omega
 unfold ranyC
 simp only [byteC_cons,h1,h3,h4,h5,h6,h7,h8,h9,if_false]
theorem dec_rr {op s d:Int} (hs:0≤s∧s < 16) (hd:0≤d∧d < 16) (hop:op=1∨(6≤op∧op≤14)) (rest:List Nat) :
   wideC (rexF s 0 d) (rrF op :: bothF s d :: rest,false)=(insR op d s 0 0,(rest,false))∧rwideC (rexF s 0 d) (rrF op :: bothF s d :: rest,false)=(insR op d s 0 0,(rest,false)):=by
 obtain ⟨q1,q2,q3,q4⟩:=both_q s d
 have m1:=both_mid (n:=d) hs (show (0:Int) < 16 by decide) hd.2
 have m2:=both_last (n:=s) hs.2 (show (0:Int) < 16 by decide) hd
 rcases (by omega:op=1∨op=6∨op=7∨op=8∨op=9∨op=10∨op=11∨op=12∨op=13∨op=14) with rfl | rfl | rfl | rfl | rfl | rfl | rfl | rfl | rfl | rfl
 · constructor
   · unfold wideC
     simp only [byteC,show rrF 1=137 from rfl,show pairC 137=0 from rfl,ne_eq,not_true_eq_false,if_false,show ¬ ((137:Nat)=139∨(137:Nat)=141) by decide,if_true]
     rw [if_pos q2,m1,m2]
   · unfold rwideC
     simp only [byteC,show rrF 1=137 from rfl,show ¬ (184≤137∧137 < 192) by decide,show ¬ ((137:Nat)=15) by decide,if_false]
     rw [if_neg (by omega)]
     simp only [show ¬ ((137:Nat)=129) by decide,show ¬ ((137:Nat)=247) by decide,show ¬ ((137:Nat)=193) by decide,false_and,if_false,if_true]
     rw [m1,m2]
 all_goals
   constructor
   · unfold wideC
     simp only [byteC,rrF,pairC]
     simp
     rw [m1,m2]
   · unfold rwideC
     simp only [byteC,rrF,pairC]
     simp
     rw [m1,m2]
theorem dec_imm {d imm:Int} (hd:0≤d∧d < 16) (hi:-9223372036854775808≤imm∧imm≤9223372036854775807) (rest:List Nat) :
   wideC (rexF 0 0 d) ((184+lo3 d) :: (littleF imm 8++rest),false)=(insR 2 d 0 0 imm,(rest,false))∧rwideC (rexF 0 0 d) ((184+lo3 d) :: (littleF imm 8++rest),false)=(insR 2 d 0 0 imm,(rest,false)):=by
 have h1:=lo3_lt d
 have h2:((lastC (rexF 0 0 d) (184+lo3 d):Nat):Int)=d:=last_rex (by decide) (by decide) hd 23
 have h3:=num_little 8 imm rest false (by omega) (by omega)
 generalize hb:184+lo3 d=b at *
 have c1:¬ pairC b≠0:=by
   unfold pairC
   repeat rw [if_neg (by omega)]
   decide
 have c2:¬ (b=139∨b=141):=by omega
 have c3:¬ b=137:=by omega
 have c4:b / 8=23:=by omega
 have c5:184≤b∧b < 192:=by omega
 constructor
 · unfold wideC
   simp only [byteC_cons,c1,c2,c3,c4,if_false,if_true,h3,h2]
 · unfold rwideC
   simp only [byteC_cons,c5,if_true,h3,h2,and_self]
theorem dec_place {i:Ins} {op m:Int} {b:Nat} (h:PlcOk i) (hm:0≤m∧m < 16) (hb:(b=139∧op=3)∨(b=141∧op=5)∨(b=137∧op=4)) (rest:List Nat) :
   wideC (rexF m i.index i.base) (b :: (placeY m i++rest),false)=((if op=4 then insP 4 0 m (plcOf i) else insP op m 0 (plcOf i)),(rest,false))∧rwideC (rexF m i.index i.base) (b :: (placeY m i++rest),false)=((if op=4 then insP 4 0 m (plcOf i) else insP op m 0 (plcOf i)),(rest,false)):=by
 obtain ⟨rm,tl,e1,e2,e3,e4⟩:=place_dec h hm
 have e4:=e4 rest
 rw [e1]
 generalize rexF m i.index i.base=r at *
 generalize plcOf i=p at *
 have q1:¬ rm / 64=3:=by omega
 rcases hb with ⟨rfl,rfl⟩ | ⟨rfl,rfl⟩ | ⟨rfl,rfl⟩
 · constructor
   · unfold wideC
     simp [byteC_cons,pairC,e4,e3]
   · unfold rwideC
     simp [byteC_cons,e4,e3]
 · constructor
   · unfold wideC
     simp [byteC_cons,pairC,e4,e3]
   · unfold rwideC
     simp [byteC_cons,e4,e3]
 · constructor
   · unfold wideC
     simp [byteC_cons,pairC,e4,e3,q1]
   · unfold rwideC
     simp [byteC_cons,e4,e3,e2]
theorem dec_group {d imm op:Int} {b m k:Nat} (hd:0≤d∧d < 16) (hm:m < 8) (hb:b=129∨b=247∨b=193) (hg:groupC b m=(op,k)) (hop:op≠0) (tl rest:List Nat) (ht:(k=0∧tl=[]∧imm=0)∨(0 < k∧numC k (tl++rest,false)=(imm,(rest,false)))) :
   wideC (rexF 0 0 d) (b :: bothF m d :: (tl++rest),false)=(insR op d 0 0 imm,(rest,false))∧rwideC (rexF 0 0 d) (b :: bothF m d :: (tl++rest),false)=(insR op d 0 0 imm,(rest,false)):=by
 have h2:=both_last (n:=m) (show (0:Int) < 16 by decide) (show (0:Int) < 16 by decide) hd
 obtain ⟨q1,q2,q3,q4⟩:=both_q m d
 have h3:midC (rexF 0 0 d) (bothF m d)=m:=by
   unfold midC
   rw [q1,rex_mid (by decide) (by decide) hd.2,lo3_nat]
   have:hi3 0=0:=rfl
   omega
 have h4:bothF m d / 8 % 8=m:=by rw [q1,lo3_nat];omega
 have h5:¬ bothF m d < 192:=by omega
 generalize bothF m d=rm at *
 generalize rexF 0 0 d=r at *
 rcases hb with rfl | rfl | rfl
 · rcases (by omega:m=0∨m=1∨m=2∨m=3∨m=4∨m=5∨m=6∨m=7) with rfl | rfl | rfl | rfl | rfl | rfl | rfl | rfl <;> simp [groupC] at hg <;> obtain ⟨rfl,rfl⟩:=hg <;> try exact absurd rfl hop
   all_goals
     obtain ⟨h,_⟩ | ⟨_,ht⟩:=ht
     · cases h
     constructor
     · unfold wideC
       simp [byteC_cons,pairC,h2,h4,groupC,ht]
     · unfold rwideC
       simp [byteC_cons,h2,h3,ht]
 · rcases (by omega:m=0∨m=1∨m=2∨m=3∨m=4∨m=5∨m=6∨m=7) with rfl | rfl | rfl | rfl | rfl | rfl | rfl | rfl <;> simp [groupC] at hg <;> obtain ⟨rfl,rfl⟩:=hg <;> try exact absurd rfl hop
   all_goals
     obtain ⟨_,rfl,rfl⟩ | ⟨h,_⟩:=ht
     rotate_left
     · cases h
     constructor
     · unfold wideC
       simp [byteC_cons,pairC,h2,h4,groupC]
     · unfold rwideC
       simp [byteC_cons,h2,h3]
 · rcases (by omega:m=0∨m=1∨m=2∨m=3∨m=4∨m=5∨m=6∨m=7) with rfl | rfl | rfl | rfl | rfl | rfl | rfl | rfl <;> simp [groupC] at hg <;> obtain ⟨rfl,rfl⟩:=hg <;> try exact absurd rfl hop
   all_goals
     obtain ⟨h,_⟩ | ⟨_,ht⟩:=ht
     · cases h
     constructor
     · unfold wideC
       simp [byteC_cons,pairC,h2,h4,groupC,ht]
     · unfold rwideC
       simp [byteC_cons,h2,h3,ht]
theorem dec_cmov {d s op:Int} {b:Nat} (hd:0≤d∧d < 16) (hs:0≤s∧s < 16) (hb:(b=66∧op=26)∨(b=69∧op=27)) (rest:List Nat) :
   wideC (rexF d 0 s) (15 :: b :: bothF d s :: rest,false)=(insR op d s 0 0,(rest,false))∧rwideC (rexF d 0 s) (15 :: b :: bothF d s :: rest,false)=(insR op d s 0 0,(rest,false)):=by
 have m1:=both_mid (n:=s) hd (show (0:Int) < 16 by decide) hs.2
 have m2:=both_last (n:=d) hd.2 (show (0:Int) < 16 by decide) hs
 rcases hb with ⟨rfl,rfl⟩ | ⟨rfl,rfl⟩
 · constructor
   · unfold wideC
     simp [byteC_cons,pairC,m1,m2]
   · unfold rwideC
     simp [byteC_cons,m1,m2]
 · constructor
   · unfold wideC
     simp [byteC_cons,pairC,m1,m2]
   · unfold rwideC
     simp [byteC_cons,m1,m2]
end Go.Proofs.YtocndimihokcmaaGreat
