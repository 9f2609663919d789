/- Part 19 of a claim; what it proves stands in its last text. -/
import Derived.Test.YtjbabpnepjhllaaGreatSx18
import Derived.Test.YtjbabpnepjhllaaGreatSx1
import Derived.Deep.DeepCutAuto
namespace Go.Proofs.YtjbabpnepjhllaaGreat
open Go.RowKit
set_option maxRecDepth 100000
def fiveV (o:KOp):Array Value:=#[.int .i64 o.d,.int .i64 o.e,.int .i64 o.a,.int .i64 o.b,.int .i64 o.c]
structure OneW (wx:World) (b g:Nat) (Av:Option Addr) (nv cv:Nat) (vs:List KVar) (o:KOp):Prop where
 box:OpBox wx b o
 lt:b < wx.heap.size
 arr:wx.heap[g]? = some (.cells (fiveV o) 90 (0,0))
 vars:KVarsAt wx (fun q=>q < wx.heap.size) (.slice Av nv cv) vs
theorem OneW.next {wx w':World} {b g:Nat} {Av:Option Addr} {nv cv:Nat} {vs:List KVar} {o:KOp} (h:OneW wx b g Av nv cv vs o) (hb:Below wx.heap.size wx w'):OneW w' b g Av nv cv vs o :=
 ⟨h.box.next hb h.lt,Nat.lt_of_lt_of_le h.lt hb.size,(hb.block g (lt_of_block h.arr)).trans h.arr,rows_next h.vars hb⟩
theorem OneW.cell {wx:World} {b g:Nat} {Av:Option Addr} {nv cv:Nat} {vs:List KVar} {o:KOp} (h:OneW wx b g Av nv cv vs o) {j:Nat} {v:Value} (hj:(fiveV o)[j]? = some v):wx.cell? ⟨g,j,none⟩=some v:=by
 simp only [World.cell?,h.arr]
 exact hj
theorem keep_blk' {w_ w':World} {g:Nat} {o:Obj} (h:w_.heap[g]? = some o) (hb:Below w_.heap.size w_ w'):w'.heap[g]? = some o:=(hb.block g (lt_of_block h)).trans h
def secL (vs:List KVar) (o:KOp):List Bool:=[(kHasD o.kind && (decide (2≤0) || (o.kind == 14))) && (varK vs o.d).secret,(kHasE o.kind && (decide (2≤1) || (o.kind == 14))) && (varK vs o.e).secret,(kHasA o.kind && (decide (2≤2) || (o.kind == 14))) && (varK vs o.a).secret,(kHasB o.kind && (decide (2≤3) || (o.kind == 14))) && (varK vs o.b).secret,(kHasC o.kind && (decide (2≤4) || (o.kind == 14))) && (varK vs o.c).secret]
theorem sany_next {l:List Bool} {k:Nat} {x b:Bool} (hb:b=(l.take k).any id) (hx:l[k]? = some x):(b || x)=(l.take (k+1)).any id:=by
 subst hb
 rw [List.take_add_one,hx]
 simp
theorem sec_eq {vs:List KVar} {o:KOp} {n:Nat} (h:partsK n o=true):(secL vs o).any id=secretK vs o:=by
 unfold partsK at h
 simp only [Bool.and_eq_true] at h
 obtain ⟨hd,he,ha,hb,hc⟩:=h
 have key:∀ {b:Bool} {x:Int},partK n b x=true→((b && (varK vs x).secret)=([x].filter fun v=>decide (0≤v)).any fun v=>(varK vs v).secret):=fun {b x} h=>by
   cases b
   · unfold partK at h
     have hx:x = -1:=by simpa using h
     subst hx
     simp
   · unfold partK thereK at h
     have hx:0≤x:=by
       simp only [if_true,Bool.and_eq_true,decide_eq_true_eq] at h
       exact h.1
     rw [List.filter_cons,if_pos (by simpa using hx)]
     simp
 have h3:∀ (p q:Int→Bool),([o.a,o.b,o.c].filter p).any q=(([o.a].filter p).any q || (([o.b].filter p).any q || ([o.c].filter p).any q)):=by
   intro p q
   simp only [List.filter_cons,List.filter_nil]
   split <;> split <;> split <;> simp
 unfold secretK takesK
 rw [List.any_append,h3,←key ha,←key hb,←key hc]
 simp only [secL,List.any_cons,List.any_nil,id,Bool.or_false,show decide (2≤0)=false from rfl,show decide (2≤1)=false from rfl,show decide (2≤2)=true from rfl,show decide (2≤3)=true from rfl,show decide (2≤4)=true from rfl,Bool.false_or,Bool.true_or,Bool.and_true]
 by_cases h14:o.kind=14
 · rw [if_pos h14,show (o.kind == 14)=true from beq_iff_eq.2 h14,show kHasD o.kind=true by rw [h14];rfl,show kHasE o.kind=true by rw [h14];rfl]
   simp only [List.any_cons,List.any_nil,Bool.or_false,Bool.true_and]
   generalize (varK vs o.d).secret=x1
   generalize (varK vs o.e).secret=x2
   generalize (kHasA o.kind && (varK vs o.a).secret)=x3
   generalize (kHasB o.kind && (varK vs o.b).secret)=x4
   generalize (kHasC o.kind && (varK vs o.c).secret)=x5
   cases x1 <;> cases x2 <;> cases x3 <;> cases x4 <;> cases x5 <;> rfl
 · rw [if_neg h14,show (o.kind == 14)=false from beq_eq_false_iff_ne.2 h14]
   simp
set_option maxHeartbeats 20000000 in
theorem rone_any (Av:Option Addr) (nv cv:Nat) (vs:List KVar) (o:KOp) (w:World) (F:Nat→Prop) (hv:KVarsAt w F (.slice Av nv cv) vs) (hF:∀ k,F k→k < w.heap.size) (hn:vs.length≤100000) :
   Calls Tryz.prog 34 #[.slice Av nv cv,.agg #[.int .i64 o.kind,.int .i64 o.d,.int .i64 o.e,.int .i64 o.a,.int .i64 o.b,.int .i64 o.c,.int .u64 o.imm]] w fun e w'=>e=.returned (.bool (oneK vs o))∧Below w.heap.size w w':=by
 have hnv:=(rows_len hv).1
 obtain ⟨W,hW⟩:∃ W,W=w.alloc (.cells #[.int .i64 o.kind,.int .i64 o.d,.int .i64 o.e,.int .i64 o.a,.int .i64 o.b,.int .i64 o.c,.int .u64 o.imm] 43):=⟨_,rfl⟩
 have hb:Below w.heap.size w W:=by rw [hW];exact (Below.refl _ _).alloc (Nat.le_refl _) _
 have hbk:W.heap[w.heap.size]? = some (.cells #[.int .i64 o.kind,.int .i64 o.d,.int .i64 o.e,.int .i64 o.a,.int .i64 o.b,.int .i64 o.c,.int .u64 o.imm] 43 (0,0)):=by rw [hW];exact heap_alloc_new w _
 have HBX:=Lh (OpBox.of hbk)
 have HLT:=Lh (lt_of_block hbk)
 have HW:=Lh hW
 have HB:=Lh hb
 have HVS:=Lh (show KVarsAt W (fun q=>q < W.heap.size) (.slice Av nv cv) vs from Rows.mono (Rows.keep hv (SameOn.of_below hb hF)) fun q hq=>Nat.lt_of_lt_of_le (hF q hq) hb.size)
 have HNV:=Lh hnv
 have n5:nv≤100000:=by omega
 clear hW hb hbk hv hF hn
 by_cases h17:o.kind=17
 · have HX:=Lh (show oneK vs o=needK nv o by unfold oneK;rw [if_pos h17,hnv])
   have d17:(o.kind == 17)=true:=by rw [beq_iff_eq];exact h17
   have HND:=Lh (fun w1=>rneed_any Av nv cv o w1)
   clear hnv h17
   go_enter Tryz.func34,Tryz.ntmps34
   go_upto_region 1 with (first | go_in)
   rw [←HW.out]
   clear HW
   have c0:=HBX.out.kind
   have c1:=HBX.out.d
   have c2:=HBX.out.e
   have c3:=HBX.out.a
   have c4:=HBX.out.b
   have c5:=HBX.out.c
   have c6:=HBX.out.imm
   go_wp2_with (first | ((with_reducible refine (HND.out _).mono ?_);rintro e w1 ⟨rfl,hb1⟩;have HB1:=Lh hb1;clear hb1) | go_in)
   go_ret
   exact ⟨ret_bool HX.out.symm,HB.out.trans (HB1.out.mono HB.out.size)⟩
 have d17:(o.kind == 17)=false:=beq_eq_false_iff_ne.2 h17
 have hx:oneK vs o=(decide (1≤o.kind∧o.kind≤16) && (numK o && (partsK nv o && (intoK vs (secretK vs o) o.d && (intoK vs (secretK vs o) o.e && ((decide (o.e < 0) || !(o.d == o.e)) && agreeK vs o)))))):=by
   unfold oneK
   rw [if_neg h17,←hnv,←Bool.and_assoc,←Bool.decide_and]
 have HX:=Lh hx
 have HSH:=Lh (fun w1=>rshape_any o.kind w1)
 have HNM:=Lh (fun w1=>rnumber_any o w1)
 obtain ⟨sh,hsh⟩:∃ q,q=(if 1≤o.kind∧o.kind≤16 then shapeK o.kind else -1):=⟨_,rfl⟩
 rw [←hsh] at HSH
 have HSV:=Lh hsh
 clear hsh
 clear h17 hnv hx
 go_enter Tryz.func34,Tryz.ntmps34
 go_upto_region 1 with (first | go_in)
 rw [←HW.out]
 clear HW
 have c0:=HBX.out.kind
 have c1:=HBX.out.d
 have c2:=HBX.out.e
 have c3:=HBX.out.a
 have c4:=HBX.out.b
 have c5:=HBX.out.c
 have c6:=HBX.out.imm
 go_upto_region 3 with fail
 go_cut [5,6] from 17 to 21 (fun a5 a6 wx=>∃ g:Nat,a5=.int .i64 sh∧a6=.pointer (some ⟨g,0,none⟩)∧OneW wx w.heap.size g Av nv cv vs o∧Below W.heap.size W wx)
 case first =>
   clear c0 c1 c2 c3 c4 c5 c6 d17
   obtain ⟨x0,hx0⟩:∃ q,q=W.drew:=⟨_,rfl⟩
   have hSx0:Below W.heap.size W x0:=by rw [hx0];exact (Below.refl _ _).drew
   refine wp_region_branch (Below W.heap.size W) (by kernel_rfl) (by kernel_rfl) (hx0▸hSx0) ?_
   rw [←hx0]
   clear hx0
   show runB _ _ _ _ 8 [0,1,2,3,4,5,6,7] _ _
   refine runB_at 0 (v:=?_) (by rfl) (by rfl) (by rfl) (by kernel_rfl) (by rfl) ?_ ?_
   rotate_left
   focus (intro w_ hw_;have hb_:=HBX.out.next hw_ HLT.out;have f0_:=hb_.kind;have f1_:=hb_.d;have f2_:=hb_.e;have f3_:=hb_.a;have f4_:=hb_.b;have f5_:=hb_.c;have f6_:=hb_.imm;go_simp;(try with_reducible rfl);done)
   (try dsimp only [Act.put])
   show runB _ _ _ _ 7 [1,2,3,4,5,6,7] _ _
   try simp only [List.setIfInBounds_toArray,List.set_cons_zero,List.set_cons_succ]
   refine runB_at 1 (v:=?_) (by rfl) (by rfl) (by rfl) (by kernel_rfl) (by rfl) ?_ ?_
   rotate_left
   focus (intro w_ hw_;have hb_:=HBX.out.next hw_ HLT.out;have f0_:=hb_.kind;have f1_:=hb_.d;have f2_:=hb_.e;have f3_:=hb_.a;have f4_:=hb_.b;have f5_:=hb_.c;have f6_:=hb_.imm;go_simp;(try with_reducible rfl);done)
   (try dsimp only [Act.put])
   show runB _ _ _ _ 6 [2,3,4,5,6,7] _ _
   try simp only [List.setIfInBounds_toArray,List.set_cons_zero,List.set_cons_succ]
   refine runB_at 3 (v:=?_) (by rfl) (by rfl) (by rfl) (by kernel_rfl) (by rfl) ?_ ?_
   rotate_left
   focus (intro w_ hw_;have hb_:=HBX.out.next hw_ HLT.out;have f0_:=hb_.kind;have f1_:=hb_.d;have f2_:=hb_.e;have f3_:=hb_.a;have f4_:=hb_.b;have f5_:=hb_.c;have f6_:=hb_.imm;go_simp;(try with_reducible rfl);done)
   (try dsimp only [Act.put])
   show runB _ _ _ _ 5 [2,4,5,6,7] _ _
   try simp only [List.setIfInBounds_toArray,List.set_cons_zero,List.set_cons_succ]
   refine runB_two 2 5 (by kernel_rfl) (by kernel_rfl) (by rfl) (by rfl) (by rfl) (by rfl) ?_ ?_
   · refine tdoes_call (f:=?_) (args:=?_) (w1:=?_) ?_ ?_
     rotate_left 3
     focus (go_simp;refine ⟨⟨?_,?_⟩,?_⟩ <;> with_reducible rfl)
     refine (HSH.out x0).mono ?_
     rintro e_ y_ ⟨rfl,hy_⟩
     subst y_
     refine ⟨_,rfl,hSx0,?_⟩
     (try dsimp only [Act.put])
     try simp only [List.setIfInBounds_toArray,List.set_cons_zero,List.set_cons_succ]
     show runB _ _ _ _ 4 [4,5,6,7] _ _
     refine runB_two 4 5 (by kernel_rfl) (by kernel_rfl) (by rfl) (by rfl) (by rfl) (by rfl) ?_ ?_
     · refine tdoes_call (f:=?_) (args:=?_) (w1:=?_) ?_ ?_
       rotate_left 3
       focus (go_simp;refine ⟨⟨?_,?_⟩,?_⟩ <;> with_reducible rfl)
       refine (rfields_any o x0).mono ?_
       rintro e_ x1 ⟨rfl,hb_⟩
       have hSx1:=hSx0.trans (hb_.mono hSx0.size)
       refine ⟨_,rfl,hSx1,?_⟩
       (try dsimp only [Act.put])
       try simp only [List.setIfInBounds_toArray,List.set_cons_zero,List.set_cons_succ]
       show runB _ _ _ _ 3 [5,6,7] _ _
       refine runB_one 5 (by kernel_rfl) (by kernel_rfl) (by rfl) (by rfl) ?_
       refine tdoes_op (w1:=x1.alloc (.cells #[.int .i64 0,.int .i64 0,.int .i64 0,.int .i64 0,.int .i64 0] 90)) (v:=.pointer (some ⟨x1.heap.size,0,none⟩)) (by go_simp) ⟨hSx1.trans (((Below.refl _ _).alloc (Nat.le_refl _) _).mono hSx1.size),?_⟩
       (try dsimp only [Act.put])
       try simp only [List.setIfInBounds_toArray,List.set_cons_zero,List.set_cons_succ]
       obtain ⟨x2,h_⟩:∃ q,q=x1.alloc (.cells #[.int .i64 0,.int .i64 0,.int .i64 0,.int .i64 0,.int .i64 0] 90):=⟨_,rfl⟩
       obtain ⟨g,hg_⟩:∃ q,q=x1.heap.size:=⟨_,rfl⟩
       have hb_:Below x1.heap.size x1 x2:=by rw [h_];exact (Below.refl _ _).alloc (Nat.le_refl _) _
       have hG:x2.heap[g]? = some (.cells #[.int .i64 0,.int .i64 0,.int .i64 0,.int .i64 0,.int .i64 0] 90 (0,0)):=by rw [h_,hg_];exact heap_alloc_new x1 _
       have hGE:W.heap.size≤g:=by rw [hg_];exact hSx1.size
       have hSx2:=hSx1.trans (hb_.mono hSx1.size)
       rw [←h_,←hg_]
       clear h_ hg_ hb_
       show runB _ _ _ _ 2 [6,7] _ _
       refine runB_at 6 (v:=?_) (by rfl) (by rfl) (by rfl) (by kernel_rfl) (by rfl) ?_ ?_
       rotate_left
       focus (intro w_ hw_;have hb_:=HBX.out.next hw_ HLT.out;have f0_:=hb_.kind;have f1_:=hb_.d;have f2_:=hb_.e;have f3_:=hb_.a;have f4_:=hb_.b;have f5_:=hb_.c;have f6_:=hb_.imm;go_simp;(try with_reducible rfl);done)
       (try dsimp only [Act.put])
       show runB _ _ _ _ 1 [7] _ _
       try simp only [List.setIfInBounds_toArray,List.set_cons_zero,List.set_cons_succ]
       refine runB_one 7 (by kernel_rfl) (by kernel_rfl) (by rfl) (by rfl) ?_
       refine tdoes_skip (w1:=x2.setRow g (fiveV o)) (sep_store 90 _ _ rfl g (fiveV o) rfl rfl 90 #[.int .i64 0,.int .i64 0,.int .i64 0,.int .i64 0,.int .i64 0] hG (by kernel_rfl) (by rfl) (by kernel_rfl)) ⟨below_setRow hSx2 hGE _,?_⟩
       show runB _ _ _ _ 0 [] _ _
       refine runB_nil ?_
       (try dsimp only [Act.put])
       try simp only [List.setIfInBounds_toArray,List.set_cons_zero,List.set_cons_succ]
       go_wp2_with fail
       go_meet
       have hbf:=below_setRow hSx2 hGE (fiveV o)
       exact ⟨g,rfl,rfl,⟨HBX.out.next hbf HLT.out,Nat.lt_of_lt_of_le HLT.out hbf.size,setRow_heap _ _ _ _ _ _ hG,rows_next HVS.out hbf⟩,hbf⟩
     · refine tdoes_op (w1:=x0.alloc (.cells #[.int .i64 0,.int .i64 0,.int .i64 0,.int .i64 0,.int .i64 0] 90)) (v:=.pointer (some ⟨x0.heap.size,0,none⟩)) (by go_simp) ⟨hSx0.trans (((Below.refl _ _).alloc (Nat.le_refl _) _).mono hSx0.size),?_⟩
       (try dsimp only [Act.put])
       try simp only [List.setIfInBounds_toArray,List.set_cons_zero,List.set_cons_succ]
       obtain ⟨x1,h_⟩:∃ q,q=x0.alloc (.cells #[.int .i64 0,.int .i64 0,.int .i64 0,.int .i64 0,.int .i64 0] 90):=⟨_,rfl⟩
       obtain ⟨g,hg_⟩:∃ q,q=x0.heap.size:=⟨_,rfl⟩
       have hb_:Below x0.heap.size x0 x1:=by rw [h_];exact (Below.refl _ _).alloc (Nat.le_refl _) _
       have hG:x1.heap[g]? = some (.cells #[.int .i64 0,.int .i64 0,.int .i64 0,.int .i64 0,.int .i64 0] 90 (0,0)):=by rw [h_,hg_];exact heap_alloc_new x0 _
       have hGE:W.heap.size≤g:=by rw [hg_];exact hSx0.size
       have hSx1:=hSx0.trans (hb_.mono hSx0.size)
       rw [←h_,←hg_]
       clear h_ hg_ hb_
       show runB _ _ _ _ 3 [4,6,7] _ _
       refine runB_one 4 (by kernel_rfl) (by kernel_rfl) (by rfl) (by rfl) ?_
       refine tdoes_call (f:=?_) (args:=?_) (w1:=?_) ?_ ?_
       rotate_left 3
       focus (go_simp;refine ⟨⟨?_,?_⟩,?_⟩ <;> with_reducible rfl)
       refine (rfields_any o x1).mono ?_
       rintro e_ x2 ⟨rfl,hb_⟩
       have hSx2:=hSx1.trans (hb_.mono hSx1.size)
       refine ⟨_,rfl,hSx2,?_⟩
       (try dsimp only [Act.put])
       try simp only [List.setIfInBounds_toArray,List.set_cons_zero,List.set_cons_succ]
       replace hG:=keep_blk' hG hb_
       show runB _ _ _ _ 2 [6,7] _ _
       refine runB_at 6 (v:=?_) (by rfl) (by rfl) (by rfl) (by kernel_rfl) (by rfl) ?_ ?_
       rotate_left
       focus (intro w_ hw_;have hb_:=HBX.out.next hw_ HLT.out;have f0_:=hb_.kind;have f1_:=hb_.d;have f2_:=hb_.e;have f3_:=hb_.a;have f4_:=hb_.b;have f5_:=hb_.c;have f6_:=hb_.imm;go_simp;(try with_reducible rfl);done)
       (try dsimp only [Act.put])
       show runB _ _ _ _ 1 [7] _ _
       try simp only [List.setIfInBounds_toArray,List.set_cons_zero,List.set_cons_succ]
       refine runB_one 7 (by kernel_rfl) (by kernel_rfl) (by rfl) (by rfl) ?_
       refine tdoes_skip (w1:=x2.setRow g (fiveV o)) (sep_store 90 _ _ rfl g (fiveV o) rfl rfl 90 #[.int .i64 0,.int .i64 0,.int .i64 0,.int .i64 0,.int .i64 0] hG (by kernel_rfl) (by rfl) (by kernel_rfl)) ⟨below_setRow hSx2 hGE _,?_⟩
       show runB _ _ _ _ 0 [] _ _
       refine runB_nil ?_
       (try dsimp only [Act.put])
       try simp only [List.setIfInBounds_toArray,List.set_cons_zero,List.set_cons_succ]
       go_wp2_with fail
       go_meet
       have hbf:=below_setRow hSx2 hGE (fiveV o)
       exact ⟨g,rfl,rfl,⟨HBX.out.next hbf HLT.out,Nat.lt_of_lt_of_le HLT.out hbf.size,setRow_heap _ _ _ _ _ _ hG,rows_next HVS.out hbf⟩,hbf⟩
   · refine tdoes_op (w1:=x0.alloc (.cells #[.int .i64 0,.int .i64 0,.int .i64 0,.int .i64 0,.int .i64 0] 90)) (v:=.pointer (some ⟨x0.heap.size,0,none⟩)) (by go_simp) ⟨hSx0.trans (((Below.refl _ _).alloc (Nat.le_refl _) _).mono hSx0.size),?_⟩
     (try dsimp only [Act.put])
     try simp only [List.setIfInBounds_toArray,List.set_cons_zero,List.set_cons_succ]
     obtain ⟨x1,h_⟩:∃ q,q=x0.alloc (.cells #[.int .i64 0,.int .i64 0,.int .i64 0,.int .i64 0,.int .i64 0] 90):=⟨_,rfl⟩
     obtain ⟨g,hg_⟩:∃ q,q=x0.heap.size:=⟨_,rfl⟩
     have hb_:Below x0.heap.size x0 x1:=by rw [h_];exact (Below.refl _ _).alloc (Nat.le_refl _) _
     have hG:x1.heap[g]? = some (.cells #[.int .i64 0,.int .i64 0,.int .i64 0,.int .i64 0,.int .i64 0] 90 (0,0)):=by rw [h_,hg_];exact heap_alloc_new x0 _
     have hGE:W.heap.size≤g:=by rw [hg_];exact hSx0.size
     have hSx1:=hSx0.trans (hb_.mono hSx0.size)
     rw [←h_,←hg_]
     clear h_ hg_ hb_
     show runB _ _ _ _ 4 [2,4,6,7] _ _
     refine runB_one 2 (by kernel_rfl) (by kernel_rfl) (by rfl) (by rfl) ?_
     refine tdoes_call (f:=?_) (args:=?_) (w1:=?_) ?_ ?_
     rotate_left 3
     focus (go_simp;refine ⟨⟨?_,?_⟩,?_⟩ <;> with_reducible rfl)
     refine (HSH.out x1).mono ?_
     rintro e_ y_ ⟨rfl,hy_⟩
     subst y_
     refine ⟨_,rfl,hSx1,?_⟩
     (try dsimp only [Act.put])
     try simp only [List.setIfInBounds_toArray,List.set_cons_zero,List.set_cons_succ]
     show runB _ _ _ _ 3 [4,6,7] _ _
     refine runB_one 4 (by kernel_rfl) (by kernel_rfl) (by rfl) (by rfl) ?_
     refine tdoes_call (f:=?_) (args:=?_) (w1:=?_) ?_ ?_
     rotate_left 3
     focus (go_simp;refine ⟨⟨?_,?_⟩,?_⟩ <;> with_reducible rfl)
     refine (rfields_any o x1).mono ?_
     rintro e_ x2 ⟨rfl,hb_⟩
     have hSx2:=hSx1.trans (hb_.mono hSx1.size)
     refine ⟨_,rfl,hSx2,?_⟩
     (try dsimp only [Act.put])
     try simp only [List.setIfInBounds_toArray,List.set_cons_zero,List.set_cons_succ]
     replace hG:=keep_blk' hG hb_
     show runB _ _ _ _ 2 [6,7] _ _
     refine runB_at 6 (v:=?_) (by rfl) (by rfl) (by rfl) (by kernel_rfl) (by rfl) ?_ ?_
     rotate_left
     focus (intro w_ hw_;have hb_:=HBX.out.next hw_ HLT.out;have f0_:=hb_.kind;have f1_:=hb_.d;have f2_:=hb_.e;have f3_:=hb_.a;have f4_:=hb_.b;have f5_:=hb_.c;have f6_:=hb_.imm;go_simp;(try with_reducible rfl);done)
     (try dsimp only [Act.put])
     show runB _ _ _ _ 1 [7] _ _
     try simp only [List.setIfInBounds_toArray,List.set_cons_zero,List.set_cons_succ]
     refine runB_one 7 (by kernel_rfl) (by kernel_rfl) (by rfl) (by rfl) ?_
     refine tdoes_skip (w1:=x2.setRow g (fiveV o)) (sep_store 90 _ _ rfl g (fiveV o) rfl rfl 90 #[.int .i64 0,.int .i64 0,.int .i64 0,.int .i64 0,.int .i64 0] hG (by kernel_rfl) (by rfl) (by kernel_rfl)) ⟨below_setRow hSx2 hGE _,?_⟩
     show runB _ _ _ _ 0 [] _ _
     refine runB_nil ?_
     (try dsimp only [Act.put])
     try simp only [List.setIfInBounds_toArray,List.set_cons_zero,List.set_cons_succ]
     go_wp2_with fail
     go_meet
     have hbf:=below_setRow hSx2 hGE (fiveV o)
     exact ⟨g,rfl,rfl,⟨HBX.out.next hbf HLT.out,Nat.lt_of_lt_of_le HLT.out hbf.size,setRow_heap _ _ _ _ _ _ hG,rows_next HVS.out hbf⟩,hbf⟩
 case rest =>
 obtain ⟨g,rfl,rfl,how,hbw⟩:=hcut
 obtain ⟨w1,hw1⟩:∃ q:World,q=wc:=⟨_,rfl⟩
 rw [←hw1] at how hbw ⊢
 have HO:=Lh how
 have HBW:=Lh hbw
 clear how hbw c0 c1 c2 c3 c4 c5 c6 HSH hw1 d17
 by_cases h16:1≤o.kind∧o.kind≤16
 rotate_left
 · have HX:=Lh (show oneK vs o=false by rw [HX.out,decide_eq_false h16];rfl)
   rw [show sh = -1 by rw [HSV.out,if_neg h16]]
   clear h16
   go_wp2
   go_ret
   exact ⟨ret_bool HX.out.symm,HB.out.trans (HBW.out.mono HB.out.size)⟩
 have hx:=HX.out
 rw [decide_eq_true h16,Bool.true_and] at hx
 have HSB:=Lh (shape_bits h16)
 have H16:=Lh h16
 have hsv:shapeK o.kind=sh:=by rw [HSV.out,if_pos h16]
 rw [hsv] at HSB
 have d2:decide (sh < 0)=false:=decide_eq_false (by have:=HSB.out.1;omega)
 have c0:=HO.out.box.kind
 have c1:=HO.out.box.d
 have c2:=HO.out.box.e
 have c3:=HO.out.box.a
 have c4:=HO.out.box.b
 have c5:=HO.out.box.c
 have c6:=HO.out.box.imm
 cases hnk:numK o
 · have HX:=Lh (show oneK vs o=false by rw [hx,hnk];rfl)
   rw [hnk] at HNM
   clear hx h16 hnk hsv
   go_wp2_with (first | ((with_reducible refine (HNM.out _).mono ?_);rintro e w2 ⟨rfl,hb2⟩;have HB2:=Lh hb2;clear hb2) | go_in)
   go_ret
   exact ⟨ret_bool HX.out.symm,HB.out.trans ((HBW.out.trans (HB2.out.mono HBW.out.size)).mono HB.out.size)⟩
 rw [hnk,Bool.true_and] at hx
 rw [hnk] at HNM
 have HX:=Lh hx
 clear hx h16 hnk hsv
 go_upto_region 6 with (first | ((with_reducible refine (HNM.out _).mono ?_);rintro e w2 ⟨rfl,hb2⟩;have HO2:=Lh (HO.out.next hb2);have HB2:=Lh (HBW.out.trans (hb2.mono HBW.out.size));clear hb2) | go_in)
 clear c0 c1 c2 c3 c4 c5 c6
 go_wp2
 go_loopw [4,7,8,9] (fun _ s7 s8 _ wr=>∃ (j:Nat) (sec:Bool),j≤5∧s8=.int .i64 (j:Nat)∧s7=.bool sec∧Below w2.heap.size w2 wr∧Hid (((prtL nv o).take j).all id=true∧sec=((secL vs o).take j).any id)) (fun _ _ s8 _ _=>5 - (intOf s8).toNat)
 case atStart=>exact ⟨0,false,by omega,rfl,rfl,Below.refl _ _,Lh ⟨rfl,rfl⟩⟩
 case round =>
   obtain ⟨j,sec,hj5,rfl,rfl,hbr,HT⟩:=hrel
   have HB3:=Lh hbr
   have HBR:=Lh (HB2.out.trans (hbr.mono HB2.out.size))
   have HWR:=Lh (HO2.out.next hbr)
   clear hbr
   obtain rfl | rfl | rfl | rfl | rfl | rfl:j=0∨j=1∨j=2∨j=3∨j=4∨j=5:=by omega
   · clear hj5
     have hc0:=HWR.out.cell (j:=0) (v:=.int .i64 o.d) rfl
     have HC0:=Lh hc0
     clear hc0
     go_upto_region 10 with fail
     refine wp_code (c:=partR Tryz.f34 10) (by kernel_rfl) ?_
     refine rone_r10 (s:=sh) (i:=0) _ _ HSB.out.1 (by omega) ?_
     intro a33 a34 a35 a36 a37 a38
     rw [HSB.out.2.1]
     go_upto_region 11 with fail
     refine wp_code (c:=partR Tryz.f34 11) (by kernel_rfl) ?_
     refine rone_r11 (n:=nv) (c:=cv) (A:=Av) (x:=o.d) (h:=kHasD o.kind) (g:=g) (j:=0) _ _ HC0.out (by omega) ?_
     intro b39 b40 b41 b42 b43 b44 b45 b46 b47 b48 b49 b50 b51 b52 b53 b54 b55 b56 b57 b58 b59 b60 b61 b62
     cases hq:partK nv (kHasD o.kind) o.d
     · have HN:=Lh (all_stop (l:=prtL nv o) (k:=0) (by rw [←hq];rfl))
       rw [show (!false)=true from rfl]
       clear hq
       go_wp2
       go_ret
       refine ⟨ret_bool ?_,HB.out.trans (HBR.out.mono HB.out.size)⟩
       rw [HX.out,partsK_split]
       rw [show ([partK nv (kHasD o.kind) o.d,partK nv (kHasE o.kind) o.e,partK nv (kHasA o.kind) o.a,partK nv (kHasB o.kind) o.b,partK nv (kHasC o.kind) o.c]:List Bool)=prtL nv o from rfl,HN.out]
       rfl
     · have HN:=Lh (all_next (l:=prtL nv o) (k:=0) HT.out.1 rfl hq)
       rw [show (!true)=false from rfl]
       have hpi:=part_in hq
       clear hq
       go_upto_region 13 with fail
       refine wp_code (c:=partR Tryz.f34 13) (by kernel_rfl) ?_
       refine rone_r13 (k0:=o.kind) (b:=w.heap.size) (h:=kHasD o.kind) (j:=0) _ _ HWR.out.box.kind ?_
       intro c64 c65 c66 c67 c68 c69 c70 c71 c72
       cases htk:(kHasD o.kind && (decide (2≤0) || (o.kind == 14)))
       · have HSE:=Lh (show sec=((secL vs o).take (0+1)).any id by
           have h:=sany_next (l:=secL vs o) (k:=0) HT.out.2 (x:=false) (by rw [←Bool.false_and (varK vs o.d).secret,←htk];rfl)
           rw [Bool.or_false] at h
           exact h)
         clear htk hpi
         go_wp2
         go_roundw
         case rel=>exact ⟨0+1,sec,by omega,rfl,rfl,HB3.out,Lh ⟨HN.out,HSE.out⟩⟩
         case measure=>simp [intOf]
       · have hb:kHasD o.kind=true:=by cases hh:kHasD o.kind <;> simp_all
         obtain ⟨v,hv⟩:∃ v:Nat,o.d=v:=⟨o.d.toNat,by rcases hpi with h | h;omega;rw [hb] at h;exact absurd h.1 (by decide)⟩
         have hvn:v < nv:=by rcases hpi with h | h;omega;rw [hb] at h;exact absurd h.1 (by decide)
         obtain ⟨y,hy⟩:∃ y,vs[v]? = some y:=⟨_,List.getElem?_eq_getElem (by have:=HNV.out;omega)⟩
         obtain ⟨gv,ov,hA,hg,_,z1,_⟩:=HWR.out.vars.at_ hy
         subst hA
         have hcv:=HC0.out
         rw [hv] at hcv
         have HSE:=Lh (show (sec || y.secret)=((secL vs o).take (0+1)).any id from sany_next (l:=secL vs o) (k:=0) HT.out.2 (by
           show some ((kHasD o.kind && (decide (2≤0) || (o.kind == 14))) && (varK vs o.d).secret)=_
           rw [htk,Bool.true_and,hv]
           unfold varK
           rw [Int.toNat_natCast,List.getD_eq_getElem?_getD,hy]
           rfl))
         clear htk hpi hb hv hy hg
         go_upto_region 14 with fail
         refine wp_code (c:=partR Tryz.f34 14) (by kernel_rfl) ?_
         refine rone_r14 (gv:=gv) (ov:=ov) (n:=nv) (c:=cv) (g:=g) (j:=0) (v:=v) (sec:=sec) (q:=y.secret) _ _ hcv z1 (by omega) hvn n5 ?_
         intro d74 d75 d76 d77 d78 d79 d80 d81 d82 d83
         generalize (sec || y.secret)=sec2 at HSE ⊢
         go_wp2
         go_roundw
         case rel=>exact ⟨0+1,sec2,by omega,rfl,rfl,HB3.out,Lh ⟨HN.out,HSE.out⟩⟩
         case measure=>simp [intOf]
   · clear hj5
     have hc0:=HWR.out.cell (j:=1) (v:=.int .i64 o.e) rfl
     have HC0:=Lh hc0
     clear hc0
     go_upto_region 10 with fail
     refine wp_code (c:=partR Tryz.f34 10) (by kernel_rfl) ?_
     refine rone_r10 (s:=sh) (i:=1) _ _ HSB.out.1 (by omega) ?_
     intro a33 a34 a35 a36 a37 a38
     rw [HSB.out.2.2.1]
     go_upto_region 11 with fail
     refine wp_code (c:=partR Tryz.f34 11) (by kernel_rfl) ?_
     refine rone_r11 (n:=nv) (c:=cv) (A:=Av) (x:=o.e) (h:=kHasE o.kind) (g:=g) (j:=1) _ _ HC0.out (by omega) ?_
     intro b39 b40 b41 b42 b43 b44 b45 b46 b47 b48 b49 b50 b51 b52 b53 b54 b55 b56 b57 b58 b59 b60 b61 b62
     cases hq:partK nv (kHasE o.kind) o.e
     · have HN:=Lh (all_stop (l:=prtL nv o) (k:=1) (by rw [←hq];rfl))
       rw [show (!false)=true from rfl]
       clear hq
       go_wp2
       go_ret
       refine ⟨ret_bool ?_,HB.out.trans (HBR.out.mono HB.out.size)⟩
       rw [HX.out,partsK_split]
       rw [show ([partK nv (kHasD o.kind) o.d,partK nv (kHasE o.kind) o.e,partK nv (kHasA o.kind) o.a,partK nv (kHasB o.kind) o.b,partK nv (kHasC o.kind) o.c]:List Bool)=prtL nv o from rfl,HN.out]
       rfl
     · have HN:=Lh (all_next (l:=prtL nv o) (k:=1) HT.out.1 rfl hq)
       rw [show (!true)=false from rfl]
       have hpi:=part_in hq
       clear hq
       go_upto_region 13 with fail
       refine wp_code (c:=partR Tryz.f34 13) (by kernel_rfl) ?_
       refine rone_r13 (k0:=o.kind) (b:=w.heap.size) (h:=kHasE o.kind) (j:=1) _ _ HWR.out.box.kind ?_
       intro c64 c65 c66 c67 c68 c69 c70 c71 c72
       cases htk:(kHasE o.kind && (decide (2≤1) || (o.kind == 14)))
       · have HSE:=Lh (show sec=((secL vs o).take (1+1)).any id by
           have h:=sany_next (l:=secL vs o) (k:=1) HT.out.2 (x:=false) (by rw [←Bool.false_and (varK vs o.e).secret,←htk];rfl)
           rw [Bool.or_false] at h
           exact h)
         clear htk hpi
         go_wp2
         go_roundw
         case rel=>exact ⟨1+1,sec,by omega,rfl,rfl,HB3.out,Lh ⟨HN.out,HSE.out⟩⟩
         case measure=>simp [intOf]
       · have hb:kHasE o.kind=true:=by cases hh:kHasE o.kind <;> simp_all
         obtain ⟨v,hv⟩:∃ v:Nat,o.e=v:=⟨o.e.toNat,by rcases hpi with h | h;omega;rw [hb] at h;exact absurd h.1 (by decide)⟩
         have hvn:v < nv:=by rcases hpi with h | h;omega;rw [hb] at h;exact absurd h.1 (by decide)
         obtain ⟨y,hy⟩:∃ y,vs[v]? = some y:=⟨_,List.getElem?_eq_getElem (by have:=HNV.out;omega)⟩
         obtain ⟨gv,ov,hA,hg,_,z1,_⟩:=HWR.out.vars.at_ hy
         subst hA
         have hcv:=HC0.out
         rw [hv] at hcv
         have HSE:=Lh (show (sec || y.secret)=((secL vs o).take (1+1)).any id from sany_next (l:=secL vs o) (k:=1) HT.out.2 (by
           show some ((kHasE o.kind && (decide (2≤1) || (o.kind == 14))) && (varK vs o.e).secret)=_
           rw [htk,Bool.true_and,hv]
           unfold varK
           rw [Int.toNat_natCast,List.getD_eq_getElem?_getD,hy]
           rfl))
         clear htk hpi hb hv hy hg
         go_upto_region 14 with fail
         refine wp_code (c:=partR Tryz.f34 14) (by kernel_rfl) ?_
         refine rone_r14 (gv:=gv) (ov:=ov) (n:=nv) (c:=cv) (g:=g) (j:=1) (v:=v) (sec:=sec) (q:=y.secret) _ _ hcv z1 (by omega) hvn n5 ?_
         intro d74 d75 d76 d77 d78 d79 d80 d81 d82 d83
         generalize (sec || y.secret)=sec2 at HSE ⊢
         go_wp2
         go_roundw
         case rel=>exact ⟨1+1,sec2,by omega,rfl,rfl,HB3.out,Lh ⟨HN.out,HSE.out⟩⟩
         case measure=>simp [intOf]
   · clear hj5
     have hc0:=HWR.out.cell (j:=2) (v:=.int .i64 o.a) rfl
     have HC0:=Lh hc0
     clear hc0
     go_upto_region 10 with fail
     refine wp_code (c:=partR Tryz.f34 10) (by kernel_rfl) ?_
     refine rone_r10 (s:=sh) (i:=2) _ _ HSB.out.1 (by omega) ?_
     intro a33 a34 a35 a36 a37 a38
     rw [HSB.out.2.2.2.1]
     go_upto_region 11 with fail
     refine wp_code (c:=partR Tryz.f34 11) (by kernel_rfl) ?_
     refine rone_r11 (n:=nv) (c:=cv) (A:=Av) (x:=o.a) (h:=kHasA o.kind) (g:=g) (j:=2) _ _ HC0.out (by omega) ?_
     intro b39 b40 b41 b42 b43 b44 b45 b46 b47 b48 b49 b50 b51 b52 b53 b54 b55 b56 b57 b58 b59 b60 b61 b62
     cases hq:partK nv (kHasA o.kind) o.a
     · have HN:=Lh (all_stop (l:=prtL nv o) (k:=2) (by rw [←hq];rfl))
       rw [show (!false)=true from rfl]
       clear hq
       go_wp2
       go_ret
       refine ⟨ret_bool ?_,HB.out.trans (HBR.out.mono HB.out.size)⟩
       rw [HX.out,partsK_split]
       rw [show ([partK nv (kHasD o.kind) o.d,partK nv (kHasE o.kind) o.e,partK nv (kHasA o.kind) o.a,partK nv (kHasB o.kind) o.b,partK nv (kHasC o.kind) o.c]:List Bool)=prtL nv o from rfl,HN.out]
       rfl
     · have HN:=Lh (all_next (l:=prtL nv o) (k:=2) HT.out.1 rfl hq)
       rw [show (!true)=false from rfl]
       have hpi:=part_in hq
       clear hq
       go_upto_region 13 with fail
       refine wp_code (c:=partR Tryz.f34 13) (by kernel_rfl) ?_
       refine rone_r13 (k0:=o.kind) (b:=w.heap.size) (h:=kHasA o.kind) (j:=2) _ _ HWR.out.box.kind ?_
       intro c64 c65 c66 c67 c68 c69 c70 c71 c72
       cases htk:(kHasA o.kind && (decide (2≤2) || (o.kind == 14)))
       · have HSE:=Lh (show sec=((secL vs o).take (2+1)).any id by
           have h:=sany_next (l:=secL vs o) (k:=2) HT.out.2 (x:=false) (by rw [←Bool.false_and (varK vs o.a).secret,←htk];rfl)
           rw [Bool.or_false] at h
           exact h)
         clear htk hpi
         go_wp2
         go_roundw
         case rel=>exact ⟨2+1,sec,by omega,rfl,rfl,HB3.out,Lh ⟨HN.out,HSE.out⟩⟩
         case measure=>simp [intOf]
       · have hb:kHasA o.kind=true:=by cases hh:kHasA o.kind <;> simp_all
         obtain ⟨v,hv⟩:∃ v:Nat,o.a=v:=⟨o.a.toNat,by rcases hpi with h | h;omega;rw [hb] at h;exact absurd h.1 (by decide)⟩
         have hvn:v < nv:=by rcases hpi with h | h;omega;rw [hb] at h;exact absurd h.1 (by decide)
         obtain ⟨y,hy⟩:∃ y,vs[v]? = some y:=⟨_,List.getElem?_eq_getElem (by have:=HNV.out;omega)⟩
         obtain ⟨gv,ov,hA,hg,_,z1,_⟩:=HWR.out.vars.at_ hy
         subst hA
         have hcv:=HC0.out
         rw [hv] at hcv
         have HSE:=Lh (show (sec || y.secret)=((secL vs o).take (2+1)).any id from sany_next (l:=secL vs o) (k:=2) HT.out.2 (by
           show some ((kHasA o.kind && (decide (2≤2) || (o.kind == 14))) && (varK vs o.a).secret)=_
           rw [htk,Bool.true_and,hv]
           unfold varK
           rw [Int.toNat_natCast,List.getD_eq_getElem?_getD,hy]
           rfl))
         clear htk hpi hb hv hy hg
         go_upto_region 14 with fail
         refine wp_code (c:=partR Tryz.f34 14) (by kernel_rfl) ?_
         refine rone_r14 (gv:=gv) (ov:=ov) (n:=nv) (c:=cv) (g:=g) (j:=2) (v:=v) (sec:=sec) (q:=y.secret) _ _ hcv z1 (by omega) hvn n5 ?_
         intro d74 d75 d76 d77 d78 d79 d80 d81 d82 d83
         generalize (sec || y.secret)=sec2 at HSE ⊢
         go_wp2
         go_roundw
         case rel=>exact ⟨2+1,sec2,by omega,rfl,rfl,HB3.out,Lh ⟨HN.out,HSE.out⟩⟩
         case measure=>simp [intOf]
   · clear hj5
     have hc0:=HWR.out.cell (j:=3) (v:=.int .i64 o.b) rfl
     have HC0:=Lh hc0
     clear hc0
     go_upto_region 10 with fail
     refine wp_code (c:=partR Tryz.f34 10) (by kernel_rfl) ?_
     refine rone_r10 (s:=sh) (i:=3) _ _ HSB.out.1 (by omega) ?_
     intro a33 a34 a35 a36 a37 a38
     rw [HSB.out.2.2.2.2.1]
     go_upto_region 11 with fail
     refine wp_code (c:=partR Tryz.f34 11) (by kernel_rfl) ?_
     refine rone_r11 (n:=nv) (c:=cv) (A:=Av) (x:=o.b) (h:=kHasB o.kind) (g:=g) (j:=3) _ _ HC0.out (by omega) ?_
     intro b39 b40 b41 b42 b43 b44 b45 b46 b47 b48 b49 b50 b51 b52 b53 b54 b55 b56 b57 b58 b59 b60 b61 b62
     cases hq:partK nv (kHasB o.kind) o.b
     · have HN:=Lh (all_stop (l:=prtL nv o) (k:=3) (by rw [←hq];rfl))
       rw [show (!false)=true from rfl]
       clear hq
       go_wp2
       go_ret
       refine ⟨ret_bool ?_,HB.out.trans (HBR.out.mono HB.out.size)⟩
       rw [HX.out,partsK_split]
       rw [show ([partK nv (kHasD o.kind) o.d,partK nv (kHasE o.kind) o.e,partK nv (kHasA o.kind) o.a,partK nv (kHasB o.kind) o.b,partK nv (kHasC o.kind) o.c]:List Bool)=prtL nv o from rfl,HN.out]
       rfl
     · have HN:=Lh (all_next (l:=prtL nv o) (k:=3) HT.out.1 rfl hq)
       rw [show (!true)=false from rfl]
       have hpi:=part_in hq
       clear hq
       go_upto_region 13 with fail
       refine wp_code (c:=partR Tryz.f34 13) (by kernel_rfl) ?_
       refine rone_r13 (k0:=o.kind) (b:=w.heap.size) (h:=kHasB o.kind) (j:=3) _ _ HWR.out.box.kind ?_
       intro c64 c65 c66 c67 c68 c69 c70 c71 c72
       cases htk:(kHasB o.kind && (decide (2≤3) || (o.kind == 14)))
       · have HSE:=Lh (show sec=((secL vs o).take (3+1)).any id by
           have h:=sany_next (l:=secL vs o) (k:=3) HT.out.2 (x:=false) (by rw [←Bool.false_and (varK vs o.b).secret,←htk];rfl)
           rw [Bool.or_false] at h
           exact h)
         clear htk hpi
         go_wp2
         go_roundw
         case rel=>exact ⟨3+1,sec,by omega,rfl,rfl,HB3.out,Lh ⟨HN.out,HSE.out⟩⟩
         case measure=>simp [intOf]
       · have hb:kHasB o.kind=true:=by cases hh:kHasB o.kind <;> simp_all
         obtain ⟨v,hv⟩:∃ v:Nat,o.b=v:=⟨o.b.toNat,by rcases hpi with h | h;omega;rw [hb] at h;exact absurd h.1 (by decide)⟩
         have hvn:v < nv:=by rcases hpi with h | h;omega;rw [hb] at h;exact absurd h.1 (by decide)
         obtain ⟨y,hy⟩:∃ y,vs[v]? = some y:=⟨_,List.getElem?_eq_getElem (by have:=HNV.out;omega)⟩
         obtain ⟨gv,ov,hA,hg,_,z1,_⟩:=HWR.out.vars.at_ hy
         subst hA
         have hcv:=HC0.out
         rw [hv] at hcv
         have HSE:=Lh (show (sec || y.secret)=((secL vs o).take (3+1)).any id from sany_next (l:=secL vs o) (k:=3) HT.out.2 (by
           show some ((kHasB o.kind && (decide (2≤3) || (o.kind == 14))) && (varK vs o.b).secret)=_
           rw [htk,Bool.true_and,hv]
           unfold varK
           rw [Int.toNat_natCast,List.getD_eq_getElem?_getD,hy]
           rfl))
         clear htk hpi hb hv hy hg
         go_upto_region 14 with fail
         refine wp_code (c:=partR Tryz.f34 14) (by kernel_rfl) ?_
         refine rone_r14 (gv:=gv) (ov:=ov) (n:=nv) (c:=cv) (g:=g) (j:=3) (v:=v) (sec:=sec) (q:=y.secret) _ _ hcv z1 (by omega) hvn n5 ?_
         intro d74 d75 d76 d77 d78 d79 d80 d81 d82 d83
         generalize (sec || y.secret)=sec2 at HSE ⊢
         go_wp2
         go_roundw
         case rel=>exact ⟨3+1,sec2,by omega,rfl,rfl,HB3.out,Lh ⟨HN.out,HSE.out⟩⟩
         case measure=>simp [intOf]
   · clear hj5
     have hc0:=HWR.out.cell (j:=4) (v:=.int .i64 o.c) rfl
     have HC0:=Lh hc0
     clear hc0
     go_upto_region 10 with fail
     refine wp_code (c:=partR Tryz.f34 10) (by kernel_rfl) ?_
     refine rone_r10 (s:=sh) (i:=4) _ _ HSB.out.1 (by omega) ?_
     intro a33 a34 a35 a36 a37 a38
     rw [HSB.out.2.2.2.2.2]
     go_upto_region 11 with fail
     refine wp_code (c:=partR Tryz.f34 11) (by kernel_rfl) ?_
     refine rone_r11 (n:=nv) (c:=cv) (A:=Av) (x:=o.c) (h:=kHasC o.kind) (g:=g) (j:=4) _ _ HC0.out (by omega) ?_
     intro b39 b40 b41 b42 b43 b44 b45 b46 b47 b48 b49 b50 b51 b52 b53 b54 b55 b56 b57 b58 b59 b60 b61 b62
     cases hq:partK nv (kHasC o.kind) o.c
     · have HN:=Lh (all_stop (l:=prtL nv o) (k:=4) (by rw [←hq];rfl))
       rw [show (!false)=true from rfl]
       clear hq
       go_wp2
       go_ret
       refine ⟨ret_bool ?_,HB.out.trans (HBR.out.mono HB.out.size)⟩
       rw [HX.out,partsK_split]
       rw [show ([partK nv (kHasD o.kind) o.d,partK nv (kHasE o.kind) o.e,partK nv (kHasA o.kind) o.a,partK nv (kHasB o.kind) o.b,partK nv (kHasC o.kind) o.c]:List Bool)=prtL nv o from rfl,HN.out]
       rfl
     · have HN:=Lh (all_next (l:=prtL nv o) (k:=4) HT.out.1 rfl hq)
       rw [show (!true)=false from rfl]
       have hpi:=part_in hq
       clear hq
       go_upto_region 13 with fail
       refine wp_code (c:=partR Tryz.f34 13) (by kernel_rfl) ?_
       refine rone_r13 (k0:=o.kind) (b:=w.heap.size) (h:=kHasC o.kind) (j:=4) _ _ HWR.out.box.kind ?_
       intro c64 c65 c66 c67 c68 c69 c70 c71 c72
       cases htk:(kHasC o.kind && (decide (2≤4) || (o.kind == 14)))
       · have HSE:=Lh (show sec=((secL vs o).take (4+1)).any id by
           have h:=sany_next (l:=secL vs o) (k:=4) HT.out.2 (x:=false) (by rw [←Bool.false_and (varK vs o.c).secret,←htk];rfl)
           rw [Bool.or_false] at h
           exact h)
         clear htk hpi
         go_wp2
         go_roundw
         case rel=>exact ⟨4+1,sec,by omega,rfl,rfl,HB3.out,Lh ⟨HN.out,HSE.out⟩⟩
         case measure=>simp [intOf]
       · have hb:kHasC o.kind=true:=by cases hh:kHasC o.kind <;> simp_all
         obtain ⟨v,hv⟩:∃ v:Nat,o.c=v:=⟨o.c.toNat,by rcases hpi with h | h;omega;rw [hb] at h;exact absurd h.1 (by decide)⟩
         have hvn:v < nv:=by rcases hpi with h | h;omega;rw [hb] at h;exact absurd h.1 (by decide)
         obtain ⟨y,hy⟩:∃ y,vs[v]? = some y:=⟨_,List.getElem?_eq_getElem (by have:=HNV.out;omega)⟩
         obtain ⟨gv,ov,hA,hg,_,z1,_⟩:=HWR.out.vars.at_ hy
         subst hA
         have hcv:=HC0.out
         rw [hv] at hcv
         have HSE:=Lh (show (sec || y.secret)=((secL vs o).take (4+1)).any id from sany_next (l:=secL vs o) (k:=4) HT.out.2 (by
           show some ((kHasC o.kind && (decide (2≤4) || (o.kind == 14))) && (varK vs o.c).secret)=_
           rw [htk,Bool.true_and,hv]
           unfold varK
           rw [Int.toNat_natCast,List.getD_eq_getElem?_getD,hy]
           rfl))
         clear htk hpi hb hv hy hg
         go_upto_region 14 with fail
         refine wp_code (c:=partR Tryz.f34 14) (by kernel_rfl) ?_
         refine rone_r14 (gv:=gv) (ov:=ov) (n:=nv) (c:=cv) (g:=g) (j:=4) (v:=v) (sec:=sec) (q:=y.secret) _ _ hcv z1 (by omega) hvn n5 ?_
         intro d74 d75 d76 d77 d78 d79 d80 d81 d82 d83
         generalize (sec || y.secret)=sec2 at HSE ⊢
         go_wp2
         go_roundw
         case rel=>exact ⟨4+1,sec2,by omega,rfl,rfl,HB3.out,Lh ⟨HN.out,HSE.out⟩⟩
         case measure=>simp [intOf]
   · clear hj5
     have hpt:partsK nv o=true:=by rw [partsK_split];exact HT.out.1
     have hx:=HX.out
     rw [hpt,Bool.true_and,←sec_eq (vs:=vs) hpt,show (secL vs o).any id=sec from HT.out.2.symm] at hx
     have HX:=Lh hx
     have hai:=alike_in hpt
     have hdx:o.d < (nv:Int)∧o.e < (nv:Int):=by
       unfold partsK at hpt
       simp only [Bool.and_eq_true] at hpt
       have h1:=part_in hpt.1
       have h2:=part_in hpt.2.1
       omega
     have HDX:=Lh hdx
     have HAG:=Lh (fun (w3:World) (h3:Below wr.heap.size wr w3)=>ragree_any Av nv cv vs o w3 _ (HWR.out.next h3).vars (fun k hk=>hk) (by have:=HNV.out;omega) (fun v hv=>by have:=hai v hv;have:=HNV.out;omega))
     clear hx hai hdx hpt
     go_wp2
     go_loopw [4,10] (fun _ s10 wt=>∃ k:Nat,k≤2∧s10=.int .i64 (k:Nat)∧Below wr.heap.size wr wt∧Hid (([intoK vs sec o.d,intoK vs sec o.e].take k).all id=true)) (fun _ s10 _=>2 - (intOf s10).toNat)
     case atStart=>exact ⟨0,by omega,rfl,Below.refl _ _,Lh rfl⟩
     case round =>
       obtain ⟨k,hk2,rfl,hbt,HT2⟩:=hrel
       have HBT:=Lh hbt
       have HBT2:=Lh (HBR.out.trans (hbt.mono HBR.out.size))
       have HWT:=Lh (HWR.out.next hbt)
       have HAG:=Lh (HAG.out _ hbt)
       clear hbt
       obtain rfl | rfl | rfl:k=0∨k=1∨k=2:=by omega
       · clear hk2
         have hc0:=HWT.out.cell (j:=0) (v:=.int .i64 o.d) rfl
         cases d0:decide (0≤o.d)
         · have hi:intoK vs sec o.d=true:=by unfold intoK;rw [d0];rfl
           have HN:=Lh (all_next (l:=[intoK vs sec o.d,intoK vs sec o.e]) (k:=0) HT2.out rfl hi)
           clear hi
           go_upto_region 18 with fail
           refine wp_code (c:=partR Tryz.f34 18) (by kernel_rfl) ?_
           refine rone_r18n (x:=o.d) (g:=g) (j:=0) _ _ hc0 (by omega) d0 ?_
           intro e88 e89 e90 e91 e92 e93 e94 e95 e96 e97 e98 e99 e100 e101 e102 e103 e104 e105 e106 e107 e108 e109 e110 e111 e112 e113 e114 e115 e116 e117 e118 e119 e120 e121 e122 e123
           clear hc0 d0
           go_wp2
           go_roundw
           case rel=>exact ⟨0+1,by omega,rfl,HBT.out,HN⟩
           case measure=>simp [intOf]
         · obtain ⟨v,hv⟩:∃ v:Nat,o.d=v:=⟨o.d.toNat,by have:=of_decide_eq_true d0;omega⟩
           have hvn:v < nv:=by have:=HDX.out.1;omega
           obtain ⟨y,hy⟩:∃ y,vs[v]? = some y:=⟨_,List.getElem?_eq_getElem (by have:=HNV.out;omega)⟩
           obtain ⟨gv,ov,hA,hg,_,z1,z2⟩:=HWT.out.vars.at_ hy
           subst hA
           have hi:intoK vs sec o.d=!(givenK y || (sec && !y.secret)):=by
             unfold intoK
             rw [d0,Bool.true_and,hv,show varK vs (v:Int)=y by unfold varK;rw [Int.toNat_natCast,List.getD_eq_getElem?_getD,hy];rfl]
           rw [hv] at hc0
           clear d0 hv hy hg
           go_upto_region 18 with fail
           refine wp_code (c:=partR Tryz.f34 18) (by kernel_rfl) ?_
           refine rone_r18 (x:=y) (gv:=gv) (ov:=ov) (n:=nv) (c:=cv) (g:=g) (j:=0) (v:=v) (sec:=sec) _ _ hc0 z2 z1 (by omega) hvn n5 ?_
           intro e88 e89 e90 e91 e92 e93 e94 e95 e96 e97 e98 e99 e100 e101 e102 e103 e104 e105 e106 e107 e108 e109 e110 e111 e112 e113 e114 e115 e116 e117 e118 e119 e120 e121 e122 e123
           clear hc0 z1 z2
           cases hq:(givenK y || (sec && !y.secret))
           · have HN:=Lh (all_next (l:=[intoK vs sec o.d,intoK vs sec o.e]) (k:=0) HT2.out rfl (by rw [hi,hq];rfl))
             clear hi hq
             go_wp2
             go_roundw
             case rel=>exact ⟨0+1,by omega,rfl,HBT.out,HN⟩
             case measure=>simp [intOf]
           · have HN:=Lh (show oneK vs o=false by
               have h:intoK vs sec o.d=false:=by rw [hi,hq];rfl
               rw [HX.out,h]
               simp)
             clear hi hq
             go_wp2
             go_ret
             exact ⟨ret_bool HN.out.symm,HB.out.trans (HBT2.out.mono HB.out.size)⟩
       · clear hk2
         have hc0:=HWT.out.cell (j:=1) (v:=.int .i64 o.e) rfl
         cases d0:decide (0≤o.e)
         · have hi:intoK vs sec o.e=true:=by unfold intoK;rw [d0];rfl
           have HN:=Lh (all_next (l:=[intoK vs sec o.d,intoK vs sec o.e]) (k:=1) HT2.out rfl hi)
           clear hi
           go_upto_region 18 with fail
           refine wp_code (c:=partR Tryz.f34 18) (by kernel_rfl) ?_
           refine rone_r18n (x:=o.e) (g:=g) (j:=1) _ _ hc0 (by omega) d0 ?_
           intro e88 e89 e90 e91 e92 e93 e94 e95 e96 e97 e98 e99 e100 e101 e102 e103 e104 e105 e106 e107 e108 e109 e110 e111 e112 e113 e114 e115 e116 e117 e118 e119 e120 e121 e122 e123
           clear hc0 d0
           go_wp2
           go_roundw
           case rel=>exact ⟨1+1,by omega,rfl,HBT.out,HN⟩
           case measure=>simp [intOf]
         · obtain ⟨v,hv⟩:∃ v:Nat,o.e=v:=⟨o.e.toNat,by have:=of_decide_eq_true d0;omega⟩
           have hvn:v < nv:=by have:=HDX.out.2;omega
           obtain ⟨y,hy⟩:∃ y,vs[v]? = some y:=⟨_,List.getElem?_eq_getElem (by have:=HNV.out;omega)⟩
           obtain ⟨gv,ov,hA,hg,_,z1,z2⟩:=HWT.out.vars.at_ hy
           subst hA
           have hi:intoK vs sec o.e=!(givenK y || (sec && !y.secret)):=by
             unfold intoK
             rw [d0,Bool.true_and,hv,show varK vs (v:Int)=y by unfold varK;rw [Int.toNat_natCast,List.getD_eq_getElem?_getD,hy];rfl]
           rw [hv] at hc0
           clear d0 hv hy hg
           go_upto_region 18 with fail
           refine wp_code (c:=partR Tryz.f34 18) (by kernel_rfl) ?_
           refine rone_r18 (x:=y) (gv:=gv) (ov:=ov) (n:=nv) (c:=cv) (g:=g) (j:=1) (v:=v) (sec:=sec) _ _ hc0 z2 z1 (by omega) hvn n5 ?_
           intro e88 e89 e90 e91 e92 e93 e94 e95 e96 e97 e98 e99 e100 e101 e102 e103 e104 e105 e106 e107 e108 e109 e110 e111 e112 e113 e114 e115 e116 e117 e118 e119 e120 e121 e122 e123
           clear hc0 z1 z2
           cases hq:(givenK y || (sec && !y.secret))
           · have HN:=Lh (all_next (l:=[intoK vs sec o.d,intoK vs sec o.e]) (k:=1) HT2.out rfl (by rw [hi,hq];rfl))
             clear hi hq
             go_wp2
             go_roundw
             case rel=>exact ⟨1+1,by omega,rfl,HBT.out,HN⟩
             case measure=>simp [intOf]
           · have HN:=Lh (show oneK vs o=false by
               have h:intoK vs sec o.e=false:=by rw [hi,hq];rfl
               rw [HX.out,h]
               simp)
             clear hi hq
             go_wp2
             go_ret
             exact ⟨ret_bool HN.out.symm,HB.out.trans (HBT2.out.mono HB.out.size)⟩
       · clear hk2
         have hi2:intoK vs sec o.d=true∧intoK vs sec o.e=true:=by
           have:=HT2.out
           simpa using this
         have hx:=HX.out
         rw [hi2.1,hi2.2,Bool.true_and,Bool.true_and] at hx
         have HX:=Lh hx
         have c0:=HWT.out.box.kind
         have c1:=HWT.out.box.d
         have c2:=HWT.out.box.e
         have c3:=HWT.out.box.a
         have c4:=HWT.out.box.b
         have c5:=HWT.out.box.c
         have c6:=HWT.out.box.imm
         clear hi2 hx
         cases d0:decide (o.e < 0)
         · cases d1:(o.d == o.e)
           · have d2:(o.d != o.e)=true:=by rw [bne,d1];rfl
             rw [d0,d1] at HX
             go_wp2_with (first | ((with_reducible refine HAG.out.mono ?_);rintro e w9 ⟨rfl,hb9⟩;have HB9:=Lh hb9;clear hb9) | go_in)
             go_ret
             exact ⟨ret_bool (by rw [HX.out];rfl),HB.out.trans ((HBT2.out.trans (HB9.out.mono HBT2.out.size)).mono HB.out.size)⟩
           · have d2:(o.d != o.e)=false:=by rw [bne,d1];rfl
             rw [d0,d1] at HX
             go_wp2
             go_ret
             exact ⟨ret_bool (by rw [HX.out];rfl),HB.out.trans (HBT2.out.mono HB.out.size)⟩
         · rw [d0] at HX
           go_wp2_with (first | ((with_reducible refine HAG.out.mono ?_);rintro e w9 ⟨rfl,hb9⟩;have HB9:=Lh hb9;clear hb9) | go_in)
           go_ret
           exact ⟨ret_bool (by rw [HX.out];rfl),HB.out.trans ((HBT2.out.trans (HB9.out.mono HBT2.out.size)).mono HB.out.size)⟩
end Go.Proofs.YtjbabpnepjhllaaGreat
