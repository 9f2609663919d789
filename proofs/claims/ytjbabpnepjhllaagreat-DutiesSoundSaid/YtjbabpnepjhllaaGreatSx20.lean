/- Part 20 of a claim; what it proves stands in its last text. -/
import Derived.Test.YtjbabpnepjhllaaGreatSx19
import Derived.Test.YtjbabpnepjhllaaGreatSx16
import Derived.Test.YtjbabpnepjhllaaGreatSx15
namespace Go.Proofs.YtjbabpnepjhllaaGreat
open Go.RowKit
set_option maxRecDepth 100000
variable {aD aA aE aF aG aJ u8 aK aL aM aN aO aP aQ aR aS aT aU aV aW aX aY aZ a7 a8 bA bB bC bD bE u32 bF bG bH bI bJ bK bL bM bN : Value}
structure MadeR (w0 w:World) (gm n:Nat) (made:List Bool):Prop where
 below:Below w0.heap.size w0 w
 row:w.ownsRow w0.heap.size 4 1 (.slice (some ⟨gm,0,none⟩) n n) n (made.map Value.bool)
theorem MadeR.len {w0 w:World} {gm n:Nat} {made:List Bool} (h:MadeR w0 w gm n made):made.length=n:=by have:=h.row.1;simpa using this
theorem MadeR.next {w0 w w':World} {gm n:Nat} {made:List Bool} (h:MadeR w0 w gm n made) (hb:Below w.heap.size w w'):MadeR w0 w' gm n made:=⟨h.below.trans (hb.mono h.below.size),own_next h.row hb⟩
theorem MadeR.lt {w0 w:World} {gm n:Nat} {made:List Bool} (h:MadeR w0 w gm n made):gm < w.heap.size∧w0.heap.size≤gm:=own_lt h.row gm rfl
theorem MadeR.set {w0 w:World} {gm n:Nat} {made:List Bool} (h:MadeR w0 w gm n made) (k:Nat) (b:Bool):MadeR w0 (w.setCell ⟨gm,k,none⟩ (.bool b)) gm n (made.set k b):=by
 have hg:=h.lt
 refine ⟨⟨h.below.os,h.below.tape,h.below.output,by simpa using h.below.size,fun j hj=>(Below.heap_setCell _ _ _ j (fun e=>?_)).trans (h.below.block j hj)⟩,?_⟩
 · simp only at e;omega
 · rw [List.map_set];exact own_set h.row k (.bool b)
theorem MadeR.at_ {w0 w:World} {gm n:Nat} {made:List Bool} (h:MadeR w0 w gm n made) {k:Nat} {b:Bool} (hk:made[k]? = some b):w.cell? ⟨gm,k,none⟩=some (.bool b):=own_cell h.row (by rw [List.getElem?_map,hk];rfl)
theorem MadeR.frozen {w0 w:World} {gm n:Nat} {made:List Bool} (h:MadeR w0 w gm n made) (k:Nat):w.frozen? ⟨gm,k,none⟩=false:=own_frozen h.row k
set_option maxHeartbeats 4000000 in
theorem rmk_r5n {g j:Nat} {x:Int} (w:World) (Q:Exit→Act→World→Prop) (hc:w.cell? ⟨g,j,none⟩=some (.int .i64 x)) (hj:j < 5) (hx:decide (0≤x)=false)
   (k:∀ (kD kE kF kG kH kI kJ kK kL kM kN kO kP kQ kR kT kU kV kW kX gR:Value),Q .normal ⟨#[aD,aA,aE,aF,aG,.pointer (some ⟨g,0,none⟩),.int .i64 (j:Nat),aJ,u8,aK,aL,aM,aN,kD,kE,kF,kG,kH,kI,kJ,kK,kL,kM,kN,kO,kP,kQ,kR,kT,kU,kV,kW,kX,gR,.bool false,bH,bI,bJ,bK,bL,bM,bN],[]⟩ w):(partR Tryz.f35 5).wp Tryz.prog Q ⟨#[aD,aA,aE,aF,aG,.pointer (some ⟨g,0,none⟩),.int .i64 (j:Nat),aJ,u8,aK,aL,aM,aN,aO,aP,aQ,aR,aS,aT,aU,aV,aW,aX,aY,aZ,a7,a8,bA,bB,bC,bD,bE,u32,bF,bG,bH,bI,bJ,bK,bL,bM,bN],[]⟩ w:=by
 have HK:=Lh k
 clear k
 conv=>arg 2;whnf
 have i0:(0:Int)≤(j:Int):=by omega
 have i1:(j:Int) < 5:=by omega
 have i2:IntKind.i64.wrap (j:Int)=j:=by rw [IntKind.wrap_i64];omega
 have i3:j < 5:=hj
 go_wp2_with fail
 exact HK.out _ _ _ _ _ _ _ _ _ _ _ _ _ _ _ _ _ _ _ _ _
set_option maxHeartbeats 4000000 in
theorem rmk_r5 {gm g b j n v:Nat} {k0:Int} {q:Bool} (w:World) (Q:Exit→Act→World→Prop) (hc:w.cell? ⟨g,j,none⟩=some (.int .i64 (v:Nat))) (hk0:w.cell? ⟨b,0,none⟩=some (.int .i64 k0)) (hq:w.cell? ⟨gm,v,none⟩=some (.bool q)) (hj:j < 5) (hvn:v < n) (hn:n≤100000)
   (k:∀ (kD kE kF kG kH kI kJ kK kL kM kN kO kP kQ kR kT kU kV kW kX gR:Value),Q .normal ⟨#[.slice (some ⟨gm,0,none⟩) n n,aA,aE,.pointer (some ⟨b,0,none⟩),aG,.pointer (some ⟨g,0,none⟩),.int .i64 (j:Nat),aJ,u8,aK,aL,aM,aN,kD,kE,kF,kG,kH,kI,kJ,kK,kL,kM,kN,kO,kP,kQ,kR,kT,kU,kV,kW,kX,gR,.bool ((decide (2≤j) || (k0 == 14)) && !q),bH,bI,bJ,bK,bL,bM,bN],[]⟩ w):(partR Tryz.f35 5).wp Tryz.prog Q ⟨#[.slice (some ⟨gm,0,none⟩) n n,aA,aE,.pointer (some ⟨b,0,none⟩),aG,.pointer (some ⟨g,0,none⟩),.int .i64 (j:Nat),aJ,u8,aK,aL,aM,aN,aO,aP,aQ,aR,aS,aT,aU,aV,aW,aX,aY,aZ,a7,a8,bA,bB,bC,bD,bE,u32,bF,bG,bH,bI,bJ,bK,bL,bM,bN],[]⟩ w:=by
 have HK:=Lh k
 clear k
 conv=>arg 2;whnf
 have i0:(0:Int)≤(j:Int):=by omega
 have i1:(j:Int) < 5:=by omega
 have i2:IntKind.i64.wrap (j:Int)=j:=by rw [IntKind.wrap_i64];omega
 have i3:j < 5:=hj
 have j0:(0:Int)≤(v:Int):=by omega
 have j1:(v:Int) < (n:Int):=by omega
 have j2:IntKind.i64.wrap (v:Int)=v:=by rw [IntKind.wrap_i64];omega
 by_cases h2:2≤j
 · have d2:decide ((2:Int)≤(j:Int))=true:=decide_eq_true (by omega)
   rw [decide_eq_true h2,Bool.true_or,Bool.true_and] at HK
   clear h2
   go_wp2_with fail
   exact HK.out _ _ _ _ _ _ _ _ _ _ _ _ _ _ _ _ _ _ _ _ _
 · have d2:decide ((2:Int)≤(j:Int))=false:=decide_eq_false (by omega)
   rw [decide_eq_false h2,Bool.false_or] at HK
   clear h2
   cases d3:(k0 == 14)
   · rw [d3,Bool.false_and] at HK
     go_wp2_with fail
     exact HK.out _ _ _ _ _ _ _ _ _ _ _ _ _ _ _ _ _ _ _ _ _
   · rw [d3,Bool.true_and] at HK
     go_wp2_with fail
     exact HK.out _ _ _ _ _ _ _ _ _ _ _ _ _ _ _ _ _ _ _ _ _
def lackL (ml:List Bool) (o:KOp):List Bool:=[decide (0≤o.d) && ((decide (2≤0) || (o.kind == 14)) && !(ml.getD o.d.toNat false)),decide (0≤o.e) && ((decide (2≤1) || (o.kind == 14)) && !(ml.getD o.e.toNat false)),decide (0≤o.a) && ((decide (2≤2) || (o.kind == 14)) && !(ml.getD o.a.toNat false)),decide (0≤o.b) && ((decide (2≤3) || (o.kind == 14)) && !(ml.getD o.b.toNat false)),decide (0≤o.c) && ((decide (2≤4) || (o.kind == 14)) && !(ml.getD o.c.toNat false))]
def lackF (ml:List Bool) (o:KOp):Bool:=(takesK o).any fun v=>!(ml.getD v.toNat false)
theorem lack_eq {ml:List Bool} {o:KOp} (h:o.kind=14→0≤o.d∧0≤o.e):(lackL ml o).any id=lackF ml o:=by
 have key:∀ x:Int,(decide (0≤x) && !(ml.getD x.toNat false))=([x].filter fun v=>decide (0≤v)).any fun v=>!(ml.getD v.toNat false):=fun x=>by
   by_cases hx:0≤x
   · rw [List.filter_cons,if_pos (by simpa using hx)];simp [hx]
   · rw [List.filter_cons,if_neg (by simpa using hx)];simp [hx]
 have h3:∀ (p q:Int→Bool),([o.a,o.b,o.c].filter p).any q=(([o.a].filter p).any q || (([o.b].filter p).any q || ([o.c].filter p).any q)):=by
   intro p q
   simp only [List.filter_cons,List.filter_nil]
   split <;> split <;> split <;> simp
 unfold lackF takesK
 rw [List.any_append,h3,←key o.a,←key o.b,←key o.c]
 simp only [lackL,List.any_cons,List.any_nil,id,Bool.or_false,show decide (2≤0)=false from rfl,show decide (2≤1)=false from rfl,show decide (2≤2)=true from rfl,show decide (2≤3)=true from rfl,show decide (2≤4)=true from rfl,Bool.false_or,Bool.true_or,Bool.true_and]
 by_cases h14:o.kind=14
 · obtain ⟨hd,he⟩:=h h14
   rw [if_pos h14,show (o.kind == 14)=true from beq_iff_eq.2 h14,decide_eq_true hd,decide_eq_true he]
   simp only [List.any_cons,List.any_nil,Bool.or_false,Bool.true_and]
   generalize (!(ml.getD o.d.toNat false))=x1
   generalize (!(ml.getD o.e.toNat false))=x2
   generalize (decide (0≤o.a) && !(ml.getD o.a.toNat false))=x3
   generalize (decide (0≤o.b) && !(ml.getD o.b.toNat false))=x4
   generalize (decide (0≤o.c) && !(ml.getD o.c.toNat false))=x5
   cases x1 <;> cases x2 <;> cases x3 <;> cases x4 <;> cases x5 <;> rfl
 · rw [if_neg h14,show (o.kind == 14)=false from beq_eq_false_iff_ne.2 h14]
   simp
theorem none_next {l:List Bool} {k:Nat} (h:(l.take k).any id=false) (hx:l[k]? = some false):(l.take (k+1)).any id=false:=by
 rw [List.take_add_one,hx]
 simp [h]
theorem none_stop {l:List Bool} {k:Nat} (hx:l[k]? = some true):l.any id=true:=List.any_eq_true.2 ⟨true,List.mem_of_getElem? hx,rfl⟩
def madeK (ml:List Bool) (o:KOp):List Bool:=if lackF ml o=true then ml else if 0≤o.d then ml.set o.d.toNat true else ml
set_option maxHeartbeats 20000000 in
theorem makes_any (gm n:Nat) (ml:List Bool) (o:KOp) (w0 w:World) (hm:MadeR w0 w gm n ml) (hr:o.d < (n:Int)∧o.e < (n:Int)∧o.a < (n:Int)∧o.b < (n:Int)∧o.c < (n:Int)) (h14:o.kind=14→0≤o.d∧0≤o.e) (hn:n≤100000) :
   Calls Tryz.prog 35 #[.slice (some ⟨gm,0,none⟩) n n,.agg #[.int .i64 o.kind,.int .i64 o.d,.int .i64 o.e,.int .i64 o.a,.int .i64 o.b,.int .i64 o.c,.int .u64 o.imm]] w fun e w'=>e=.returned (.bool (!lackF ml o))∧MadeR w0 w' gm n (madeK ml o):=by
 obtain ⟨W,hW⟩:∃ W,W=w.alloc (.cells #[.int .i64 o.kind,.int .i64 o.d,.int .i64 o.e,.int .i64 o.a,.int .i64 o.b,.int .i64 o.c,.int .u64 o.imm] 43):=⟨_,rfl⟩
 have hb:Below w.heap.size w W:=by rw [hW];exact (Below.refl _ _).alloc (Nat.le_refl _) _
 have hbk:W.heap[w.heap.size]? = some (.cells #[.int .i64 o.kind,.int .i64 o.d,.int .i64 o.e,.int .i64 o.a,.int .i64 o.b,.int .i64 o.c,.int .u64 o.imm] 43 (0,0)):=by rw [hW];exact heap_alloc_new w _
 have HBX:=Lh (OpBox.of hbk)
 have HLT:=Lh (lt_of_block hbk)
 have HW:=Lh hW
 have HM:=Lh (hm.next hb)
 have HR:=Lh hr
 have H14:=Lh h14
 have c0:=HBX.out.kind
 have c1:=HBX.out.d
 have c2:=HBX.out.e
 have c3:=HBX.out.a
 have c4:=HBX.out.b
 have c5:=HBX.out.c
 have c6:=HBX.out.imm
 clear hW hb hbk hm hr h14
 go_enter Tryz.func35,Tryz.ntmps35
 go_upto_region 1 with (first | go_in)
 rw [←HW.out]
 clear HW
 go_upto_region 2 with (first | ((with_reducible refine (rfields_any o _).mono ?_);rintro e w1 ⟨rfl,hb1⟩;have HB1:=Lh hb1;clear hb1) | go_in)
 clear c0 c1 c2 c3 c4 c5 c6
 obtain ⟨W2,hW2⟩:∃ W,W=w1.alloc (.cells (fiveV o) 90):=⟨_,rfl⟩
 rw [show w1.alloc (.cells #[.int .i64 o.d,.int .i64 o.e,.int .i64 o.a,.int .i64 o.b,.int .i64 o.c] 90)=W2 from hW2.symm]
 obtain ⟨g,hg⟩:∃ g,g=w1.heap.size:=⟨_,rfl⟩
 have hb2:Below W.heap.size W W2:=by rw [hW2];exact HB1.out.alloc HB1.out.size _
 have harr:W2.heap[g]? = some (.cells (fiveV o) 90 (0,0)):=by rw [hW2,hg];exact heap_alloc_new w1 _
 rw [←hg]
 have HWB:=Lh (And.intro (HBX.out.next hb2 HLT.out) (And.intro (Nat.lt_of_lt_of_le HLT.out hb2.size) harr))
 have HM2:=Lh (HM.out.next hb2)
 clear hW2 hg hb2 harr
 go_wp2
 go_loopw [4,6] (fun s4 s6 wr=>∃ j:Nat,j≤5∧s6=.int .i64 (j:Nat)∧s4=.bool false∧Below W2.heap.size W2 wr∧Hid (((lackL ml o).take j).any id=false)) (fun _ s6 _=>5 - (intOf s6).toNat)
 case atStart=>exact ⟨0,by omega,rfl,rfl,Below.refl _ _,Lh rfl⟩
 case round =>
   obtain ⟨j,hj5,rfl,rfl,hbr,HT⟩:=hrel
   have HB3:=Lh hbr
   have HMR:=Lh (HM2.out.next hbr)
   have HWR:=Lh (show OneW wr w.heap.size g none 0 0 [] o from ⟨HWB.out.1.next hbr HWB.out.2.1,Nat.lt_of_lt_of_le HWB.out.2.1 hbr.size,(hbr.block g (lt_of_block HWB.out.2.2)).trans HWB.out.2.2,⟨none,0,rfl,by simp,by simp,fun h=>absurd rfl h⟩⟩)
   clear hbr
   obtain rfl | rfl | rfl | rfl | rfl | rfl:j=0∨j=1∨j=2∨j=3∨j=4∨j=5:=by omega
   · clear hj5
     have hc0:=HWR.out.cell (j:=0) (v:=.int .i64 o.d) rfl
     cases d0:decide (0≤o.d)
     · have HN:=Lh (none_next (l:=lackL ml o) (k:=0) HT.out (by
         show some (decide (0≤o.d) && _)=_
         rw [d0];rfl))
       go_upto_region 5 with fail
       refine wp_code (c:=partR Tryz.f35 5) (by kernel_rfl) ?_
       refine rmk_r5n (x:=o.d) (g:=g) (j:=0) _ _ hc0 (by omega) d0 ?_
       intro a13 a14 a15 a16 a17 a18 a19 a20 a21 a22 a23 a24 a25 a26 a27 a28 a29 a30 a31 a32 a33
       clear hc0 d0
       go_wp2
       go_roundw
       case rel=>exact ⟨0+1,by omega,rfl,rfl,HB3.out,HN⟩
       case measure=>simp [intOf]
     · obtain ⟨v,hv⟩:∃ v:Nat,o.d=v:=⟨o.d.toNat,by have:=of_decide_eq_true d0;omega⟩
       have hvn:v < n:=by have:=HR.out.1;omega
       obtain ⟨q,hq⟩:∃ q,ml[v]? = some q:=⟨_,List.getElem?_eq_getElem (by have:=HM.out.len;omega)⟩
       have hqc:=HMR.out.at_ hq
       have hl:(lackL ml o)[0]? = some ((decide (2≤0) || (o.kind == 14)) && !q):=by
         show some (decide (0≤o.d) && ((decide (2≤0) || (o.kind == 14)) && !(ml.getD o.d.toNat false)))=_
         rw [d0,Bool.true_and,hv,Int.toNat_natCast,List.getD_eq_getElem?_getD,hq]
         rfl
       have HLL:=Lh hl
       rw [hv] at hc0
       clear d0 hv hq hl
       go_upto_region 5 with fail
       refine wp_code (c:=partR Tryz.f35 5) (by kernel_rfl) ?_
       refine rmk_r5 (k0:=o.kind) (gm:=gm) (b:=w.heap.size) (n:=n) (g:=g) (j:=0) (v:=v) (q:=q) _ _ hc0 HWR.out.box.kind hqc (by omega) hvn hn ?_
       intro a13 a14 a15 a16 a17 a18 a19 a20 a21 a22 a23 a24 a25 a26 a27 a28 a29 a30 a31 a32 a33
       clear hc0 hqc
       cases hz:((decide (2≤0) || (o.kind == 14)) && !q)
       · have HN:=Lh (none_next (l:=lackL ml o) (k:=0) HT.out (by rw [HLL.out,hz]))
         clear hz
         go_wp2
         go_roundw
         case rel=>exact ⟨0+1,by omega,rfl,rfl,HB3.out,HN⟩
         case measure=>simp [intOf]
       · have HN:=Lh (show lackF ml o=true by rw [←lack_eq H14.out];exact none_stop (k:=0) (by rw [HLL.out,hz]))
         clear hz
         go_wp2
         go_ret
         refine ⟨ret_bool (by rw [HN.out];rfl),?_⟩
         unfold madeK
         rw [if_pos HN.out]
         exact HMR.out
   · clear hj5
     have hc0:=HWR.out.cell (j:=1) (v:=.int .i64 o.e) rfl
     cases d0:decide (0≤o.e)
     · have HN:=Lh (none_next (l:=lackL ml o) (k:=1) HT.out (by
         show some (decide (0≤o.e) && _)=_
         rw [d0];rfl))
       go_upto_region 5 with fail
       refine wp_code (c:=partR Tryz.f35 5) (by kernel_rfl) ?_
       refine rmk_r5n (x:=o.e) (g:=g) (j:=1) _ _ hc0 (by omega) d0 ?_
       intro a13 a14 a15 a16 a17 a18 a19 a20 a21 a22 a23 a24 a25 a26 a27 a28 a29 a30 a31 a32 a33
       clear hc0 d0
       go_wp2
       go_roundw
       case rel=>exact ⟨1+1,by omega,rfl,rfl,HB3.out,HN⟩
       case measure=>simp [intOf]
     · obtain ⟨v,hv⟩:∃ v:Nat,o.e=v:=⟨o.e.toNat,by have:=of_decide_eq_true d0;omega⟩
       have hvn:v < n:=by have:=HR.out.2.1;omega
       obtain ⟨q,hq⟩:∃ q,ml[v]? = some q:=⟨_,List.getElem?_eq_getElem (by have:=HM.out.len;omega)⟩
       have hqc:=HMR.out.at_ hq
       have hl:(lackL ml o)[1]? = some ((decide (2≤1) || (o.kind == 14)) && !q):=by
         show some (decide (0≤o.e) && ((decide (2≤1) || (o.kind == 14)) && !(ml.getD o.e.toNat false)))=_
         rw [d0,Bool.true_and,hv,Int.toNat_natCast,List.getD_eq_getElem?_getD,hq]
         rfl
       have HLL:=Lh hl
       rw [hv] at hc0
       clear d0 hv hq hl
       go_upto_region 5 with fail
       refine wp_code (c:=partR Tryz.f35 5) (by kernel_rfl) ?_
       refine rmk_r5 (k0:=o.kind) (gm:=gm) (b:=w.heap.size) (n:=n) (g:=g) (j:=1) (v:=v) (q:=q) _ _ hc0 HWR.out.box.kind hqc (by omega) hvn hn ?_
       intro a13 a14 a15 a16 a17 a18 a19 a20 a21 a22 a23 a24 a25 a26 a27 a28 a29 a30 a31 a32 a33
       clear hc0 hqc
       cases hz:((decide (2≤1) || (o.kind == 14)) && !q)
       · have HN:=Lh (none_next (l:=lackL ml o) (k:=1) HT.out (by rw [HLL.out,hz]))
         clear hz
         go_wp2
         go_roundw
         case rel=>exact ⟨1+1,by omega,rfl,rfl,HB3.out,HN⟩
         case measure=>simp [intOf]
       · have HN:=Lh (show lackF ml o=true by rw [←lack_eq H14.out];exact none_stop (k:=1) (by rw [HLL.out,hz]))
         clear hz
         go_wp2
         go_ret
         refine ⟨ret_bool (by rw [HN.out];rfl),?_⟩
         unfold madeK
         rw [if_pos HN.out]
         exact HMR.out
   · clear hj5
     have hc0:=HWR.out.cell (j:=2) (v:=.int .i64 o.a) rfl
     cases d0:decide (0≤o.a)
     · have HN:=Lh (none_next (l:=lackL ml o) (k:=2) HT.out (by
         show some (decide (0≤o.a) && _)=_
         rw [d0];rfl))
       go_upto_region 5 with fail
       refine wp_code (c:=partR Tryz.f35 5) (by kernel_rfl) ?_
       refine rmk_r5n (x:=o.a) (g:=g) (j:=2) _ _ hc0 (by omega) d0 ?_
       intro a13 a14 a15 a16 a17 a18 a19 a20 a21 a22 a23 a24 a25 a26 a27 a28 a29 a30 a31 a32 a33
       clear hc0 d0
       go_wp2
       go_roundw
       case rel=>exact ⟨2+1,by omega,rfl,rfl,HB3.out,HN⟩
       case measure=>simp [intOf]
     · obtain ⟨v,hv⟩:∃ v:Nat,o.a=v:=⟨o.a.toNat,by have:=of_decide_eq_true d0;omega⟩
       have hvn:v < n:=by have:=HR.out.2.2.1;omega
       obtain ⟨q,hq⟩:∃ q,ml[v]? = some q:=⟨_,List.getElem?_eq_getElem (by have:=HM.out.len;omega)⟩
       have hqc:=HMR.out.at_ hq
       have hl:(lackL ml o)[2]? = some ((decide (2≤2) || (o.kind == 14)) && !q):=by
         show some (decide (0≤o.a) && ((decide (2≤2) || (o.kind == 14)) && !(ml.getD o.a.toNat false)))=_
         rw [d0,Bool.true_and,hv,Int.toNat_natCast,List.getD_eq_getElem?_getD,hq]
         rfl
       have HLL:=Lh hl
       rw [hv] at hc0
       clear d0 hv hq hl
       go_upto_region 5 with fail
       refine wp_code (c:=partR Tryz.f35 5) (by kernel_rfl) ?_
       refine rmk_r5 (k0:=o.kind) (gm:=gm) (b:=w.heap.size) (n:=n) (g:=g) (j:=2) (v:=v) (q:=q) _ _ hc0 HWR.out.box.kind hqc (by omega) hvn hn ?_
       intro a13 a14 a15 a16 a17 a18 a19 a20 a21 a22 a23 a24 a25 a26 a27 a28 a29 a30 a31 a32 a33
       clear hc0 hqc
       cases hz:((decide (2≤2) || (o.kind == 14)) && !q)
       · have HN:=Lh (none_next (l:=lackL ml o) (k:=2) HT.out (by rw [HLL.out,hz]))
         clear hz
         go_wp2
         go_roundw
         case rel=>exact ⟨2+1,by omega,rfl,rfl,HB3.out,HN⟩
         case measure=>simp [intOf]
       · have HN:=Lh (show lackF ml o=true by rw [←lack_eq H14.out];exact none_stop (k:=2) (by rw [HLL.out,hz]))
         clear hz
         go_wp2
         go_ret
         refine ⟨ret_bool (by rw [HN.out];rfl),?_⟩
         unfold madeK
         rw [if_pos HN.out]
         exact HMR.out
   · clear hj5
     have hc0:=HWR.out.cell (j:=3) (v:=.int .i64 o.b) rfl
     cases d0:decide (0≤o.b)
     · have HN:=Lh (none_next (l:=lackL ml o) (k:=3) HT.out (by
         show some (decide (0≤o.b) && _)=_
         rw [d0];rfl))
       go_upto_region 5 with fail
       refine wp_code (c:=partR Tryz.f35 5) (by kernel_rfl) ?_
       refine rmk_r5n (x:=o.b) (g:=g) (j:=3) _ _ hc0 (by omega) d0 ?_
       intro a13 a14 a15 a16 a17 a18 a19 a20 a21 a22 a23 a24 a25 a26 a27 a28 a29 a30 a31 a32 a33
       clear hc0 d0
       go_wp2
       go_roundw
       case rel=>exact ⟨3+1,by omega,rfl,rfl,HB3.out,HN⟩
       case measure=>simp [intOf]
     · obtain ⟨v,hv⟩:∃ v:Nat,o.b=v:=⟨o.b.toNat,by have:=of_decide_eq_true d0;omega⟩
       have hvn:v < n:=by have:=HR.out.2.2.2.1;omega
       obtain ⟨q,hq⟩:∃ q,ml[v]? = some q:=⟨_,List.getElem?_eq_getElem (by have:=HM.out.len;omega)⟩
       have hqc:=HMR.out.at_ hq
       have hl:(lackL ml o)[3]? = some ((decide (2≤3) || (o.kind == 14)) && !q):=by
         show some (decide (0≤o.b) && ((decide (2≤3) || (o.kind == 14)) && !(ml.getD o.b.toNat false)))=_
         rw [d0,Bool.true_and,hv,Int.toNat_natCast,List.getD_eq_getElem?_getD,hq]
         rfl
       have HLL:=Lh hl
       rw [hv] at hc0
       clear d0 hv hq hl
       go_upto_region 5 with fail
       refine wp_code (c:=partR Tryz.f35 5) (by kernel_rfl) ?_
       refine rmk_r5 (k0:=o.kind) (gm:=gm) (b:=w.heap.size) (n:=n) (g:=g) (j:=3) (v:=v) (q:=q) _ _ hc0 HWR.out.box.kind hqc (by omega) hvn hn ?_
       intro a13 a14 a15 a16 a17 a18 a19 a20 a21 a22 a23 a24 a25 a26 a27 a28 a29 a30 a31 a32 a33
       clear hc0 hqc
       cases hz:((decide (2≤3) || (o.kind == 14)) && !q)
       · have HN:=Lh (none_next (l:=lackL ml o) (k:=3) HT.out (by rw [HLL.out,hz]))
         clear hz
         go_wp2
         go_roundw
         case rel=>exact ⟨3+1,by omega,rfl,rfl,HB3.out,HN⟩
         case measure=>simp [intOf]
       · have HN:=Lh (show lackF ml o=true by rw [←lack_eq H14.out];exact none_stop (k:=3) (by rw [HLL.out,hz]))
         clear hz
         go_wp2
         go_ret
         refine ⟨ret_bool (by rw [HN.out];rfl),?_⟩
         unfold madeK
         rw [if_pos HN.out]
         exact HMR.out
   · clear hj5
     have hc0:=HWR.out.cell (j:=4) (v:=.int .i64 o.c) rfl
     cases d0:decide (0≤o.c)
     · have HN:=Lh (none_next (l:=lackL ml o) (k:=4) HT.out (by
         show some (decide (0≤o.c) && _)=_
         rw [d0];rfl))
       go_upto_region 5 with fail
       refine wp_code (c:=partR Tryz.f35 5) (by kernel_rfl) ?_
       refine rmk_r5n (x:=o.c) (g:=g) (j:=4) _ _ hc0 (by omega) d0 ?_
       intro a13 a14 a15 a16 a17 a18 a19 a20 a21 a22 a23 a24 a25 a26 a27 a28 a29 a30 a31 a32 a33
       clear hc0 d0
       go_wp2
       go_roundw
       case rel=>exact ⟨4+1,by omega,rfl,rfl,HB3.out,HN⟩
       case measure=>simp [intOf]
     · obtain ⟨v,hv⟩:∃ v:Nat,o.c=v:=⟨o.c.toNat,by have:=of_decide_eq_true d0;omega⟩
       have hvn:v < n:=by have:=HR.out.2.2.2.2;omega
       obtain ⟨q,hq⟩:∃ q,ml[v]? = some q:=⟨_,List.getElem?_eq_getElem (by have:=HM.out.len;omega)⟩
       have hqc:=HMR.out.at_ hq
       have hl:(lackL ml o)[4]? = some ((decide (2≤4) || (o.kind == 14)) && !q):=by
         show some (decide (0≤o.c) && ((decide (2≤4) || (o.kind == 14)) && !(ml.getD o.c.toNat false)))=_
         rw [d0,Bool.true_and,hv,Int.toNat_natCast,List.getD_eq_getElem?_getD,hq]
         rfl
       have HLL:=Lh hl
       rw [hv] at hc0
       clear d0 hv hq hl
       go_upto_region 5 with fail
       refine wp_code (c:=partR Tryz.f35 5) (by kernel_rfl) ?_
       refine rmk_r5 (k0:=o.kind) (gm:=gm) (b:=w.heap.size) (n:=n) (g:=g) (j:=4) (v:=v) (q:=q) _ _ hc0 HWR.out.box.kind hqc (by omega) hvn hn ?_
       intro a13 a14 a15 a16 a17 a18 a19 a20 a21 a22 a23 a24 a25 a26 a27 a28 a29 a30 a31 a32 a33
       clear hc0 hqc
       cases hz:((decide (2≤4) || (o.kind == 14)) && !q)
       · have HN:=Lh (none_next (l:=lackL ml o) (k:=4) HT.out (by rw [HLL.out,hz]))
         clear hz
         go_wp2
         go_roundw
         case rel=>exact ⟨4+1,by omega,rfl,rfl,HB3.out,HN⟩
         case measure=>simp [intOf]
       · have HN:=Lh (show lackF ml o=true by rw [←lack_eq H14.out];exact none_stop (k:=4) (by rw [HLL.out,hz]))
         clear hz
         go_wp2
         go_ret
         refine ⟨ret_bool (by rw [HN.out];rfl),?_⟩
         unfold madeK
         rw [if_pos HN.out]
         exact HMR.out
   · clear hj5
     have HLF:=Lh (show lackF ml o=false by rw [←lack_eq H14.out];exact HT.out)
     have c0:=HWR.out.box.kind
     have c1:=HWR.out.box.d
     cases d0:decide (0≤o.d)
     · have HMK:=Lh (show madeK ml o=ml by
         unfold madeK
         rw [HLF.out,if_neg (by simp),if_neg (of_decide_eq_false d0)])
       go_wp2
       go_ret
       exact ⟨ret_bool (by rw [HLF.out];rfl),by rw [HMK.out];exact HMR.out⟩
     · obtain ⟨v,hv⟩:∃ v:Nat,o.d=v:=⟨o.d.toNat,by have:=of_decide_eq_true d0;omega⟩
       have hvn:v < n:=by have:=HR.out.1;omega
       obtain ⟨q,hq⟩:∃ q,ml[v]? = some q:=⟨_,List.getElem?_eq_getElem (by have:=HM.out.len;omega)⟩
       have hqc:=HMR.out.at_ hq
       have hfz:=HMR.out.frozen v
       have HMK:=Lh (show madeK ml o=ml.set v true by
         unfold madeK
         rw [HLF.out,if_neg (by simp),if_pos (of_decide_eq_true d0),hv,Int.toNat_natCast])
       have HSE:=Lh (HMR.out.set v true)
       rw [hv] at c1
       have j0:(0:Int)≤(v:Int):=by omega
       have j1:(v:Int) < (n:Int):=by omega
       have j2:IntKind.i64.wrap (v:Int)=v:=by rw [IntKind.wrap_i64];omega
       clear d0 hv hq
       go_wp2
       go_ret
       exact ⟨ret_bool (by rw [HLF.out];rfl),by rw [HMK.out];exact HSE.out⟩
end Go.Proofs.YtjbabpnepjhllaaGreat
namespace Go.Proofs.YtjbabpnepjhllaaGreat
open Go.RowKit
set_option maxRecDepth 100000
variable {aD aH aI aJ u8 aK aL aM aN aO aP aQ aR aS aT aU aV aW aX aY aZ a7 a8 bA bB bC bD bE u32 bF bG bH bI bJ bK bL bM bN bO bP bQ bR bS bT bU bV bW bX bY bZ b9 cA cB cC cD cE cF cG cH cI u64 cJ cK cL cM cN cO cP cQ cR cS cT cU cV cW cX cY cZ dA dB dC dD dE dF dG dH dI dJ dK dL dM dN dO dP dQ dR dS dT dU dV dW dX dY dZ eA eB eC eD eE fV fW fX fY fZ f7 f8 f9 gA gB gC gD gE gF gG gH gI gJ gK gL gM gN gO gP gQ jU jV kY kZ lA lB lC lD lE lF lG lH lI lJ lK lL lM lN lO lP lQ lR lS lT lU lV lW lX lY lZ l5 l6 l7 l8 l9 mA mB mC mD mE mF mG mH mI mJ mK mL mM mN mO mP mQ mR mS mT mU mV mW mX mY mZ m5 m6 m7 m8 m9 nA nB nC nD nE nF nG nH nI nJ nK nL nM nN nO nP nQ nR nS nT nU nV nW nX nY nZ n0 oA oB oC oD oE oF oG oH oI oJ oK oL oM oN oO oP : Value}
set_option maxHeartbeats 20000000 in
theorem rchk_b0 {Av Ao Ar:Option Addr} {nv cv no co nr cr b0:Nat} {k:Krn} (w:World) (Q:Exit→Act→World→Prop) (hk:KBox w b0 Av nv cv Ao no co Ar nr cr k) (hok:k.vars.length≤100000)
   (k1:∀ (m:Nat),varTo k.vars k.vars.length=some m→∀ (jT aB gT gU gV eF eG eH eI eJ eK eL eM eN eO eP eQ eR eS eT eU eV eW eX eY eZ fA fB jW jX oQ jY jZ kA gY gZ g9 hI hO hZ iA iB iC iD fC fD fE fF fG fH fI fJ fK fL fM fN fO fP fQ fR fS fT fU iF iG iH:Value) (w':World),Below w.heap.size w w'→Q ((.exit 0)) ⟨#[aD,.pointer (some ⟨b0,0,none⟩),.int .i64 0,.int .i64 (m:Nat),jT,aB,aI,aJ,u8,aK,aL,aM,aN,aO,aP,aQ,aR,aS,aT,aU,aV,aW,aX,aY,aZ,a7,a8,bA,bB,bC,bD,bE,u32,bF,bG,gT,gU,gV,eF,eG,eH,eI,eJ,eK,eL,eM,eN,eO,eP,eQ,eR,eS,eT,eU,eV,eW,eX,eY,eZ,fA,fB,jW,jX,oQ,jY,jZ,kA,gY,gZ,g9,hI,hO,hZ,iA,iB,iC,iD,fC,fD,fE,fF,fG,fH,fI,fJ,fK,fL,fM,fN,fO,fP,fQ,fR,fS,fT,fU,iF,iG,iH,dR,dS,dT,dU,dV,dW,dX,dY,dZ,eA,eB,eC,eD,eE,fV,fW,fX,fY,fZ,f7,f8,f9,gA,gB,gC,gD,gE,gF,gG,gH,gI,gJ,gK,gL,gM,gN,gO,gP,gQ,jU,jV,kY,kZ,lA,lB,lC,lD,lE,lF,lG,lH,lI,lJ,lK,lL,lM,lN,lO,lP,lQ,lR,lS,lT,lU,lV,lW,lX,lY,lZ,l5,l6,l7,l8,l9,mA,mB,mC,mD,mE,mF,mG,mH,mI,mJ,mK,mL,mM,mN,mO,mP,mQ,mR,mS,mT,mU,mV,mW,mX,mY,mZ,m5,m6,m7,m8,m9,nA,nB,nC,nD,nE,nF,nG,nH,nI,nJ,nK,nL,nM,nN,nO,nP,nQ,nR,nS,nT,nU,nV,nW,nX,nY,nZ,n0,oA,oB,oC,oD,oE,oF,oG,oH,oI,oJ,oK,oL,oM,oN,oO,oP],[]⟩ w') (k2:varsK k.vars=false→∀ (aC jT aB gT gU gV eF eG eH eI eJ eK eL eM eN eO eP eQ eR eS eT eU eV eW eX eY eZ fA fB jW jX oQ jY jZ kA gY gZ g9 hI hO hZ iA iB iC iD fC fD fE fF fG fH fI fJ fK fL fM fN fO fP fQ fR fS fT fU iF iG iH:Value) (w':World),Below w.heap.size w w'→Q (.ret) ⟨#[aD,.pointer (some ⟨b0,0,none⟩),.int .i64 2,aC,jT,aB,aI,aJ,u8,aK,aL,aM,aN,aO,aP,aQ,aR,aS,aT,aU,aV,aW,aX,aY,aZ,a7,a8,bA,bB,bC,bD,bE,u32,bF,bG,gT,gU,gV,eF,eG,eH,eI,eJ,eK,eL,eM,eN,eO,eP,eQ,eR,eS,eT,eU,eV,eW,eX,eY,eZ,fA,fB,jW,jX,oQ,jY,jZ,kA,gY,gZ,g9,hI,hO,hZ,iA,iB,iC,iD,fC,fD,fE,fF,fG,fH,fI,fJ,fK,fL,fM,fN,fO,fP,fQ,fR,fS,fT,fU,iF,iG,iH,dR,dS,dT,dU,dV,dW,dX,dY,dZ,eA,eB,eC,eD,eE,fV,fW,fX,fY,fZ,f7,f8,f9,gA,gB,gC,gD,gE,gF,gG,gH,gI,gJ,gK,gL,gM,gN,gO,gP,gQ,jU,jV,kY,kZ,lA,lB,lC,lD,lE,lF,lG,lH,lI,lJ,lK,lL,lM,lN,lO,lP,lQ,lR,lS,lT,lU,lV,lW,lX,lY,lZ,l5,l6,l7,l8,l9,mA,mB,mC,mD,mE,mF,mG,mH,mI,mJ,mK,mL,mM,mN,mO,mP,mQ,mR,mS,mT,mU,mV,mW,mX,mY,mZ,m5,m6,m7,m8,m9,nA,nB,nC,nD,nE,nF,nG,nH,nI,nJ,nK,nL,nM,nN,nO,nP,nQ,nR,nS,nT,nU,nV,nW,nX,nY,nZ,n0,oA,oB,oC,oD,oE,oF,oG,oH,oI,oJ,oK,oL,oM,oN,oO,oP],[]⟩ w'):(partL Tryz.f11 0).wp Tryz.prog Q ⟨#[aD,.pointer (some ⟨b0,0,none⟩),.int .i64 0,.int .i64 0,.int .i64 0,aH,aI,aJ,u8,aK,aL,aM,aN,aO,aP,aQ,aR,aS,aT,aU,aV,aW,aX,aY,aZ,a7,a8,bA,bB,bC,bD,bE,u32,bF,bG,bH,bI,bJ,bK,bL,bM,bN,bO,bP,bQ,bR,bS,bT,bU,bV,bW,bX,bY,bZ,b9,cA,cB,cC,cD,cE,cF,cG,cH,cI,u64,cJ,cK,cL,cM,cN,cO,cP,cQ,cR,cS,cT,cU,cV,cW,cX,cY,cZ,dA,dB,dC,dD,dE,dF,dG,dH,dI,dJ,dK,dL,dM,dN,dO,dP,dQ,dR,dS,dT,dU,dV,dW,dX,dY,dZ,eA,eB,eC,eD,eE,fV,fW,fX,fY,fZ,f7,f8,f9,gA,gB,gC,gD,gE,gF,gG,gH,gI,gJ,gK,gL,gM,gN,gO,gP,gQ,jU,jV,kY,kZ,lA,lB,lC,lD,lE,lF,lG,lH,lI,lJ,lK,lL,lM,lN,lO,lP,lQ,lR,lS,lT,lU,lV,lW,lX,lY,lZ,l5,l6,l7,l8,l9,mA,mB,mC,mD,mE,mF,mG,mH,mI,mJ,mK,mL,mM,mN,mO,mP,mQ,mR,mS,mT,mU,mV,mW,mX,mY,mZ,m5,m6,m7,m8,m9,nA,nB,nC,nD,nE,nF,nG,nH,nI,nJ,nK,nL,nM,nN,nO,nP,nQ,nR,nS,nT,nU,nV,nW,nX,nY,nZ,n0,oA,oB,oC,oD,oE,oF,oG,oH,oI,oJ,oK,oL,oM,oN,oO,oP],[]⟩ w:=by
 have HK:=Lh hk
 have K1:=Lh k1
 have K2:=Lh k2
 have HNV:=Lh hk.nv.1
 have n5:nv≤100000:=by have:=hk.nv.1;omega
 clear hk hok k1 k2
 conv=>arg 2;whnf
 go_wp2
 go_loopw [2,3,4,5] (fun s2 s3 s4 _ wr=>∃ j m:Nat,j≤nv∧s4=.int .i64 (j:Nat)∧s3=.int .i64 (m:Nat)∧s2=.int .i64 0∧Hid (varTo k.vars j=some m)∧Below w.heap.size w wr) (fun _ _ s4 _ _=>nv - (intOf s4).toNat)
 case atStart=>exact ⟨0,0,by omega,rfl,rfl,rfl,Lh rfl,Below.refl _ _⟩
 case round =>
   obtain ⟨j,m,hj,rfl,rfl,rfl,HT,hb⟩:=hrel
   have HB:=Lh hb
   have HKR:=Lh (HK.out.next hb)
   have hmk:=varTo_le HT.out
   have p0:=HKR.out.c0
   have p1:=HKR.out.c1
   have p2:=HKR.out.c2
   by_cases hlt:j < nv
   · have d1:decide (j < nv)=true:=decide_eq_true hlt
     obtain ⟨v,hx⟩:∃ v,k.vars[j]? = some v:=⟨_,List.getElem?_eq_getElem (by have:=HNV.out;omega)⟩
     have HNX:=Lh (varTo_next HT.out hx)
     obtain ⟨g,off,hA,hg,x0,x1,x2⟩:=HKR.out.vars.at_ hx
     subst hA
     have i0:(0:Int)≤(j:Int):=by omega
     have i1:(j:Int) < (nv:Int):=by omega
     have i2:IntKind.i64.wrap (j:Int)=j:=by rw [IntKind.wrap_i64];omega
     clear hb hg hx
     go_upto_region 8 with (first | go_in)
     obtain ⟨WO,hWO⟩:∃ W,W=wr.alloc (.cells #[.int .i64 v.limbs,.bool v.secret,.int .i64 v.mode] 60):=⟨_,rfl⟩
     rw [←hWO]
     have hbo:Below wr.heap.size wr WO:=by rw [hWO];exact (Below.refl _ _).alloc (Nat.le_refl _) _
     have hcn:∀ (q:Nat) (u:Value),#[Value.int .i64 v.limbs,.bool v.secret,.int .i64 v.mode][q]? = some u→WO.cell? ⟨wr.heap.size,q,none⟩=some u:=fun q u h=>by rw [hWO];exact cell_new wr _ _ h
     have y0:=hcn 0 _ rfl
     have y1:=hcn 1 _ rfl
     have y2:=hcn 2 _ rfl
     have HB2:=Lh (HB.out.trans (hbo.mono HB.out.size))
     clear hWO hbo hcn x0 x1 x2 p0 p1 p2
     cases d2:decide (v.limbs < 1)
     rotate_left
     · have HN:=Lh (varsK_no (vs:=k.vars) (k:=j+1) (by rw [HNX.out,if_pos (by unfold varOk;rw [decide_eq_false (p:=1≤v.limbs) (by have:=of_decide_eq_true d2;omega)];rfl)]) (by have:=HNV.out;omega))
       go_wp2
       exact K2.out HN.out _ _ _ _ _ _ _ _ _ _ _ _ _ _ _ _ _ _ _ _ _ _ _ _ _ _ _ _ _ _ _ _ _ _ _ _ _ _ _ _ _ _ _ _ _ _ _ _ _ _ _ _ _ _ _ _ _ _ _ _ _ _ _ _ _ _ _ _ HB2.out
     cases d3:decide (512 < v.limbs)
     rotate_left
     · have HN:=Lh (varsK_no (vs:=k.vars) (k:=j+1) (by rw [HNX.out,if_pos (by unfold varOk;rw [decide_eq_false (p:=v.limbs≤512) (by have:=of_decide_eq_true d3;omega)];simp)]) (by have:=HNV.out;omega))
       go_wp2
       exact K2.out HN.out _ _ _ _ _ _ _ _ _ _ _ _ _ _ _ _ _ _ _ _ _ _ _ _ _ _ _ _ _ _ _ _ _ _ _ _ _ _ _ _ _ _ _ _ _ _ _ _ _ _ _ _ _ _ _ _ _ _ _ _ _ _ _ _ _ _ _ _ HB2.out
     cases d4:decide (v.mode < 0)
     rotate_left
     · have HN:=Lh (varsK_no (vs:=k.vars) (k:=j+1) (by rw [HNX.out,if_pos (by unfold varOk;rw [decide_eq_false (p:=0≤v.mode) (by have:=of_decide_eq_true d4;omega)];simp)]) (by have:=HNV.out;omega))
       go_wp2
       exact K2.out HN.out _ _ _ _ _ _ _ _ _ _ _ _ _ _ _ _ _ _ _ _ _ _ _ _ _ _ _ _ _ _ _ _ _ _ _ _ _ _ _ _ _ _ _ _ _ _ _ _ _ _ _ _ _ _ _ _ _ _ _ _ _ _ _ _ _ _ _ _ HB2.out
     cases d5:decide (3 < v.mode)
     rotate_left
     · have HN:=Lh (varsK_no (vs:=k.vars) (k:=j+1) (by rw [HNX.out,if_pos (by unfold varOk;rw [decide_eq_false (p:=v.mode≤3) (by have:=of_decide_eq_true d5;omega)];simp)]) (by have:=HNV.out;omega))
       go_wp2
       exact K2.out HN.out _ _ _ _ _ _ _ _ _ _ _ _ _ _ _ _ _ _ _ _ _ _ _ _ _ _ _ _ _ _ _ _ _ _ _ _ _ _ _ _ _ _ _ _ _ _ _ _ _ _ _ _ _ _ _ _ _ _ _ _ _ _ _ _ _ _ _ _ HB2.out
     have hok:varOk v=true:=by
       have:=of_decide_eq_false d2
       have:=of_decide_eq_false d3
       have:=of_decide_eq_false d4
       have:=of_decide_eq_false d5
       unfold varOk
       rw [decide_eq_true (p:=1≤v.limbs) (by omega),decide_eq_true (p:=v.limbs≤512) (by omega),decide_eq_true (p:=0≤v.mode) (by omega),decide_eq_true (p:=v.mode≤3) (by omega)];rfl
     have hnx:=HNX.out
     rw [if_neg (by rw [hok];simp)] at hnx
     have HNX:=Lh hnx
     clear hnx hok
     by_cases h0:v.mode=0
     · have HN:=Lh (show varTo k.vars (j+1)=some m by rw [HNX.out,if_pos h0])
       rw [h0] at y2
       clear d4 d5 h0
       go_wp2
       go_roundw
       case rel=>exact ⟨j+1,m,hlt,by go_num,rfl,rfl,HN,HB2.out⟩
       case measure=>simp [intOf];omega
     have d6:decide (0 < v.mode)=true:=decide_eq_true (by have:=of_decide_eq_false d4;omega)
     have hnx:=HNX.out
     rw [if_neg h0] at hnx
     have HNX:=Lh hnx
     have HP:=Lh (show 0 < v.mode from of_decide_eq_true d6)
     clear hnx h0
     cases d7:decide (m < j)
     rotate_left
     · have HN:=Lh (varsK_no (vs:=k.vars) (k:=j+1) (by rw [HNX.out,if_pos (by left;simpa using d7)]) (by have:=HNV.out;omega))
       go_wp2
       exact K2.out HN.out _ _ _ _ _ _ _ _ _ _ _ _ _ _ _ _ _ _ _ _ _ _ _ _ _ _ _ _ _ _ _ _ _ _ _ _ _ _ _ _ _ _ _ _ _ _ _ _ _ _ _ _ _ _ _ _ _ _ _ _ _ _ _ _ _ _ _ _ HB2.out
     cases d8:(v.mode == 1)
     · have d9:decide (1 < v.mode)=true:=decide_eq_true (by have:=beq_eq_false_iff_ne.1 d8;have:=HP.out;omega)
       cases hs:v.secret
       · rw [hs] at y1 HNX
         have HN:=Lh (varsK_no (vs:=k.vars) (k:=j+1) (by rw [HNX.out,if_pos (by right;rw [d8];decide)]) (by have:=HNV.out;omega))
         go_wp2
         exact K2.out HN.out _ _ _ _ _ _ _ _ _ _ _ _ _ _ _ _ _ _ _ _ _ _ _ _ _ _ _ _ _ _ _ _ _ _ _ _ _ _ _ _ _ _ _ _ _ _ _ _ _ _ _ _ _ _ _ _ _ _ _ _ _ _ _ _ _ _ _ _ HB2.out
       · rw [hs] at y1 HNX
         have HN:=Lh (show varTo k.vars (j+1)=some (m+1) by rw [HNX.out,if_neg (by rw [d8];simpa using d7)])
         go_wp2
         go_roundw
         case rel=>exact ⟨j+1,m+1,hlt,by go_num,by go_num,rfl,HN,HB2.out⟩
         case measure=>simp [intOf];omega
     · have d9:decide (1 < v.mode)=false:=decide_eq_false (by have:=beq_iff_eq.1 d8;omega)
       cases hs:v.secret
       · rw [hs] at y1 HNX
         have HN:=Lh (show varTo k.vars (j+1)=some (m+1) by rw [HNX.out,if_neg (by rw [d8];simpa using d7)])
         go_wp2
         go_roundw
         case rel=>exact ⟨j+1,m+1,hlt,by go_num,by go_num,rfl,HN,HB2.out⟩
         case measure=>simp [intOf];omega
       · rw [hs] at y1 HNX
         have HN:=Lh (varsK_no (vs:=k.vars) (k:=j+1) (by rw [HNX.out,if_pos (by right;rw [d8];decide)]) (by have:=HNV.out;omega))
         go_wp2
         exact K2.out HN.out _ _ _ _ _ _ _ _ _ _ _ _ _ _ _ _ _ _ _ _ _ _ _ _ _ _ _ _ _ _ _ _ _ _ _ _ _ _ _ _ _ _ _ _ _ _ _ _ _ _ _ _ _ _ _ _ _ _ _ _ _ _ _ _ _ _ _ _ HB2.out
   · have d1:decide (j < nv)=false:=decide_eq_false hlt
     have e:j=nv:=by omega
     subst e
     have HN:=Lh (show varTo k.vars k.vars.length=some m by rw [←HNV.out];exact HT.out)
     clear hb
     go_wp2
     exact K1.out m HN.out _ _ _ _ _ _ _ _ _ _ _ _ _ _ _ _ _ _ _ _ _ _ _ _ _ _ _ _ _ _ _ _ _ _ _ _ _ _ _ _ _ _ _ _ _ _ _ _ _ _ _ _ _ _ _ _ _ _ _ _ _ _ _ _ _ _ _ HB.out
end Go.Proofs.YtjbabpnepjhllaaGreat
namespace Go.Proofs.YtjbabpnepjhllaaGreat
open Go.RowKit
set_option maxRecDepth 100000
variable {aD aF aG aH aJ u8 aK aL aM aN aO aP aQ aR aS aT aU aV aW aX aY aZ a7 a8 bA bB bC bD bE u32 bF bG bH bI bJ bK bL bM bN bO bP bQ bR bS bT bU bV bW bX bY bZ b9 cA cB cC cD cE cF cG cH cI u64 cJ cK cL cM cN cO cP cQ cR cS cT cU cV cW cX cY cZ dA dB dC dD dE dF dG dH dI dJ dK dL dM dN dO dP dQ dR dS dT dU dV dW dX dY dZ eA eB eC eD eE fV fW fX fY fZ f7 f8 f9 gA gB gC gD gE gF gG gH gI gJ gK gL gM gN gO gP gQ jU jV kY kZ lA lB lC lD lE lF lG lH lI lJ lK lL lM lN lO lP lQ lR lS lT lU lV lW lX lY lZ l5 l6 l7 l8 l9 mA mB mC mD mE mF mG mH mI mJ mK mL mM mN mO mP mQ mR mS mT mU mV mW mX mY mZ m5 m6 m7 m8 m9 nA nB nC nD nE nF nG nH nI nJ nK nL nM nN nO nP nQ nR nS nT nU nV nW nX nY nZ n0 oA oB oC oD oE oF oG oH oI oJ oK oL oM oN oO oP : Value}
set_option maxHeartbeats 20000000 in
theorem rchk_b2 {Av Ao Ar:Option Addr} {nv cv no co nr cr b0:Nat} {k:Krn} (w:World) (Q:Exit→Act→World→Prop) (hk:KBox w b0 Av nv cv Ao no co Ar nr cr k) (hok:k.reqs.length≤4096∧k.vars.length≤100000)
   (k1:k.reqs.all (reqK k.vars)=true→∀ (oR gW iK iL iM iN iO iP iQ iR iS iT iU iV iW iX iY iZ jA jB jC kB kC jF jG jH jI jJ jK jL jM jN jO jP jQ jR jS oS oT oU oV oW oX oY oZ o7 o8 o9 pA:Value) (w':World),Below w.heap.size w w'→Q ((.exit 2)) ⟨#[aD,.pointer (some ⟨b0,0,none⟩),.int .i64 0,aF,aG,aH,oR,gW,u8,aK,aL,aM,aN,aO,aP,aQ,aR,aS,aT,aU,aV,aW,aX,aY,aZ,a7,a8,bA,bB,bC,bD,bE,u32,bF,bG,bH,bI,bJ,bK,bL,bM,bN,bO,bP,bQ,bR,bS,bT,bU,bV,bW,bX,bY,bZ,b9,cA,cB,cC,cD,cE,cF,cG,cH,cI,u64,cJ,cK,cL,cM,cN,cO,cP,cQ,cR,cS,cT,cU,cV,cW,cX,cY,cZ,dA,dB,dC,dD,dE,dF,dG,dH,dI,dJ,dK,dL,dM,dN,dO,dP,dQ,dR,dS,iK,iL,iM,iN,iO,iP,iQ,iR,iS,iT,iU,iV,iW,iX,iY,iZ,jA,jB,jC,kB,kC,jF,jG,jH,jI,jJ,jK,jL,jM,jN,jO,jP,jQ,jR,jS,oS,oT,oU,oV,oW,oX,oY,oZ,o7,o8,o9,pA,lG,lH,lI,lJ,lK,lL,lM,lN,lO,lP,lQ,lR,lS,lT,lU,lV,lW,lX,lY,lZ,l5,l6,l7,l8,l9,mA,mB,mC,mD,mE,mF,mG,mH,mI,mJ,mK,mL,mM,mN,mO,mP,mQ,mR,mS,mT,mU,mV,mW,mX,mY,mZ,m5,m6,m7,m8,m9,nA,nB,nC,nD,nE,nF,nG,nH,nI,nJ,nK,nL,nM,nN,nO,nP,nQ,nR,nS,nT,nU,nV,nW,nX,nY,nZ,n0,oA,oB,oC,oD,oE,oF,oG,oH,oI,oJ,oK,oL,oM,oN,oO,oP],[]⟩ w') (k2:k.reqs.all (reqK k.vars)=false→∀ (oR gW iK iL iM iN iO iP iQ iR iS iT iU iV iW iX iY iZ jA jB jC kB kC jF jG jH jI jJ jK jL jM jN jO jP jQ jR jS oS oT oU oV oW oX oY oZ o7 o8 o9 pA:Value) (w':World),Below w.heap.size w w'→Q (.ret) ⟨#[aD,.pointer (some ⟨b0,0,none⟩),.int .i64 2,aF,aG,aH,oR,gW,u8,aK,aL,aM,aN,aO,aP,aQ,aR,aS,aT,aU,aV,aW,aX,aY,aZ,a7,a8,bA,bB,bC,bD,bE,u32,bF,bG,bH,bI,bJ,bK,bL,bM,bN,bO,bP,bQ,bR,bS,bT,bU,bV,bW,bX,bY,bZ,b9,cA,cB,cC,cD,cE,cF,cG,cH,cI,u64,cJ,cK,cL,cM,cN,cO,cP,cQ,cR,cS,cT,cU,cV,cW,cX,cY,cZ,dA,dB,dC,dD,dE,dF,dG,dH,dI,dJ,dK,dL,dM,dN,dO,dP,dQ,dR,dS,iK,iL,iM,iN,iO,iP,iQ,iR,iS,iT,iU,iV,iW,iX,iY,iZ,jA,jB,jC,kB,kC,jF,jG,jH,jI,jJ,jK,jL,jM,jN,jO,jP,jQ,jR,jS,oS,oT,oU,oV,oW,oX,oY,oZ,o7,o8,o9,pA,lG,lH,lI,lJ,lK,lL,lM,lN,lO,lP,lQ,lR,lS,lT,lU,lV,lW,lX,lY,lZ,l5,l6,l7,l8,l9,mA,mB,mC,mD,mE,mF,mG,mH,mI,mJ,mK,mL,mM,mN,mO,mP,mQ,mR,mS,mT,mU,mV,mW,mX,mY,mZ,m5,m6,m7,m8,m9,nA,nB,nC,nD,nE,nF,nG,nH,nI,nJ,nK,nL,nM,nN,nO,nP,nQ,nR,nS,nT,nU,nV,nW,nX,nY,nZ,n0,oA,oB,oC,oD,oE,oF,oG,oH,oI,oJ,oK,oL,oM,oN,oO,oP],[]⟩ w'):(partL Tryz.f11 2).wp Tryz.prog Q ⟨#[aD,.pointer (some ⟨b0,0,none⟩),.int .i64 0,aF,aG,aH,.int .i64 0,aJ,u8,aK,aL,aM,aN,aO,aP,aQ,aR,aS,aT,aU,aV,aW,aX,aY,aZ,a7,a8,bA,bB,bC,bD,bE,u32,bF,bG,bH,bI,bJ,bK,bL,bM,bN,bO,bP,bQ,bR,bS,bT,bU,bV,bW,bX,bY,bZ,b9,cA,cB,cC,cD,cE,cF,cG,cH,cI,u64,cJ,cK,cL,cM,cN,cO,cP,cQ,cR,cS,cT,cU,cV,cW,cX,cY,cZ,dA,dB,dC,dD,dE,dF,dG,dH,dI,dJ,dK,dL,dM,dN,dO,dP,dQ,dR,dS,dT,dU,dV,dW,dX,dY,dZ,eA,eB,eC,eD,eE,fV,fW,fX,fY,fZ,f7,f8,f9,gA,gB,gC,gD,gE,gF,gG,gH,gI,gJ,gK,gL,gM,gN,gO,gP,gQ,jU,jV,kY,kZ,lA,lB,lC,lD,lE,lF,lG,lH,lI,lJ,lK,lL,lM,lN,lO,lP,lQ,lR,lS,lT,lU,lV,lW,lX,lY,lZ,l5,l6,l7,l8,l9,mA,mB,mC,mD,mE,mF,mG,mH,mI,mJ,mK,mL,mM,mN,mO,mP,mQ,mR,mS,mT,mU,mV,mW,mX,mY,mZ,m5,m6,m7,m8,m9,nA,nB,nC,nD,nE,nF,nG,nH,nI,nJ,nK,nL,nM,nN,nO,nP,nQ,nR,nS,nT,nU,nV,nW,nX,nY,nZ,n0,oA,oB,oC,oD,oE,oF,oG,oH,oI,oJ,oK,oL,oM,oN,oO,oP],[]⟩ w:=by
 have HK:=Lh hk
 have K1:=Lh k1
 have K2:=Lh k2
 have HNV:=Lh hk.nv.1
 have HNR:=Lh hk.nv.2.2
 have n5:nv≤100000:=by have:=hk.nv.1;omega
 have n6:nr≤4096:=by have:=hk.nv.2.2;omega
 clear hk hok k1 k2
 conv=>arg 2;whnf
 go_wp2
 go_loopw [2,6,7] (fun s2 s6 _ wr=>∃ j:Nat,j≤nr∧s6=.int .i64 (j:Nat)∧s2=.int .i64 0∧Below w.heap.size w wr∧Hid ((k.reqs.take j).all (reqK k.vars)=true)) (fun _ s6 _ _=>nr - (intOf s6).toNat)
 case atStart=>exact ⟨0,by omega,rfl,rfl,Below.refl _ _,Lh rfl⟩
 case round =>
   obtain ⟨j,hj,rfl,rfl,hb,HT⟩:=hrel
   have HB:=Lh hb
   have HKR:=Lh (HK.out.next hb)
   have p0:=HKR.out.c0
   have p1:=HKR.out.c1
   have p2:=HKR.out.c2
   by_cases hlt:j < nr
   · have d1:decide (j < nr)=true:=decide_eq_true hlt
     obtain ⟨o,hx⟩:∃ v,k.reqs[j]? = some v:=⟨_,List.getElem?_eq_getElem (by have:=HNR.out;omega)⟩
     have HX:=Lh hx
     obtain ⟨g,off,hA,hg,x0,x1,x2,x3,x4,x5,x6⟩:=HKR.out.reqs.at_ hx
     subst hA
     have i0:(0:Int)≤(j:Int):=by omega
     have i1:(j:Int) < (nr:Int):=by omega
     have i2:IntKind.i64.wrap (j:Int)=j:=by rw [IntKind.wrap_i64];omega
     clear hb hg hx
     go_upto_region 18 with (first | go_in)
     obtain ⟨WO,hWO⟩:∃ W,W=wr.alloc (.cells #[.int .i64 o.kind,.int .i64 o.d,.int .i64 o.e,.int .i64 o.a,.int .i64 o.b,.int .i64 o.c,.int .u64 o.imm] 43):=⟨_,rfl⟩
     rw [←hWO]
     have hbo:Below wr.heap.size wr WO:=by rw [hWO];exact (Below.refl _ _).alloc (Nat.le_refl _) _
     have hob:OpBox WO wr.heap.size o:=OpBox.of (t:=43) (fr:=(0,0)) (by rw [hWO];exact heap_alloc_new wr _)
     have hz:WO.heap.size=wr.heap.size+1:=by rw [hWO];simp
     have HO:=Lh hob
     have HBO:=Lh (HB.out.trans (hbo.mono HB.out.size))
     have HKO:=Lh (HKR.out.next hbo)
     have HND:=Lh (fun w1=>rneed_any Av nv cv o w1)
     have HZ:=Lh hz
     obtain ⟨bo,hbo2⟩:∃ b,b=wr.heap.size:=⟨_,rfl⟩
     rw [←hbo2] at HO HZ ⊢
     have y0:=HO.out.kind
     have y1:=HO.out.d
     have y2:=HO.out.e
     have y3:=HO.out.a
     have y4:=HO.out.b
     have y5:=HO.out.c
     have y6:=HO.out.imm
     clear p0 p1 p2
     have p0:=HKO.out.c0
     have p1:=HKO.out.c1
     have p2:=HKO.out.c2
     clear hWO hbo hob hz x0 x1 x2 x3 x4 x5 x6 hbo2
     cases d2:(o.kind == 17)
     · have d3:(o.kind != 17)=true:=by rw [bne,d2];rfl
       have HN:=Lh (alls_here (p:=reqK k.vars) HX.out (by unfold reqK;rw [d2];rfl))
       go_wp2
       exact K2.out HN.out _ _ _ _ _ _ _ _ _ _ _ _ _ _ _ _ _ _ _ _ _ _ _ _ _ _ _ _ _ _ _ _ _ _ _ _ _ _ _ _ _ _ _ _ _ _ _ _ _ _ HBO.out
     have d3:(o.kind != 17)=false:=by rw [bne,d2];rfl
     cases d4:needK nv o
     · have HN:=Lh (alls_here (p:=reqK k.vars) HX.out (by unfold reqK;rw [d2,←HNV.out,d4];rfl))
       rw [d4] at HND
       clear d2 d4
       go_wp2_with (first | ((with_reducible refine (HND.out _).mono ?_);rintro e w1 ⟨rfl,hb1⟩;have HB1:=Lh (HBO.out.trans (hb1.mono HBO.out.size));clear hb1) | go_in)
       exact K2.out HN.out _ _ _ _ _ _ _ _ _ _ _ _ _ _ _ _ _ _ _ _ _ _ _ _ _ _ _ _ _ _ _ _ _ _ _ _ _ _ _ _ _ _ _ _ _ _ _ _ _ _ HB1.out
     have HIN:=Lh (show (0≤o.a∧o.a < (nv:Int))∧o.b < (nv:Int) by
       have h:=d4
       unfold needK thereK at h
       simp only [Bool.and_eq_true,decide_eq_true_eq] at h
       refine ⟨h.2.2.2.1,?_⟩
       have h2:=h.2.2.2.2
       split at h2
       · simp only [Bool.and_eq_true,decide_eq_true_eq] at h2;exact h2.2
       · split at h2
         · have:o.b = -1:=by simpa using h2
           omega
         · cases h2)
     rw [d4] at HND
     have HQ:=Lh (show reqK k.vars o=(!outK k.vars o.a && !outK k.vars o.b) by unfold reqK;rw [d2,←HNV.out,d4];rfl)
     clear d2 d4
     obtain ⟨a',ha'⟩:∃ v:Nat,o.a=v:=⟨o.a.toNat,by have:=HIN.out;omega⟩
     have han:a' < nv:=by have:=HIN.out;omega
     obtain ⟨u,hu⟩:∃ u,k.vars[a']? = some u:=⟨_,List.getElem?_eq_getElem (by have:=HNV.out;omega)⟩
     have hoa:outK k.vars o.a=(u.mode == 3):=by
       unfold outK
       rw [ha',show varK k.vars (a':Int)=u by unfold varK;rw [Int.toNat_natCast,List.getD_eq_getElem?_getD,hu];rfl,decide_eq_true (by omega)]
       rfl
     have HU:=Lh (show ∀ w_,Below WO.heap.size WO w_→∃ gv ov,Av=some ⟨gv,ov,none⟩∧w_.cell? ⟨gv,ov+a'*3+2,none⟩=some (.int .i64 u.mode) from fun w_ h=>by
       obtain ⟨gv,ov,hA,_,_,_,z2⟩:=(HKO.out.next h).vars.at_ hu
       exact ⟨gv,ov,hA,z2⟩)
     have HFC:=Lh (show ∀ w_,Below WO.heap.size WO w_→w_.cell? ⟨b0,0,none⟩=some (.slice Av nv cv)∧w_.cell? ⟨bo,3,none⟩=some (.int .i64 (a':Nat))∧w_.cell? ⟨bo,4,none⟩=some (.int .i64 o.b) from fun w_ h=>by
       have h1:=HO.out.next h (by have:=HZ.out;omega)
       exact ⟨(HKO.out.next h).c0,by rw [←ha'];exact h1.a,h1.b⟩)
     have j0:(0:Int)≤(a':Int):=by omega
     have j1:(a':Int) < (nv:Int):=by omega
     have j2:IntKind.i64.wrap (a':Int)=a':=by rw [IntKind.wrap_i64];omega
     clear ha' hu
     obtain ⟨gv,ov,hA,_⟩:=HU.out _ (Below.refl _ _)
     subst hA
     have HU:=Lh (show ∀ w_,Below WO.heap.size WO w_→w_.cell? ⟨gv,ov+a'*3+2,none⟩=some (.int .i64 u.mode) from fun w_ h=>by
       obtain ⟨gv',ov',hA,z2⟩:=HU.out w_ h
       cases hA
       exact z2)
     cases d5:(u.mode == 3)
     rotate_left
     · have HN:=Lh (alls_here (p:=reqK k.vars) HX.out (by rw [HQ.out,hoa,d5];rfl))
       clear hoa
       clear p0 p1 p2
       have p0:=HKO.out.c0
       go_wp2_with (first | ((with_reducible refine (HND.out _).mono ?_);rintro e w1 ⟨rfl,hb1⟩;have HB1:=Lh (HBO.out.trans (hb1.mono HBO.out.size));obtain ⟨q0,q1,q2⟩:=HFC.out _ hb1;have q3:=HU.out _ hb1;clear hb1 p0 y0 y1 y2 y3 y4 y5 y6) | go_in)
       exact K2.out HN.out _ _ _ _ _ _ _ _ _ _ _ _ _ _ _ _ _ _ _ _ _ _ _ _ _ _ _ _ _ _ _ _ _ _ _ _ _ _ _ _ _ _ _ _ _ _ _ _ _ _ HB1.out
     rw [d5] at hoa
     have HOA:=Lh hoa
     clear hoa
     cases d6:decide (0≤o.b)
     · have HN:=Lh (alls_next HT.out HX.out (by rw [HQ.out,HOA.out];unfold outK;rw [d6];rfl))
       clear p0 p1 p2
       have p0:=HKO.out.c0
       go_wp2_with (first | ((with_reducible refine (HND.out _).mono ?_);rintro e w1 ⟨rfl,hb1⟩;have HB1:=Lh (HBO.out.trans (hb1.mono HBO.out.size));obtain ⟨q0,q1,q2⟩:=HFC.out _ hb1;have q3:=HU.out _ hb1;clear hb1 p0 y0 y1 y2 y3 y4 y5 y6) | go_in)
       go_roundw
       case rel=>exact ⟨j+1,hlt,by go_num,rfl,HB1.out,HN⟩
       case measure=>simp [intOf];omega
     obtain ⟨b',hb'⟩:∃ v:Nat,o.b=v:=⟨o.b.toNat,by have:=of_decide_eq_true d6;omega⟩
     have hbn:b' < nv:=by have:=HIN.out;omega
     obtain ⟨t,ht⟩:∃ u,k.vars[b']? = some u:=⟨_,List.getElem?_eq_getElem (by have:=HNV.out;omega)⟩
     have hob:outK k.vars o.b=(t.mode == 3):=by
       unfold outK
       rw [hb',show varK k.vars (b':Int)=t by unfold varK;rw [Int.toNat_natCast,List.getD_eq_getElem?_getD,ht];rfl,decide_eq_true (by omega)]
       rfl
     have HU2:=Lh (show ∀ w_,Below WO.heap.size WO w_→w_.cell? ⟨gv,ov+b'*3+2,none⟩=some (.int .i64 t.mode) from fun w_ h=>by
       obtain ⟨gv',ov',hA,_,_,_,z2⟩:=(HKO.out.next h).vars.at_ ht
       cases hA
       exact z2)
     have HFC2:=Lh (show ∀ w_,Below WO.heap.size WO w_→w_.cell? ⟨bo,4,none⟩=some (.int .i64 (b':Nat)) from fun w_ h=>by rw [←hb'];exact (HFC.out w_ h).2.2)
     have l0:(0:Int)≤(b':Int):=by omega
     have l1:(b':Int) < (nv:Int):=by omega
     have l2:IntKind.i64.wrap (b':Int)=b':=by rw [IntKind.wrap_i64];omega
     clear d6 hb' ht
     cases d7:(t.mode == 3)
     · have HN:=Lh (alls_next HT.out HX.out (by rw [HQ.out,HOA.out,hob,d7];rfl))
       clear hob
       clear p0 p1 p2
       have p0:=HKO.out.c0
       go_wp2_with (first | ((with_reducible refine (HND.out _).mono ?_);rintro e w1 ⟨rfl,hb1⟩;have HB1:=Lh (HBO.out.trans (hb1.mono HBO.out.size));obtain ⟨q0,q1,q9⟩:=HFC.out _ hb1;clear q9;have q2:=HFC2.out _ hb1;have q3:=HU.out _ hb1;have q4:=HU2.out _ hb1;clear hb1 p0 y0 y1 y2 y3 y4 y5 y6) | go_in)
       go_roundw
       case rel=>exact ⟨j+1,hlt,by go_num,rfl,HB1.out,HN⟩
       case measure=>simp [intOf];omega
     · have HN:=Lh (alls_here (p:=reqK k.vars) HX.out (by rw [HQ.out,HOA.out,hob,d7];rfl))
       clear hob
       clear p0 p1 p2
       have p0:=HKO.out.c0
       go_wp2_with (first | ((with_reducible refine (HND.out _).mono ?_);rintro e w1 ⟨rfl,hb1⟩;have HB1:=Lh (HBO.out.trans (hb1.mono HBO.out.size));obtain ⟨q0,q1,q9⟩:=HFC.out _ hb1;clear q9;have q2:=HFC2.out _ hb1;have q3:=HU.out _ hb1;have q4:=HU2.out _ hb1;clear hb1 p0 y0 y1 y2 y3 y4 y5 y6) | go_in)
       exact K2.out HN.out _ _ _ _ _ _ _ _ _ _ _ _ _ _ _ _ _ _ _ _ _ _ _ _ _ _ _ _ _ _ _ _ _ _ _ _ _ _ _ _ _ _ _ _ _ _ _ _ _ _ HB1.out
   · have d1:decide (j < nr)=false:=decide_eq_false hlt
     have HN:=Lh (alls_whole HT.out (by have:=HNR.out;omega))
     clear hb
     go_wp2
     exact K1.out HN.out _ _ _ _ _ _ _ _ _ _ _ _ _ _ _ _ _ _ _ _ _ _ _ _ _ _ _ _ _ _ _ _ _ _ _ _ _ _ _ _ _ _ _ _ _ _ _ _ _ _ HB.out
end Go.Proofs.YtjbabpnepjhllaaGreat
namespace Go.Proofs.YtjbabpnepjhllaaGreat
open Go.RowKit
set_option maxRecDepth 100000
variable {aD aE aF aG aH aI aJ u8 aL aM aN aO aP aQ aR aS aT aU aV aW aX aY aZ a7 a8 bA bB bC bD bE u32 bF bG bH bI bJ bK bL bM bN bO bP bQ bR bS bT bU bV bW bX bY bZ b9 cA cB cC cD cE cF cG cH cI u64 cJ cK cL cM cN cO cP cQ cR cS cT cU cV cW cX cY cZ dA dB dC dD dE dF dG dH dI dJ dK dL dM dN dO dP dQ dR dS dT dU dV dW dX dY dZ eA eB eC eD eE fV fW fX fY fZ f7 f8 f9 gA gB gC gD gE gF gG gH gI gJ gK gL gM gN gO gP gQ jU jV kY kZ lA lB lC lD lE lF lG lH lI lJ lK lL lM lN lO lP lQ lR lS lT lU lV lW lX lY lZ l5 l6 l7 l8 l9 mA mB mC mD mE mF mG mH mI mJ mK mL mM mN mO mP mQ mR mS mT mU mV mW mX mY mZ m5 m6 m7 m8 m9 nA nB nC nD nE nF nG nH nI nJ nK nL nM nN nO nP nQ nR nS nT nU nV nW nX nY nZ n0 oA oB oC oD oE oF oG oH oI oJ oK oL oM oN oO oP : Value}
set_option maxHeartbeats 20000000 in
theorem rchk_b4 {Av Ao Ar:Option Addr} {nv cv no co nr cr b0 gm:Nat} {k:Krn} {w0:World} (w:World) (Q:Exit→Act→World→Prop) (hk:KBox w0 b0 Av nv cv Ao no co Ar nr cr k) (hok:k.vars.length≤100000) (hm:MadeR w0 w gm nv (madeTo k.vars 0))
   (k1:∀ (pB pC pD pE pF pG pH pI pJ pK pL pM pN pO pP pQ pR pS pT pU pV pW pX pY pZ p7 p8:Value) (w':World),MadeR w0 w' gm nv (k.vars.map givenK)→Q ((.exit 4)) ⟨#[aD,.pointer (some ⟨b0,0,none⟩),aE,aF,aG,aH,aI,aJ,u8,.slice (some ⟨gm,0,none⟩) nv nv,pB,aM,aN,aO,aP,aQ,aR,aS,aT,aU,aV,aW,aX,aY,aZ,a7,a8,bA,bB,bC,bD,bE,u32,bF,bG,bH,bI,bJ,bK,bL,bM,bN,bO,bP,bQ,bR,bS,bT,bU,bV,bW,bX,bY,bZ,b9,cA,cB,cC,cD,cE,cF,cG,cH,cI,u64,cJ,cK,cL,cM,cN,cO,cP,cQ,cR,cS,cT,cU,cV,cW,cX,cY,cZ,dA,dB,dC,dD,dE,dF,dG,dH,dI,dJ,dK,dL,dM,dN,dO,dP,dQ,dR,dS,dT,dU,dV,dW,dX,dY,dZ,eA,eB,eC,eD,eE,fV,fW,fX,fY,fZ,f7,f8,f9,gA,gB,gC,gD,gE,gF,gG,gH,gI,gJ,gK,gL,gM,gN,gO,gP,gQ,jU,jV,kY,kZ,lA,lB,lC,lD,lE,lF,lG,lH,lI,lJ,pC,pD,pE,pF,pG,pH,pI,pJ,pK,pL,pM,pN,pO,pP,pQ,pR,pS,pT,pU,pV,pW,pX,pY,pZ,p7,p8,mF,mG,mH,mI,mJ,mK,mL,mM,mN,mO,mP,mQ,mR,mS,mT,mU,mV,mW,mX,mY,mZ,m5,m6,m7,m8,m9,nA,nB,nC,nD,nE,nF,nG,nH,nI,nJ,nK,nL,nM,nN,nO,nP,nQ,nR,nS,nT,nU,nV,nW,nX,nY,nZ,n0,oA,oB,oC,oD,oE,oF,oG,oH,oI,oJ,oK,oL,oM,oN,oO,oP],[]⟩ w'):(partL Tryz.f11 4).wp Tryz.prog Q ⟨#[aD,.pointer (some ⟨b0,0,none⟩),aE,aF,aG,aH,aI,aJ,u8,.slice (some ⟨gm,0,none⟩) nv nv,.int .i64 0,aM,aN,aO,aP,aQ,aR,aS,aT,aU,aV,aW,aX,aY,aZ,a7,a8,bA,bB,bC,bD,bE,u32,bF,bG,bH,bI,bJ,bK,bL,bM,bN,bO,bP,bQ,bR,bS,bT,bU,bV,bW,bX,bY,bZ,b9,cA,cB,cC,cD,cE,cF,cG,cH,cI,u64,cJ,cK,cL,cM,cN,cO,cP,cQ,cR,cS,cT,cU,cV,cW,cX,cY,cZ,dA,dB,dC,dD,dE,dF,dG,dH,dI,dJ,dK,dL,dM,dN,dO,dP,dQ,dR,dS,dT,dU,dV,dW,dX,dY,dZ,eA,eB,eC,eD,eE,fV,fW,fX,fY,fZ,f7,f8,f9,gA,gB,gC,gD,gE,gF,gG,gH,gI,gJ,gK,gL,gM,gN,gO,gP,gQ,jU,jV,kY,kZ,lA,lB,lC,lD,lE,lF,lG,lH,lI,lJ,lK,lL,lM,lN,lO,lP,lQ,lR,lS,lT,lU,lV,lW,lX,lY,lZ,l5,l6,l7,l8,l9,mA,mB,mC,mD,mE,mF,mG,mH,mI,mJ,mK,mL,mM,mN,mO,mP,mQ,mR,mS,mT,mU,mV,mW,mX,mY,mZ,m5,m6,m7,m8,m9,nA,nB,nC,nD,nE,nF,nG,nH,nI,nJ,nK,nL,nM,nN,nO,nP,nQ,nR,nS,nT,nU,nV,nW,nX,nY,nZ,n0,oA,oB,oC,oD,oE,oF,oG,oH,oI,oJ,oK,oL,oM,oN,oO,oP],[]⟩ w:=by
 have HK:=Lh hk
 have HM:=Lh hm
 have K1:=Lh k1
 have HNV:=Lh hk.nv.1
 have n5:nv≤100000:=by have:=hk.nv.1;omega
 clear hk hok k1 hm
 conv=>arg 2;whnf
 go_wp2
 go_loopw [10] (fun s10 wr=>∃ j:Nat,j≤nv∧s10=.int .i64 (j:Nat)∧MadeR w0 wr gm nv (madeTo k.vars j)) (fun s10 _=>nv - (intOf s10).toNat)
 case atStart=>exact ⟨0,by omega,rfl,HM.out⟩
 case round =>
   obtain ⟨j,hj,rfl,hm⟩:=hrel
   have HMR:=Lh hm
   have hkr:=HK.out.next hm.below
   have p0:=hkr.c0
   have p1:=hkr.c1
   have p2:=hkr.c2
   by_cases hlt:j < nv
   · have d1:decide (j < nv)=true:=decide_eq_true hlt
     obtain ⟨v,hx⟩:∃ v,k.vars[j]? = some v:=⟨_,List.getElem?_eq_getElem (by have:=HNV.out;omega)⟩
     have HNX:=Lh (madeTo_next hx)
     obtain ⟨g,off,hA,hg,x0,x1,x2⟩:=hkr.vars.at_ hx
     subst hA
     obtain ⟨b,hb⟩:∃ b,(madeTo k.vars j)[j]? = some b:=⟨_,List.getElem?_eq_getElem (by rw [hm.len];exact hlt)⟩
     have q0:=hm.at_ hb
     have q1:=hm.frozen j
     have HSE:=Lh (hm.set j (givenK v))
     have i0:(0:Int)≤(j:Int):=by omega
     have i1:(j:Int) < (nv:Int):=by omega
     have i2:IntKind.i64.wrap (j:Int)=j:=by rw [IntKind.wrap_i64];omega
     have hg1:givenK v=(v.mode == 1 || v.mode == 2):=rfl
     clear hm hg hx hb hkr
     cases d2:(v.mode == 1)
     · cases d3:(v.mode == 2)
       · rw [hg1,d2,d3] at HSE HNX
         clear hg1
         go_wp2
         go_roundw
         case rel=>exact ⟨j+1,hlt,by go_num,by rw [←HNX.out];exact HSE.out⟩
         case measure=>simp [intOf];omega
       · rw [hg1,d2,d3] at HSE HNX
         clear hg1
         go_wp2
         go_roundw
         case rel=>exact ⟨j+1,hlt,by go_num,by rw [←HNX.out];exact HSE.out⟩
         case measure=>simp [intOf];omega
     · rw [hg1,d2,Bool.true_or] at HSE HNX
       clear hg1
       go_wp2
       go_roundw
       case rel=>exact ⟨j+1,hlt,by go_num,by rw [←HNX.out];exact HSE.out⟩
       case measure=>simp [intOf];omega
   · have d1:decide (j < nv)=false:=decide_eq_false hlt
     have e:j=nv:=by omega
     subst e
     have HE:=Lh (show madeTo k.vars j=k.vars.map givenK by unfold madeTo;rw [HNV.out,List.take_length,Nat.sub_self];simp)
     clear hm hkr
     go_wp2
     exact K1.out _ _ _ _ _ _ _ _ _ _ _ _ _ _ _ _ _ _ _ _ _ _ _ _ _ _ _ _ (by rw [←HE.out];exact HMR.out)
set_option maxHeartbeats 20000000 in
theorem rchk_b9 {Av Ao Ar:Option Addr} {nv cv no co nr cr b0 gm:Nat} {k:Krn} {w0:World} {made:List Bool} (w:World) (Q:Exit→Act→World→Prop) (hk:KBox w0 b0 Av nv cv Ao no co Ar nr cr k) (hok:k.vars.length≤100000) (hm:MadeR w0 w gm nv made)
   (k1:(List.range k.vars.length).all (fun i:Nat=>!outK k.vars (i:Nat) || made.getD i false)=true→∀ (jE p9 qA qB qC qD qE qF qG qH qI qJ qK qL qM qN qO qP qQ qR qS qT:Value),Q ((.exit 9)) ⟨#[aD,.pointer (some ⟨b0,0,none⟩),.int .i64 0,aF,aG,aH,aI,aJ,u8,.slice (some ⟨gm,0,none⟩) nv nv,aL,aM,jE,aO,aP,aQ,aR,aS,aT,aU,aV,aW,aX,aY,aZ,a7,a8,bA,bB,bC,bD,bE,u32,bF,bG,bH,bI,bJ,bK,bL,bM,bN,bO,bP,bQ,bR,bS,bT,bU,bV,bW,bX,bY,bZ,b9,cA,cB,cC,cD,cE,cF,cG,cH,cI,u64,cJ,cK,cL,cM,cN,cO,cP,cQ,cR,cS,cT,cU,cV,cW,cX,cY,cZ,dA,dB,dC,dD,dE,dF,dG,dH,dI,dJ,dK,dL,dM,dN,dO,dP,dQ,dR,dS,dT,dU,dV,dW,dX,dY,dZ,eA,eB,eC,eD,eE,fV,fW,fX,fY,fZ,f7,f8,f9,gA,gB,gC,gD,gE,gF,gG,gH,gI,gJ,gK,gL,gM,gN,gO,gP,gQ,jU,jV,kY,kZ,lA,lB,lC,lD,lE,lF,lG,lH,lI,lJ,lK,lL,lM,lN,lO,lP,lQ,lR,lS,lT,lU,lV,lW,lX,lY,lZ,l5,l6,l7,l8,l9,mA,mB,mC,mD,mE,mF,mG,mH,mI,mJ,mK,mL,mM,mN,mO,mP,mQ,mR,mS,mT,mU,mV,mW,mX,mY,mZ,m5,m6,m7,m8,m9,nA,nB,nC,nD,nE,nF,nG,nH,nI,nJ,nK,nL,nM,nN,nO,nP,nQ,nR,nS,nT,p9,qA,qB,qC,qD,qE,qF,qG,qH,qI,qJ,qK,qL,qM,qN,qO,qP,qQ,qR,qS,qT,oO,oP],[]⟩ w) (k2:(List.range k.vars.length).all (fun i:Nat=>!outK k.vars (i:Nat) || made.getD i false)=false→∀ (jE p9 qA qB qC qD qE qF qG qH qI qJ qK qL qM qN qO qP qQ qR qS qT:Value),Q (.ret) ⟨#[aD,.pointer (some ⟨b0,0,none⟩),.int .i64 2,aF,aG,aH,aI,aJ,u8,.slice (some ⟨gm,0,none⟩) nv nv,aL,aM,jE,aO,aP,aQ,aR,aS,aT,aU,aV,aW,aX,aY,aZ,a7,a8,bA,bB,bC,bD,bE,u32,bF,bG,bH,bI,bJ,bK,bL,bM,bN,bO,bP,bQ,bR,bS,bT,bU,bV,bW,bX,bY,bZ,b9,cA,cB,cC,cD,cE,cF,cG,cH,cI,u64,cJ,cK,cL,cM,cN,cO,cP,cQ,cR,cS,cT,cU,cV,cW,cX,cY,cZ,dA,dB,dC,dD,dE,dF,dG,dH,dI,dJ,dK,dL,dM,dN,dO,dP,dQ,dR,dS,dT,dU,dV,dW,dX,dY,dZ,eA,eB,eC,eD,eE,fV,fW,fX,fY,fZ,f7,f8,f9,gA,gB,gC,gD,gE,gF,gG,gH,gI,gJ,gK,gL,gM,gN,gO,gP,gQ,jU,jV,kY,kZ,lA,lB,lC,lD,lE,lF,lG,lH,lI,lJ,lK,lL,lM,lN,lO,lP,lQ,lR,lS,lT,lU,lV,lW,lX,lY,lZ,l5,l6,l7,l8,l9,mA,mB,mC,mD,mE,mF,mG,mH,mI,mJ,mK,mL,mM,mN,mO,mP,mQ,mR,mS,mT,mU,mV,mW,mX,mY,mZ,m5,m6,m7,m8,m9,nA,nB,nC,nD,nE,nF,nG,nH,nI,nJ,nK,nL,nM,nN,nO,nP,nQ,nR,nS,nT,p9,qA,qB,qC,qD,qE,qF,qG,qH,qI,qJ,qK,qL,qM,qN,qO,qP,qQ,qR,qS,qT,oO,oP],[]⟩ w):(partL Tryz.f11 9).wp Tryz.prog Q ⟨#[aD,.pointer (some ⟨b0,0,none⟩),.int .i64 0,aF,aG,aH,aI,aJ,u8,.slice (some ⟨gm,0,none⟩) nv nv,aL,aM,.int .i64 0,aO,aP,aQ,aR,aS,aT,aU,aV,aW,aX,aY,aZ,a7,a8,bA,bB,bC,bD,bE,u32,bF,bG,bH,bI,bJ,bK,bL,bM,bN,bO,bP,bQ,bR,bS,bT,bU,bV,bW,bX,bY,bZ,b9,cA,cB,cC,cD,cE,cF,cG,cH,cI,u64,cJ,cK,cL,cM,cN,cO,cP,cQ,cR,cS,cT,cU,cV,cW,cX,cY,cZ,dA,dB,dC,dD,dE,dF,dG,dH,dI,dJ,dK,dL,dM,dN,dO,dP,dQ,dR,dS,dT,dU,dV,dW,dX,dY,dZ,eA,eB,eC,eD,eE,fV,fW,fX,fY,fZ,f7,f8,f9,gA,gB,gC,gD,gE,gF,gG,gH,gI,gJ,gK,gL,gM,gN,gO,gP,gQ,jU,jV,kY,kZ,lA,lB,lC,lD,lE,lF,lG,lH,lI,lJ,lK,lL,lM,lN,lO,lP,lQ,lR,lS,lT,lU,lV,lW,lX,lY,lZ,l5,l6,l7,l8,l9,mA,mB,mC,mD,mE,mF,mG,mH,mI,mJ,mK,mL,mM,mN,mO,mP,mQ,mR,mS,mT,mU,mV,mW,mX,mY,mZ,m5,m6,m7,m8,m9,nA,nB,nC,nD,nE,nF,nG,nH,nI,nJ,nK,nL,nM,nN,nO,nP,nQ,nR,nS,nT,nU,nV,nW,nX,nY,nZ,n0,oA,oB,oC,oD,oE,oF,oG,oH,oI,oJ,oK,oL,oM,oN,oO,oP],[]⟩ w:=by
 have HK:=Lh hk
 have HM:=Lh hm
 have K1:=Lh k1
 have K2:=Lh k2
 have HNV:=Lh hk.nv.1
 have n5:nv≤100000:=by have:=hk.nv.1;omega
 clear hk hok k1 k2 hm
 conv=>arg 2;whnf
 go_wp2
 go_loopw [2,12] (fun s2 s12 wr=>∃ j:Nat,j≤nv∧s12=.int .i64 (j:Nat)∧s2=.int .i64 0∧wr=w∧Hid (∀ i:Nat,i < j→(!outK k.vars (i:Nat) || made.getD i false)=true)) (fun _ s12 _=>nv - (intOf s12).toNat)
 case atStart=>exact ⟨0,by omega,rfl,rfl,rfl,Lh fun i hi=>absurd hi (by omega)⟩
 case round =>
   obtain ⟨j,hj,rfl,rfl,hw_,HT⟩:=hrel
   subst hw_
   have hkr:=HK.out.next HM.out.below
   have p0:=hkr.c0
   have p1:=hkr.c1
   have p2:=hkr.c2
   by_cases hlt:j < nv
   · have d1:decide (j < nv)=true:=decide_eq_true hlt
     obtain ⟨v,hx⟩:∃ v,k.vars[j]? = some v:=⟨_,List.getElem?_eq_getElem (by have:=HNV.out;omega)⟩
     obtain ⟨g,off,hA,hg,x0,x1,x2⟩:=hkr.vars.at_ hx
     subst hA
     obtain ⟨b,hb⟩:∃ b,made[j]? = some b:=⟨_,List.getElem?_eq_getElem (by rw [HM.out.len];exact hlt)⟩
     have q0:=HM.out.at_ hb
     have i0:(0:Int)≤(j:Int):=by omega
     have i1:(j:Int) < (nv:Int):=by omega
     have i2:IntKind.i64.wrap (j:Int)=j:=by rw [IntKind.wrap_i64];omega
     have ho:(!outK k.vars (j:Nat) || made.getD j false)=(!(v.mode == 3) || b):=by
       unfold outK
       rw [show varK k.vars (j:Int)=v by unfold varK;rw [Int.toNat_natCast,List.getD_eq_getElem?_getD,hx];rfl,decide_eq_true (by omega),Bool.true_and,List.getD_eq_getElem?_getD,hb]
       rfl
     clear hg hx hb hkr
     cases d2:(v.mode == 3)
     · have HN:=Lh (show ∀ i:Nat,i < j+1→(!outK k.vars (i:Nat) || made.getD i false)=true from fun i hi=>by
         by_cases e:i=j
         · subst e;rw [ho,d2];rfl
         · exact HT.out i (by omega))
       clear ho
       go_wp2
       go_roundw
       case rel=>exact ⟨j+1,hlt,by go_num,rfl,trivial,HN⟩
       case measure=>simp [intOf];omega
     · cases b
       · have HN:=Lh (show (List.range k.vars.length).all (fun i:Nat=>!outK k.vars (i:Nat) || made.getD i false)=false by
           rw [List.all_eq_false]
           exact ⟨j,List.mem_range.2 (by have:=HNV.out;omega),by rw [ho,d2];decide⟩)
         clear ho
         go_wp2
         exact K2.out HN.out _ _ _ _ _ _ _ _ _ _ _ _ _ _ _ _ _ _ _ _ _ _
       · have HN:=Lh (show ∀ i:Nat,i < j+1→(!outK k.vars (i:Nat) || made.getD i false)=true from fun i hi=>by
           by_cases e:i=j
           · subst e;rw [ho,d2];rfl
           · exact HT.out i (by omega))
         clear ho
         go_wp2
         go_roundw
         case rel=>exact ⟨j+1,hlt,by go_num,rfl,trivial,HN⟩
         case measure=>simp [intOf];omega
   · have d1:decide (j < nv)=false:=decide_eq_false hlt
     have HN:=Lh (show (List.range k.vars.length).all (fun i:Nat=>!outK k.vars (i:Nat) || made.getD i false)=true by
       rw [List.all_eq_true]
       exact fun i hi=>HT.out i (by have:=List.mem_range.1 hi;have:=HNV.out;omega))
     clear hkr
     go_wp2
     exact K1.out HN.out _ _ _ _ _ _ _ _ _ _ _ _ _ _ _ _ _ _ _ _ _ _
end Go.Proofs.YtjbabpnepjhllaaGreat
