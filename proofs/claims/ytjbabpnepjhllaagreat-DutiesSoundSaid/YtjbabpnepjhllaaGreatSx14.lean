/- Part 14 of a claim; what it proves stands in its last text. -/
import Derived.Test.YtjbabpnepjhllaaGreatSx8
import Derived.Test.YtjbabpnepjhllaaGreatSx11
import Derived.Maps.OwnSet
import Derived.Maps.Views
import Derived.Deep.RegionLaw
import Derived.Test.YtjbabpnepjhllaaGreatSx1
namespace Go.Proofs.YtjbabpnepjhllaaGreat
open Go.RowKit
set_option maxRecDepth 100000
set_option maxHeartbeats 4000000 in
theorem RNeeds_any (o:KOp) (w:World):Calls Tryz.prog 16 #[.agg (kopRow o).toArray] w (SortedSays w.heap.size (needsF o) w):=by
 obtain ⟨W,hW⟩:∃ W,W=w.alloc (.cells (kopRow o).toArray 43):=⟨_,rfl⟩
 have hb:Below w.heap.size w W:=by rw [hW];exact (Below.refl _ _).alloc (Nat.le_refl _) _
 have hz:W.heap.size=w.heap.size+1:=by rw [hW];simp
 have hblk:W.heap[w.heap.size]? = some (.cells (kopRow o).toArray 43 (0,0)):=by rw [hW];exact heap_alloc_new w _
 obtain ⟨W2,hW2⟩:∃ W2,W2=(W.alloc (.cells #[.int .i64 2,.int .i64 o.a,.int .i64 o.c,.int .i64 2,.int .i64 o.b,.int .i64 o.c] 45)).alloc (.cells #[.int .i64 1,.int .i64 o.c,.int .i64 (-1)] 45):=⟨_,rfl⟩
 have hz2:W2.heap.size=W.heap.size+2:=by rw [hW2];simp
 have hb2:Below W.heap.size W W2:=by rw [hW2];exact ((Below.refl _ _).alloc (Nat.le_refl _) _).alloc (by simp) _
 have hl:W2.heap[W.heap.size]? = some (.cells (cellsOfF [lessF o.a o.c,lessF o.b o.c]).toArray 45 (0,0)):=by
   rw [hW2];exact (Below.heap_alloc _ _ _ (by simp)).trans (heap_alloc_new W _)
 have ho:W2.heap[W.heap.size+1]? = some (.cells #[.int .i64 1,.int .i64 o.c,.int .i64 (-1)] 45 (0,0)):=by
   have:=heap_alloc_new (W.alloc (.cells #[.int .i64 2,.int .i64 o.a,.int .i64 o.c,.int .i64 2,.int .i64 o.b,.int .i64 o.c] 45)) (.cells #[.int .i64 1,.int .i64 o.c,.int .i64 (-1)] 45)
   rw [hW2];simpa using this
 have hk2:=(hb2.block w.heap.size (lt_of_block hblk)).trans hblk
 have c0:W.cell? ⟨w.heap.size,0,none⟩=some (.int .i64 o.kind):=by simp only [World.cell?,hblk];rfl
 have c3:W.cell? ⟨w.heap.size,3,none⟩=some (.int .i64 o.a):=by simp only [World.cell?,hblk];rfl
 have c4:W.cell? ⟨w.heap.size,4,none⟩=some (.int .i64 o.b):=by simp only [World.cell?,hblk];rfl
 have c5:W.cell? ⟨w.heap.size,5,none⟩=some (.int .i64 o.c):=by simp only [World.cell?,hblk];rfl
 have c6:W.cell? ⟨w.heap.size,6,none⟩=some (.int .u64 o.imm):=by simp only [World.cell?,hblk];rfl
 have HW:=Lh hW
 have HW2:=Lh hW2
 have HB:=Lh hb
 have HB2:=Lh hb2
 have HL:=Lh hl
 have HO:=Lh ho
 have HZ:=Lh (And.intro hz hz2)
 have l0:w.heap.size < W.heap.size:=by omega
 clear hW hW2 hb hb2 hz hz2 hblk hl ho hk2
 have d0:=HB2.out.cell (p:=⟨w.heap.size,0,none⟩) l0
 have d3:=HB2.out.cell (p:=⟨w.heap.size,3,none⟩) l0
 have d4:=HB2.out.cell (p:=⟨w.heap.size,4,none⟩) l0
 have d5:=HB2.out.cell (p:=⟨w.heap.size,5,none⟩) l0
 have d6:=HB2.out.cell (p:=⟨w.heap.size,6,none⟩) l0
 rw [c0] at d0
 rw [c3] at d3
 rw [c4] at d4
 rw [c5] at d5
 rw [c6] at d6
 obtain ⟨k,hk⟩:∃ k,o.kind=k:=⟨_,rfl⟩
 rw [hk] at c0 d0
 have hN:needsF o=if k=9 then [aloneF 3 o.c] else if k=10∨k=11 then [lessF o.a o.c,lessF o.b o.c] else if k=12 then [aloneF 1 o.c,lessF o.a o.c,lessF o.b o.c] else if k=13 then [aloneF 1 o.c,lessF o.a o.c] else if k=17 then (if o.imm=2 then [lessF o.a o.b] else if o.imm=1 then [aloneF 1 o.a] else if o.imm=3 then [aloneF 3 o.a] else []) else []:=by unfold needsF;rw [hk]
 clear hk
 have HEND:=Lh (show Below w.heap.size w W2 from HB.out.trans (HB2.out.mono HB.out.size))
 by_cases k9:k=9
 · subst k9
   have HN:=Lh (show needsF o=[aloneF 3 o.c] by rw [hN,if_pos rfl])
   clear hN
   go_enter Tryz.func16,Tryz.ntmps16
   go_upto_region 1 with fail
   rw [←HW.out]
   go_upto_region 3 with fail
   rw [←HW2.out]
   go_wp2
   go_ret
   exact ⟨_,rfl,by rw [HN.out];exact own_lit (l:=[aloneF 3 o.c]) (heap_alloc_new W2 _) (by have:=HZ.out;omega) (by simp),below_lit HEND.out (Below.refl _ _) _⟩
 rw [if_neg k9] at hN
 by_cases k10:k=10∨k=11
 · rw [if_pos k10] at hN
   have HN:=Lh hN
   clear hN k9
   rcases k10 with rfl | rfl
   · go_enter Tryz.func16,Tryz.ntmps16
     go_upto_region 1 with fail
     rw [←HW.out]
     go_upto_region 3 with fail
     rw [←HW2.out]
     go_wp2
     go_ret
     exact ⟨_,rfl,by rw [HN.out];exact own_lit (l:=[lessF o.a o.c,lessF o.b o.c]) HL.out (by have:=HZ.out;omega) (by simp),HEND.out⟩
   · go_enter Tryz.func16,Tryz.ntmps16
     go_upto_region 1 with fail
     rw [←HW.out]
     go_upto_region 3 with fail
     rw [←HW2.out]
     go_wp2
     go_ret
     exact ⟨_,rfl,by rw [HN.out];exact own_lit (l:=[lessF o.a o.c,lessF o.b o.c]) HL.out (by have:=HZ.out;omega) (by simp),HEND.out⟩
 rw [if_neg k10] at hN
 have e9:(k == 9)=false:=beq_eq_false_iff_ne.2 k9
 have e10:(k == 10)=false:=beq_eq_false_iff_ne.2 fun e=>k10 (.inl e)
 have e11:(k == 11)=false:=beq_eq_false_iff_ne.2 fun e=>k10 (.inr e)
 have HCL:=Lh (show ∀ w_,Below W2.heap.size W2 w_→w_.cell? ⟨W.heap.size+1,0,none⟩=some (.int .i64 1)∧w_.cell? ⟨W.heap.size+1,1,none⟩=some (.int .i64 o.c)∧w_.cell? ⟨W.heap.size+1,2,none⟩=some (.int .i64 (-1))∧w_.cell? ⟨W.heap.size,0,none⟩=some (.int .i64 2)∧w_.cell? ⟨W.heap.size,1,none⟩=some (.int .i64 o.a)∧w_.cell? ⟨W.heap.size,2,none⟩=some (.int .i64 o.c)∧w_.cell? ⟨W.heap.size,3,none⟩=some (.int .i64 2)∧w_.cell? ⟨W.heap.size,4,none⟩=some (.int .i64 o.b)∧w_.cell? ⟨W.heap.size,5,none⟩=some (.int .i64 o.c) from fun w_ h=>by
   have h1:=(h.block _ (lt_of_block HO.out)).trans HO.out
   have h2:=(h.block _ (lt_of_block HL.out)).trans HL.out
   refine ⟨?_,?_,?_,?_,?_,?_,?_,?_,?_⟩ <;> first | (simp only [World.cell?,h1];rfl) | (simp only [World.cell?,h2];rfl))
 clear k9 k10
 by_cases k12:k=12
 · rw [if_pos k12] at hN
   have HN:=Lh hN
   subst k12
   clear hN
   go_enter Tryz.func16,Tryz.ntmps16
   go_upto_region 1 with fail
   rw [←HW.out]
   go_upto_region 3 with fail
   rw [←HW2.out]
   go_upto_region 10 with fail
   have hS:=(Below.refl W2.heap.size W2).drew
   (refine wp_region_lines (Below W2.heap.size W2) (by kernel_rfl) (by kernel_rfl) (Below.refl W2.heap.size W2).drew ?_)
   (try simp only [])
   repeat (first | (refine runL_no (by rfl) ?_;(try simp only [Act.put,List.setIfInBounds_toArray,List.set_cons_zero,List.set_cons_succ])) | (refine runL_val (v:=?_) (by rfl) ?_ ?_;rotate_left;(focus (intro w_ hw_;obtain ⟨q0_,q1_,q2_,p0_,p1_,p2_,p3_,p4_,p5_⟩:=HCL.out w_ hw_;go_simp;(try with_reducible rfl);done));(try simp only [Act.put,List.setIfInBounds_toArray,List.set_cons_zero,List.set_cons_succ])) | (refine runL_op (by rfl) (by rfl) (exec_facts3 (f:=aloneF 1 o.c) (g:=lessF o.a o.c) (h:=lessF o.b o.c) _ _ _ rfl rfl rfl rfl) (.inr (below_lit (Below.refl _ _) hS _)) ?_;(try simp only [Act.put,List.setIfInBounds_toArray,List.set_cons_zero,List.set_cons_succ])))
   (refine runL_nil ?_)
   go_wp2
   go_ret
   exact ⟨_,rfl,by rw [HN.out];exact own_lit (l:=[aloneF 1 o.c,lessF o.a o.c,lessF o.b o.c]) (heap_alloc_new W2.drew _) (by have:=HZ.out;show w.heap.size≤W2.heap.size;omega) (by simp),below_lit HEND.out hS _⟩
 rw [if_neg k12] at hN
 have e12:(k == 12)=false:=beq_eq_false_iff_ne.2 k12
 clear k12
 by_cases k13:k=13
 · rw [if_pos k13] at hN
   have HN:=Lh hN
   subst k13
   clear hN
   go_enter Tryz.func16,Tryz.ntmps16
   go_upto_region 1 with fail
   rw [←HW.out]
   go_upto_region 3 with fail
   rw [←HW2.out]
   go_upto_region 12 with fail
   have hS:=(Below.refl W2.heap.size W2).drew
   (refine wp_region_lines (Below W2.heap.size W2) (by kernel_rfl) (by kernel_rfl) (Below.refl W2.heap.size W2).drew ?_)
   (try simp only [])
   repeat (first | (refine runL_no (by rfl) ?_;(try simp only [Act.put,List.setIfInBounds_toArray,List.set_cons_zero,List.set_cons_succ])) | (refine runL_val (v:=?_) (by rfl) ?_ ?_;rotate_left;(focus (intro w_ hw_;obtain ⟨q0_,q1_,q2_,p0_,p1_,p2_,p3_,p4_,p5_⟩:=HCL.out w_ hw_;go_simp;(try with_reducible rfl);done));(try simp only [Act.put,List.setIfInBounds_toArray,List.set_cons_zero,List.set_cons_succ])) | (refine runL_op (by rfl) (by rfl) (exec_facts2 (f:=aloneF 1 o.c) (g:=lessF o.a o.c) _ _ rfl rfl rfl) (.inr (below_lit (Below.refl _ _) hS _)) ?_;(try simp only [Act.put,List.setIfInBounds_toArray,List.set_cons_zero,List.set_cons_succ])))
   (refine runL_nil ?_)
   go_wp2
   go_ret
   exact ⟨_,rfl,by rw [HN.out];exact own_lit (l:=[aloneF 1 o.c,lessF o.a o.c]) (heap_alloc_new W2.drew _) (by have:=HZ.out;show w.heap.size≤W2.heap.size;omega) (by simp),below_lit HEND.out hS _⟩
 rw [if_neg k13] at hN
 have e13:(k == 13)=false:=beq_eq_false_iff_ne.2 k13
 clear k13
 by_cases k17:k=17
 · rw [if_pos k17] at hN
   subst k17
   obtain ⟨m,hm⟩:∃ m,o.imm=m:=⟨_,rfl⟩
   rw [hm] at hN c6 d6
   by_cases m2:m=2
   · rw [if_pos m2] at hN
     have HN:=Lh hN
     subst m2
     clear hN hm
     go_enter Tryz.func16,Tryz.ntmps16
     go_upto_region 1 with fail
     rw [←HW.out]
     go_upto_region 3 with fail
     rw [←HW2.out]
     go_wp2
     go_ret
     exact ⟨_,rfl,by rw [HN.out];exact own_lit (l:=[lessF o.a o.b]) (heap_alloc_new W2 _) (by have:=HZ.out;omega) (by simp),below_lit HEND.out (Below.refl _ _) _⟩
   rw [if_neg m2] at hN
   have b2:((m:Int) == 2)=false:=beq_eq_false_iff_ne.2 (by omega)
   by_cases m1:m=1
   · rw [if_pos m1] at hN
     have HN:=Lh hN
     subst m1
     clear hN hm m2
     go_enter Tryz.func16,Tryz.ntmps16
     go_upto_region 1 with fail
     rw [←HW.out]
     go_upto_region 3 with fail
     rw [←HW2.out]
     go_wp2
     go_ret
     exact ⟨_,rfl,by rw [HN.out];exact own_lit (l:=[aloneF 1 o.a]) (heap_alloc_new W2 _) (by have:=HZ.out;omega) (by simp),below_lit HEND.out (Below.refl _ _) _⟩
   rw [if_neg m1] at hN
   by_cases m3:m=3
   · rw [if_pos m3] at hN
     have HN:=Lh hN
     subst m3
     clear hN hm m2 m1
     go_enter Tryz.func16,Tryz.ntmps16
     go_upto_region 1 with fail
     rw [←HW.out]
     go_upto_region 3 with fail
     rw [←HW2.out]
     go_wp2
     go_ret
     exact ⟨_,rfl,by rw [HN.out];exact own_lit (l:=[aloneF 3 o.a]) (heap_alloc_new W2 _) (by have:=HZ.out;omega) (by simp),below_lit HEND.out (Below.refl _ _) _⟩
   rw [if_neg m3] at hN
   have HN:=Lh hN
   by_cases m0:m=0
   · subst m0
     clear hN hm m1 m2 m3
     go_enter Tryz.func16,Tryz.ntmps16
     go_upto_region 1 with fail
     rw [←HW.out]
     go_upto_region 3 with fail
     rw [←HW2.out]
     go_wp2
     go_ret
     exact ⟨_,rfl,by rw [HN.out];exact World.ownsRow_nil _ _ _ _,HEND.out⟩
   · have b1:decide ((1:Int)≤(m:Int))=true:=decide_eq_true (by omega)
     have b3:decide ((m:Int)≤3)=false:=decide_eq_false (by omega)
     have b3':decide (m≤3)=false:=decide_eq_false (by omega)
     clear hN hm m0 m1 m2 m3
     go_enter Tryz.func16,Tryz.ntmps16
     go_upto_region 1 with fail
     rw [←HW.out]
     go_upto_region 3 with fail
     rw [←HW2.out]
     go_wp2
     go_ret
     exact ⟨_,rfl,by rw [HN.out];exact World.ownsRow_nil _ _ _ _,HEND.out⟩
 rw [if_neg k17] at hN
 have e17:(k == 17)=false:=beq_eq_false_iff_ne.2 k17
 have HN:=Lh hN
 clear hN k17
 go_enter Tryz.func16,Tryz.ntmps16
 go_upto_region 1 with fail
 rw [←HW.out]
 go_upto_region 3 with fail
 rw [←HW2.out]
 go_wp2
 go_ret
 exact ⟨_,rfl,by rw [HN.out];exact World.ownsRow_nil _ _ _ _,HEND.out⟩
end Go.Proofs.YtjbabpnepjhllaaGreat
namespace Go.Proofs.YtjbabpnepjhllaaGreat
open Go.RowKit
set_option maxRecDepth 100000
open Go.Maps (Keyed)
open Go.Maps
def funcE (v:Value):Option (DataW Unit×List MemPlace):=match v with
 | .func (.func n) a b=>if a.size=0∧b.size=0 then some (.lit (.int .i64 n),[]) else none
 | .func .. => none
 | .nilFunc=>some (.lit (.int .i64 (-1)),[])
 | _=>none
theorem funcE_mk (n:Nat):funcE (.func (.func n) #[] #[])=some (.lit (.int .i64 n),[]):=rfl
theorem funcE_inv {v:Value} {n:Nat} {ps:List MemPlace} (h:funcE v=some (.lit (.int .i64 (n:Nat)),ps)):v=.func (.func n) #[] #[]:=by
 unfold funcE at h
 split at h
 · rename_i m a b
   split at h
   · rename_i hab
     have:a=#[]:=Array.eq_empty_of_size_eq_zero hab.1
     have:b=#[]:=Array.eq_empty_of_size_eq_zero hab.2
     subst a b
     have h1:=congrArg (fun x:DataW Unit×List MemPlace=>x.1) (Option.some.inj h)
     simp only [DataW.lit.injEq,Lit.int.injEq,true_and] at h1
     have:m=n:=Int.ofNat.inj h1
     subst this
     rfl
   · cases h
 · cases h
 · have h1:=congrArg (fun x:DataW Unit×List MemPlace=>x.1) (Option.some.inj h)
   simp only [DataW.lit.injEq,Lit.int.injEq,true_and] at h1
   omega
 · cases h
theorem keyedI:Keyed Tryz.prog 3:=Go.Maps.int_keyed Tryz.underlying3
theorem wpList_insert_in {H:Type} {P:Program} (w:World) {ops:Array Oper} {rest:List Oper} {o:Oper} {a:Act} {Q:Exit→Act→World→Prop} (hg:o.guard=none) (m x v:Operand) (t:TypeId) (hop:o.op=Op.insert t m x v)
   (k e:TypeId) (K:Keyed P k) (ht:P.underlying t=some (.map k e)) (R:Value→Option (DataW H×List MemPlace)) (b n:Nat) (D:DataW H)
   (hm:a.eval m=.map (some b)) (hown:w.ownsMap P k R b n D) (hn:n < maxLen) (key val:Value) (kl:Lit) (hx:a.eval x=key) (hv:a.eval v=val) (hkey:keyOf P k key=some kl)
   (d:DataW H) (ps:List MemPlace) (hval:R val=some (d,ps))
   (hK:∀ w',w'.ownsMap P k R b (n+1) (D.put kl d)→w.mapTurned w' b→wpList P ops Q rest (a.put o.dst undef) w') :
   wpList P ops Q (o :: rest) a w:=by
 refine wpList_plain hg fun K' hK'=>?_
 obtain ⟨w',hrun,r1,r2⟩:=hown.store K ht hn hkey hval
 unfold Oper.wp
 simp [execOp,hop,hm,hx,hv,hrun,Result.andThen]
 exact hK' _ _ (hK w' r1 r2)
def fnN (n:Nat):DataW Unit:=.lit (.int .i64 n)
def alikeD:DataW Unit:=((((((((DataW.map []).put (.int .i64 6) (fnN 142)).put (.int .i64 14) (fnN 143)).put (.int .i64 8) (fnN 144)).put (.int .i64 9) (fnN 145)).put (.int .i64 10) (fnN 141)).put (.int .i64 11) (fnN 141)).put (.int .i64 12) (fnN 141)).put (.int .i64 13) (fnN 146)
set_option maxHeartbeats 4000000 in
theorem alike_any (w:World):Calls Tryz.prog 119 #[] w fun e w'=>e=.returned (.map (some w.heap.size))∧w'.ownsMap Tryz.prog 3 funcE w.heap.size 8 alikeD∧Below w.heap.size w w':=by
 have HM:=Lh (World.ownsMap_made w Tryz.prog 3 funcE)
 have HG:=Lh ((Below.refl w.heap.size w).alloc (Nat.le_refl _) (.map #[] 0))
 have hmm:=@run_makeMap Tryz.prog
 go_enter Tryz.func119,Tryz.ntmps119
 go_upto_region 2 with fail
 go_wp2_with (first
   | (refine wpList_insert_in _ rfl _ _ _ 140 rfl 3 98 keyedI Tryz.underlying140 funcE w.heap.size _ _ rfl HM.out (by unfold maxLen;decide) _ _ _ rfl rfl (Go.Maps.keyOf_int_mk Tryz.underlying3 (by decide)) _ _ (funcE_mk _) ?_;intro w1 hm1 ht1;have HM:=Lh hm1;have HG:=Lh (HG.out.grown ht1.grown (by have:=HG.out.size;omega) (fun j e=>by cases e;exact Nat.le_refl _));clear hm1 ht1)
   | go_in)
 go_ret
 exact ⟨rfl,HM.out,HG.out⟩
def alikeIs (k:Int):Bool:=k == 6 || (k == 14 || (k == 8 || (k == 9 || (k == 10 || (k == 11 || (k == 12 || k == 13))))))
theorem alike_no {k:Int} (h:alikeIs k=false):Maps.has alikeD (.int .i64 k)=false:=by
 unfold alikeIs at h
 simp only [Bool.or_eq_false_iff,beq_eq_false_iff_ne] at h
 obtain ⟨h1,h2,h3,h4,h5,h6,h7,h8⟩:=h
 have hne:∀ j:Int,k≠j→(Lit.int .i64 k)≠.int .i64 j:=fun j hj e=>hj (by injection e)
 unfold alikeD
 rw [has_put_other (hne _ h8),has_put_other (hne _ h7),has_put_other (hne _ h6),has_put_other (hne _ h5),has_put_other (hne _ h4),has_put_other (hne _ h3),has_put_other (hne _ h2),has_put_other (hne _ h1)]
 rfl
theorem infoFn:(Tryz.prog.info? 98).map (fun i=>i.zero)=some (some .nilFunc):=by kernel_rfl
theorem look_yes {w:World} {n b N:Nat} {k:Int} (hk:(Lit.int .i64 k).wf=true) (hown:w.ownsMap Tryz.prog 3 funcE b n alikeD) (h2:Maps.has alikeD (.int .i64 k)=true) (h3:alikeD.atKey (.int .i64 k) (.lit (.int .i64 (-1)))=fnN N) :
   (Instr.lookup 140 (.map (some b)) (.int .i64 k) true).run Tryz.prog w=.ok (.tuple #[.func (.func N) #[] #[],.bool true]) w:=by
 have hz:(zeroValue 98).run Tryz.prog w=.ok .nilFunc w:=by
   obtain ⟨i0,hi,hz0⟩:=Option.map_eq_some_iff.1 infoFn
   simp [zeroValue,typeInfo,hi,hz0]
 obtain ⟨v,ps,hrun,hv⟩:=hown.look_ok keyedI Tryz.underlying140 hz (zd:=.lit (.int .i64 (-1))) (zp:=[]) rfl (Go.Maps.keyOf_int_mk Tryz.underlying3 hk)
 rw [h3] at hv
 have e:=funcE_inv hv
 subst e
 rw [h2] at hrun
 exact hrun
theorem look_no {w:World} {n b:Nat} {k:Int} (hk:(Lit.int .i64 k).wf=true) (hown:w.ownsMap Tryz.prog 3 funcE b n alikeD) (h:alikeIs k=false) :
   ∃ v,(Instr.lookup 140 (.map (some b)) (.int .i64 k) true).run Tryz.prog w=.ok (.tuple #[v,.bool false]) w:=by
 have hz:(zeroValue 98).run Tryz.prog w=.ok .nilFunc w:=by
   obtain ⟨i0,hi,hz0⟩:=Option.map_eq_some_iff.1 infoFn
   simp [zeroValue,typeInfo,hi,hz0]
 obtain ⟨v,ps,hrun,hv⟩:=hown.look_ok keyedI Tryz.underlying140 hz (zd:=.lit (.int .i64 (-1))) (zp:=[]) rfl (Go.Maps.keyOf_int_mk Tryz.underlying3 hk)
 rw [alike_no h] at hrun
 exact ⟨v,hrun⟩
theorem alike_6:Maps.has alikeD (.int .i64 6)=true∧alikeD.atKey (.int .i64 6) (.lit (.int .i64 (-1)))=fnN 142:=⟨by kernel_rfl,by kernel_rfl⟩
theorem alike_14:Maps.has alikeD (.int .i64 14)=true∧alikeD.atKey (.int .i64 14) (.lit (.int .i64 (-1)))=fnN 143:=⟨by kernel_rfl,by kernel_rfl⟩
theorem alike_8:Maps.has alikeD (.int .i64 8)=true∧alikeD.atKey (.int .i64 8) (.lit (.int .i64 (-1)))=fnN 144:=⟨by kernel_rfl,by kernel_rfl⟩
theorem alike_9:Maps.has alikeD (.int .i64 9)=true∧alikeD.atKey (.int .i64 9) (.lit (.int .i64 (-1)))=fnN 145:=⟨by kernel_rfl,by kernel_rfl⟩
theorem alike_10:Maps.has alikeD (.int .i64 10)=true∧alikeD.atKey (.int .i64 10) (.lit (.int .i64 (-1)))=fnN 141:=⟨by kernel_rfl,by kernel_rfl⟩
theorem alike_11:Maps.has alikeD (.int .i64 11)=true∧alikeD.atKey (.int .i64 11) (.lit (.int .i64 (-1)))=fnN 141:=⟨by kernel_rfl,by kernel_rfl⟩
theorem alike_12:Maps.has alikeD (.int .i64 12)=true∧alikeD.atKey (.int .i64 12) (.lit (.int .i64 (-1)))=fnN 141:=⟨by kernel_rfl,by kernel_rfl⟩
theorem alike_13:Maps.has alikeD (.int .i64 13)=true∧alikeD.atKey (.int .i64 13) (.lit (.int .i64 (-1)))=fnN 146:=⟨by kernel_rfl,by kernel_rfl⟩
end Go.Proofs.YtjbabpnepjhllaaGreat
namespace Go.Proofs.YtjbabpnepjhllaaGreat
open Go.RowKit
set_option maxRecDepth 100000
theorem al1_any (o:KOp) (w:World):Calls Tryz.prog 141 #[.agg #[.int .i64 o.kind,.int .i64 o.d,.int .i64 o.e,.int .i64 o.a,.int .i64 o.b,.int .i64 o.c,.int .u64 o.imm]] w (NumsSay [o.d,o.a,o.b,o.c] w):=by
 go_enter Tryz.func141,Tryz.ntmps141
 go_upto_region 1 with (first | go_in)
 obtain ⟨W,hW⟩:∃ W,W=w.alloc (.cells #[.int .i64 o.kind,.int .i64 o.d,.int .i64 o.e,.int .i64 o.a,.int .i64 o.b,.int .i64 o.c,.int .u64 o.imm] 43):=⟨_,rfl⟩
 rw [←hW]
 have hb:Below w.heap.size w W:=by rw [hW];exact (Below.refl _ _).alloc (Nat.le_refl _) _
 have hk:OpBox W w.heap.size o:=OpBox.of (t:=43) (fr:=(0,0)) (by rw [hW];exact heap_alloc_new w _)
 have HB:=Lh hb
 have c1:=hk.d
 have c2:=hk.e
 have c3:=hk.a
 have c4:=hk.b
 have c5:=hk.c
 clear hW hb hk
 go_wp2
 go_ret
 refine ⟨some ⟨W.heap.size,0,none⟩,4,4,rfl,Rows.mono (nums_blk (g:=W.heap.size) (l:=[o.d,o.a,o.b,o.c]) (t:=3) (heap_alloc_new W _)) (fun k hk=>by subst hk;simp),HB.out.alloc HB.out.size _⟩
theorem al2_any (o:KOp) (w:World):Calls Tryz.prog 142 #[.agg #[.int .i64 o.kind,.int .i64 o.d,.int .i64 o.e,.int .i64 o.a,.int .i64 o.b,.int .i64 o.c,.int .u64 o.imm]] w (NumsSay [o.a,o.b] w):=by
 go_enter Tryz.func142,Tryz.ntmps142
 go_upto_region 1 with (first | go_in)
 obtain ⟨W,hW⟩:∃ W,W=w.alloc (.cells #[.int .i64 o.kind,.int .i64 o.d,.int .i64 o.e,.int .i64 o.a,.int .i64 o.b,.int .i64 o.c,.int .u64 o.imm] 43):=⟨_,rfl⟩
 rw [←hW]
 have hb:Below w.heap.size w W:=by rw [hW];exact (Below.refl _ _).alloc (Nat.le_refl _) _
 have hk:OpBox W w.heap.size o:=OpBox.of (t:=43) (fr:=(0,0)) (by rw [hW];exact heap_alloc_new w _)
 have HB:=Lh hb
 have c1:=hk.d
 have c2:=hk.e
 have c3:=hk.a
 have c4:=hk.b
 have c5:=hk.c
 clear hW hb hk
 go_wp2
 go_ret
 refine ⟨some ⟨W.heap.size,0,none⟩,2,2,rfl,Rows.mono (nums_blk (g:=W.heap.size) (l:=[o.a,o.b]) (t:=3) (heap_alloc_new W _)) (fun k hk=>by subst hk;simp),HB.out.alloc HB.out.size _⟩
theorem al3_any (o:KOp) (w:World):Calls Tryz.prog 143 #[.agg #[.int .i64 o.kind,.int .i64 o.d,.int .i64 o.e,.int .i64 o.a,.int .i64 o.b,.int .i64 o.c,.int .u64 o.imm]] w (NumsSay [o.d,o.e] w):=by
 go_enter Tryz.func143,Tryz.ntmps143
 go_upto_region 1 with (first | go_in)
 obtain ⟨W,hW⟩:∃ W,W=w.alloc (.cells #[.int .i64 o.kind,.int .i64 o.d,.int .i64 o.e,.int .i64 o.a,.int .i64 o.b,.int .i64 o.c,.int .u64 o.imm] 43):=⟨_,rfl⟩
 rw [←hW]
 have hb:Below w.heap.size w W:=by rw [hW];exact (Below.refl _ _).alloc (Nat.le_refl _) _
 have hk:OpBox W w.heap.size o:=OpBox.of (t:=43) (fr:=(0,0)) (by rw [hW];exact heap_alloc_new w _)
 have HB:=Lh hb
 have c1:=hk.d
 have c2:=hk.e
 have c3:=hk.a
 have c4:=hk.b
 have c5:=hk.c
 clear hW hb hk
 go_wp2
 go_ret
 refine ⟨some ⟨W.heap.size,0,none⟩,2,2,rfl,Rows.mono (nums_blk (g:=W.heap.size) (l:=[o.d,o.e]) (t:=3) (heap_alloc_new W _)) (fun k hk=>by subst hk;simp),HB.out.alloc HB.out.size _⟩
theorem al4_any (o:KOp) (w:World):Calls Tryz.prog 144 #[.agg #[.int .i64 o.kind,.int .i64 o.d,.int .i64 o.e,.int .i64 o.a,.int .i64 o.b,.int .i64 o.c,.int .u64 o.imm]] w (NumsSay [o.d,o.a,o.b] w):=by
 go_enter Tryz.func144,Tryz.ntmps144
 go_upto_region 1 with (first | go_in)
 obtain ⟨W,hW⟩:∃ W,W=w.alloc (.cells #[.int .i64 o.kind,.int .i64 o.d,.int .i64 o.e,.int .i64 o.a,.int .i64 o.b,.int .i64 o.c,.int .u64 o.imm] 43):=⟨_,rfl⟩
 rw [←hW]
 have hb:Below w.heap.size w W:=by rw [hW];exact (Below.refl _ _).alloc (Nat.le_refl _) _
 have hk:OpBox W w.heap.size o:=OpBox.of (t:=43) (fr:=(0,0)) (by rw [hW];exact heap_alloc_new w _)
 have HB:=Lh hb
 have c1:=hk.d
 have c2:=hk.e
 have c3:=hk.a
 have c4:=hk.b
 have c5:=hk.c
 clear hW hb hk
 go_wp2
 go_ret
 refine ⟨some ⟨W.heap.size,0,none⟩,3,3,rfl,Rows.mono (nums_blk (g:=W.heap.size) (l:=[o.d,o.a,o.b]) (t:=3) (heap_alloc_new W _)) (fun k hk=>by subst hk;simp),HB.out.alloc HB.out.size _⟩
theorem al5_any (o:KOp) (w:World):Calls Tryz.prog 145 #[.agg #[.int .i64 o.kind,.int .i64 o.d,.int .i64 o.e,.int .i64 o.a,.int .i64 o.b,.int .i64 o.c,.int .u64 o.imm]] w (NumsSay [o.d,o.c] w):=by
 go_enter Tryz.func145,Tryz.ntmps145
 go_upto_region 1 with (first | go_in)
 obtain ⟨W,hW⟩:∃ W,W=w.alloc (.cells #[.int .i64 o.kind,.int .i64 o.d,.int .i64 o.e,.int .i64 o.a,.int .i64 o.b,.int .i64 o.c,.int .u64 o.imm] 43):=⟨_,rfl⟩
 rw [←hW]
 have hb:Below w.heap.size w W:=by rw [hW];exact (Below.refl _ _).alloc (Nat.le_refl _) _
 have hk:OpBox W w.heap.size o:=OpBox.of (t:=43) (fr:=(0,0)) (by rw [hW];exact heap_alloc_new w _)
 have HB:=Lh hb
 have c1:=hk.d
 have c2:=hk.e
 have c3:=hk.a
 have c4:=hk.b
 have c5:=hk.c
 clear hW hb hk
 go_wp2
 go_ret
 refine ⟨some ⟨W.heap.size,0,none⟩,2,2,rfl,Rows.mono (nums_blk (g:=W.heap.size) (l:=[o.d,o.c]) (t:=3) (heap_alloc_new W _)) (fun k hk=>by subst hk;simp),HB.out.alloc HB.out.size _⟩
theorem al6_any (o:KOp) (w:World):Calls Tryz.prog 146 #[.agg #[.int .i64 o.kind,.int .i64 o.d,.int .i64 o.e,.int .i64 o.a,.int .i64 o.b,.int .i64 o.c,.int .u64 o.imm]] w (NumsSay [o.d,o.a,o.c] w):=by
 go_enter Tryz.func146,Tryz.ntmps146
 go_upto_region 1 with (first | go_in)
 obtain ⟨W,hW⟩:∃ W,W=w.alloc (.cells #[.int .i64 o.kind,.int .i64 o.d,.int .i64 o.e,.int .i64 o.a,.int .i64 o.b,.int .i64 o.c,.int .u64 o.imm] 43):=⟨_,rfl⟩
 rw [←hW]
 have hb:Below w.heap.size w W:=by rw [hW];exact (Below.refl _ _).alloc (Nat.le_refl _) _
 have hk:OpBox W w.heap.size o:=OpBox.of (t:=43) (fr:=(0,0)) (by rw [hW];exact heap_alloc_new w _)
 have HB:=Lh hb
 have c1:=hk.d
 have c2:=hk.e
 have c3:=hk.a
 have c4:=hk.b
 have c5:=hk.c
 clear hW hb hk
 go_wp2
 go_ret
 refine ⟨some ⟨W.heap.size,0,none⟩,3,3,rfl,Rows.mono (nums_blk (g:=W.heap.size) (l:=[o.d,o.a,o.c]) (t:=3) (heap_alloc_new W _)) (fun k hk=>by subst hk;simp),HB.out.alloc HB.out.size _⟩
theorem alike_fn (o:KOp) (h:alikeIs o.kind=true):∃ N:Nat,Maps.has alikeD (.int .i64 o.kind)=true∧alikeD.atKey (.int .i64 o.kind) (.lit (.int .i64 (-1)))=fnN N∧(∀ args w,(callFunc N args).run Tryz.prog w=.ok (.enter N args) w) ∧
   ∀ w,Calls Tryz.prog N #[.agg #[.int .i64 o.kind,.int .i64 o.d,.int .i64 o.e,.int .i64 o.a,.int .i64 o.b,.int .i64 o.c,.int .u64 o.imm]] w (NumsSay (alikeK o) w):=by
 unfold alikeIs at h
 simp only [Bool.or_eq_true,beq_iff_eq] at h
 rcases h with h | h | h | h | h | h | h | h
 · refine ⟨142,by rw [h];exact alike_6.1,by rw [h];exact alike_6.2,enters_of Tryz.func142 (by kernel_rfl) rfl,fun w=>?_⟩
   rw [show alikeK o=[o.a,o.b] by unfold alikeK;rw [if_pos h]]
   exact al2_any o w
 · refine ⟨143,by rw [h];exact alike_14.1,by rw [h];exact alike_14.2,enters_of Tryz.func143 (by kernel_rfl) rfl,fun w=>?_⟩
   rw [show alikeK o=[o.d,o.e] by unfold alikeK;rw [if_neg (by omega),if_pos h]]
   exact al3_any o w
 · refine ⟨144,by rw [h];exact alike_8.1,by rw [h];exact alike_8.2,enters_of Tryz.func144 (by kernel_rfl) rfl,fun w=>?_⟩
   rw [show alikeK o=[o.d,o.a,o.b] by unfold alikeK;rw [if_neg (by omega),if_neg (by omega),if_pos h]]
   exact al4_any o w
 · refine ⟨145,by rw [h];exact alike_9.1,by rw [h];exact alike_9.2,enters_of Tryz.func145 (by kernel_rfl) rfl,fun w=>?_⟩
   rw [show alikeK o=[o.d,o.c] by unfold alikeK;rw [if_neg (by omega),if_neg (by omega),if_neg (by omega),if_pos h]]
   exact al5_any o w
 · refine ⟨141,by rw [h];exact alike_10.1,by rw [h];exact alike_10.2,enters_of Tryz.func141 (by kernel_rfl) rfl,fun w=>?_⟩
   rw [show alikeK o=[o.d,o.a,o.b,o.c] by unfold alikeK;rw [if_neg (by omega),if_neg (by omega),if_neg (by omega),if_neg (by omega),if_pos (by omega)]]
   exact al1_any o w
 · refine ⟨141,by rw [h];exact alike_11.1,by rw [h];exact alike_11.2,enters_of Tryz.func141 (by kernel_rfl) rfl,fun w=>?_⟩
   rw [show alikeK o=[o.d,o.a,o.b,o.c] by unfold alikeK;rw [if_neg (by omega),if_neg (by omega),if_neg (by omega),if_neg (by omega),if_pos (by omega)]]
   exact al1_any o w
 · refine ⟨141,by rw [h];exact alike_12.1,by rw [h];exact alike_12.2,enters_of Tryz.func141 (by kernel_rfl) rfl,fun w=>?_⟩
   rw [show alikeK o=[o.d,o.a,o.b,o.c] by unfold alikeK;rw [if_neg (by omega),if_neg (by omega),if_neg (by omega),if_neg (by omega),if_pos (by omega)]]
   exact al1_any o w
 · refine ⟨146,by rw [h];exact alike_13.1,by rw [h];exact alike_13.2,enters_of Tryz.func146 (by kernel_rfl) rfl,fun w=>?_⟩
   rw [show alikeK o=[o.d,o.a,o.c] by unfold alikeK;rw [if_neg (by omega),if_neg (by omega),if_neg (by omega),if_neg (by omega),if_neg (by omega),if_pos h]]
   exact al6_any o w
theorem alike_none {o:KOp} (h:alikeIs o.kind=false):alikeK o=[]:=by
 unfold alikeIs at h
 simp only [Bool.or_eq_false_iff,beq_eq_false_iff_ne] at h
 unfold alikeK
 rw [if_neg (by omega),if_neg (by omega),if_neg (by omega),if_neg (by omega),if_neg (by omega),if_neg (by omega)]
structure VoAt (W:World) (bv bo:Nat) (Av:Option Addr) (nv cv:Nat) (vs:List KVar) (o:KOp):Prop where
 hcv:W.cell? ⟨bv,0,none⟩=some (.slice Av nv cv)
 op:OpBox W bo o
 vars:KVarsAt W (fun k=>k < W.heap.size) (.slice Av nv cv) vs
 lv:bv < W.heap.size
 lo:bo < W.heap.size
theorem VoAt.next {W w':World} {bv bo:Nat} {Av:Option Addr} {nv cv:Nat} {vs:List KVar} {o:KOp} (h:VoAt W bv bo Av nv cv vs o) (hb:Below W.heap.size W w'):VoAt w' bv bo Av nv cv vs o :=
 ⟨(hb.cell (p:=⟨bv,0,none⟩) h.lv).trans h.hcv,h.op.next hb h.lo,rows_next h.vars hb,Nat.lt_of_lt_of_le h.lv hb.size,Nat.lt_of_lt_of_le h.lo hb.size⟩
theorem vo_start (w:World) (F:Nat→Prop) (Av:Option Addr) (nv cv:Nat) (vs:List KVar) (o:KOp) (hv:KVarsAt w F (.slice Av nv cv) vs) (hF:∀ k,F k→k < w.heap.size) :
   VoAt ((w.alloc (.cells #[.slice Av nv cv] 22)).alloc (.cells (kopRow o).toArray 43)) w.heap.size (w.heap.size+1) Av nv cv vs o∧Below w.heap.size w ((w.alloc (.cells #[.slice Av nv cv] 22)).alloc (.cells (kopRow o).toArray 43))∧((w.alloc (.cells #[.slice Av nv cv] 22)).alloc (.cells (kopRow o).toArray 43)).heap.size=w.heap.size+2:=by
 have hb1:Below w.heap.size w (w.alloc (.cells #[.slice Av nv cv] 22)):=(Below.refl _ _).alloc (Nat.le_refl _) _
 have hb2:Below (w.alloc (.cells #[.slice Av nv cv] 22)).heap.size (w.alloc (.cells #[.slice Av nv cv] 22)) ((w.alloc (.cells #[.slice Av nv cv] 22)).alloc (.cells (kopRow o).toArray 43)):=(Below.refl _ _).alloc (Nat.le_refl _) _
 have hz:(w.alloc (.cells #[.slice Av nv cv] 22)).heap.size=w.heap.size+1:=by simp
 have hz2:((w.alloc (.cells #[.slice Av nv cv] 22)).alloc (.cells (kopRow o).toArray 43)).heap.size=w.heap.size+2:=by simp
 have hn:((w.alloc (.cells #[.slice Av nv cv] 22)).alloc (.cells (kopRow o).toArray 43)).heap[w.heap.size+1]? = some (.cells (kopRow o).toArray 43 (0,0)):=by
   have h:=heap_alloc_new (w.alloc (.cells #[.slice Av nv cv] 22)) (.cells (kopRow o).toArray 43)
   rw [hz] at h
   exact h
 have hb:=hb1.trans (hb2.mono hb1.size)
 exact ⟨⟨(hb2.cell (p:=⟨w.heap.size,0,none⟩) (show w.heap.size < _ by omega)).trans (cell_new w _ _ rfl),OpBox.of (t:=43) (fr:=(0,0)) hn,Rows.mono (Rows.keep hv (SameOn.of_below hb hF)) (fun k hk=>by have:=hF k hk;omega),by omega,by omega⟩,hb,hz2⟩
theorem varK_at {vs:List KVar} {k:Nat} {v:KVar} (h:vs[k]? = some v):varK vs (k:Int)=v:=by unfold varK;rw [Int.toNat_natCast,List.getD_eq_getElem?_getD,h];rfl
set_option maxHeartbeats 4000000 in
theorem agree1_any (v h:Nat) (l:List Int) (vs:List KVar) (Av Al:Option Addr) (nv cv nl cl B1 B2:Nat) (w:World) (h1:w.cell? ⟨B1,0,none⟩=some (.slice Av nv cv)) (h2:w.cell? ⟨B2,0,none⟩=some (.slice Al nl cl)) (l1:B1 < w.heap.size) (l2:B2 < w.heap.size)
   (hv:KVarsAt w (fun k=>k < w.heap.size) (.slice Av nv cv) vs) (hl:NumsAt w (fun k=>k < w.heap.size) (.slice Al nl cl) l) (hh:l[0]? = some (h:Int)) (hlv:v < vs.length) (hlh:h < vs.length) (hn:vs.length≤100000) :
   Calls Tryz.prog 120 #[.int .i64 (v:Int),.pointer (some ⟨B1,0,none⟩),.pointer (some ⟨B2,0,none⟩)] w fun e w'=>e=.returned (.bool ((varK vs v).limbs !=(varK vs h).limbs))∧Below w.heap.size w w':=by
 obtain ⟨x,hx⟩:∃ x,vs[v]? = some x:=⟨_,List.getElem?_eq_getElem hlv⟩
 obtain ⟨y,hy⟩:∃ y,vs[h]? = some y:=⟨_,List.getElem?_eq_getElem hlh⟩
 rw [varK_at hx,varK_at hy]
 obtain ⟨gv,ov,rfl,hgv,f0,_,_⟩:=hv.at_ hx
 obtain ⟨_,_,hA,_,f1,_,_⟩:=hv.at_ hy
 cases hA
 obtain ⟨gl,ol,rfl,hgl,f2⟩:=hl.at_ hh
 have hnv:=(rows_len hv).1
 have hnl:=(rows_len hl).1
 have hl0:0 < l.length:=(List.getElem?_eq_some_iff.1 hh).1
 have HFA:=Lh (show ∀ w_,Below w.heap.size w w_→w_.cell? ⟨B1,0,none⟩=some (.slice (some ⟨gv,ov,none⟩) nv cv)∧w_.cell? ⟨B2,0,none⟩=some (.slice (some ⟨gl,ol,none⟩) nl cl)∧w_.cell? ⟨gv,ov+v*3,none⟩=some (.int .i64 x.limbs)∧w_.cell? ⟨gv,ov+h*3,none⟩=some (.int .i64 y.limbs)∧w_.cell? ⟨gl,ol,none⟩=some (.int .i64 (h:Int)) from fun w_ hw =>
   ⟨(hw.cell (p:=⟨B1,0,none⟩) l1).trans h1,(hw.cell (p:=⟨B2,0,none⟩) l2).trans h2,(hw.cell (p:=⟨gv,ov+v*3,none⟩) hgv).trans f0,(hw.cell (p:=⟨gv,ov+h*3,none⟩) hgv).trans f1,(hw.cell (p:=⟨gl,ol,none⟩) hgl).trans (by simpa using f2)⟩)
 have i0:(0:Int)≤(v:Int):=by omega
 have i1:(v:Int) < (nv:Int):=by omega
 have i2:(0:Int)≤(h:Int):=by omega
 have i3:(h:Int) < (nv:Int):=by omega
 have i4:IntKind.i64.wrap (v:Int)=v:=by rw [IntKind.wrap_i64];omega
 have i5:IntKind.i64.wrap (h:Int)=h:=by rw [IntKind.wrap_i64];omega
 have i6:0 < nl:=by omega
 have i7:(0:Int) < (nl:Int):=by omega
 clear hx hy hgv hgl f0 f1 f2 hnv hnl hl0 hv hl hh h1 h2 l1 l2 hlv hlh
 go_enter Tryz.func120,Tryz.ntmps120
 go_upto_region 1 with (first | go_in)
 have hS:=(Below.refl w.heap.size w).drew
 (refine wp_region_lines (Below w.heap.size w) (by kernel_rfl) (by kernel_rfl) (Below.refl w.heap.size w).drew ?_)
 (try simp only [])
 repeat (first | (refine runL_no (by rfl) ?_;(try simp only [Act.put,List.setIfInBounds_toArray,List.set_cons_zero,List.set_cons_succ])) | (refine runL_val (v:=?_) (by rfl) ?_ ?_;rotate_left;(focus (intro w_ hw_;obtain ⟨f0_,f1_,f2_,f3_,f4_⟩:=HFA.out w_ hw_;go_simp;(try with_reducible rfl);done));(try simp only [Act.put,List.setIfInBounds_toArray,List.set_cons_zero,List.set_cons_succ])))
 (refine runL_nil ?_)
 go_wp2
 go_ret
 exact ⟨rfl,hS⟩
end Go.Proofs.YtjbabpnepjhllaaGreat
namespace Go.Proofs.YtjbabpnepjhllaaGreat
open Go.RowKit
set_option maxRecDepth 100000
theorem all_any {T:Type} (l:List T) (p:T→Bool):l.all p=!l.any (fun x=>!p x):=by
 induction l with
 | nil=>rfl
 | cons x l ih=>simp [ih]
theorem agree_head {vs:List KVar} {o:KOp} {h:Int} {r:List Int} (e:alikeK o=h :: r):agreeK vs o=!(alikeK o).any fun v=>(varK vs v).limbs !=(varK vs h).limbs:=by
 unfold agreeK
 rw [all_any,e]
 rfl
theorem int_wf {k:Int} (h:In64 k):(Lit.int .i64 k).wf=true:=wf64 h
set_option maxHeartbeats 4000000 in
theorem agree_any (Av:Option Addr) (nv cv:Nat) (vs:List KVar) (o:KOp) (w:World) (F:Nat→Prop) (hv:KVarsAt w F (.slice Av nv cv) vs) (hF:∀ k,F k→k < w.heap.size) (hok:In64 o.kind) (hn:vs.length≤100000)
   (hin:∀ v∈alikeK o,0≤v∧v < (vs.length:Int)) :
   Calls Tryz.prog 90 #[.slice Av nv cv,.agg #[.int .i64 o.kind,.int .i64 o.d,.int .i64 o.e,.int .i64 o.a,.int .i64 o.b,.int .i64 o.c,.int .u64 o.imm]] w fun e w'=>e=.returned (.bool (agreeK vs o))∧Below w.heap.size w w':=by
 obtain ⟨W,hW⟩:∃ W,W=(w.alloc (.cells #[.slice Av nv cv] 22)).alloc (.cells #[.int .i64 o.kind,.int .i64 o.d,.int .i64 o.e,.int .i64 o.a,.int .i64 o.b,.int .i64 o.c,.int .u64 o.imm] 43):=⟨_,rfl⟩
 obtain ⟨hvo,hb,hz⟩:=vo_start w F Av nv cv vs o hv hF
 rw [show (w.alloc (.cells #[.slice Av nv cv] 22)).alloc (.cells (kopRow o).toArray 43)=W from hW.symm] at hvo hb hz
 have HW:=Lh hW
 have HV:=Lh hvo
 have HB:=Lh hb
 have HZ:=Lh hz
 have HWF:=Lh (int_wf hok)
 have HAL:=Lh alike_any
 have HK:=Lh (show ∀ w_,Below W.heap.size W w_→w_.cell? ⟨w.heap.size+1,0,none⟩=some (.int .i64 o.kind) from fun w_ h=>(hvo.next h).op.kind)
 clear hW hvo hb hz hv hF hok
 cases hai:alikeIs o.kind
 · have HX:=Lh (show agreeK vs o=true by unfold agreeK;rw [alike_none hai];rfl)
   have HAI:=Lh hai
   clear hin hai
   go_enter Tryz.func90,Tryz.ntmps90
   go_upto_region 1 with (first | go_in)
   rw [←HW.out]
   clear HW
   have hS:=(Below.refl W.heap.size W).drew
   have c0:=HK.out W (Below.refl _ _)
   go_region_with ((with_reducible refine (HAL.out _).mono ?_);rintro e w1 ⟨rfl,hm1,hb1⟩;obtain ⟨vx,hlx⟩:=look_no HWF.out (show w1.ownsMap Tryz.prog 3 funcE W.heap.size 8 alikeD from hm1) HAI.out;have hb2:=hS.trans (hb1.mono hS.size);have c0:=HK.out w1 hb2;have HS1:=Lh hb2;clear hm1 hb1 hb2)
   all_goals
     go_wp2
     go_ret
     exact ⟨ret_bool HX.out.symm,HB.out.trans (HS1.out.mono HB.out.size)⟩
 · obtain ⟨N,h2,h3,eg,hf⟩:=alike_fn o hai
   obtain ⟨h,r,hl⟩:∃ h r,alikeK o=h :: r:=by
     have hai':=hai
     unfold alikeIs at hai'
     simp only [Bool.or_eq_true,beq_iff_eq] at hai'
     unfold alikeK
     split;exact ⟨_,_,rfl⟩
     split;exact ⟨_,_,rfl⟩
     split;exact ⟨_,_,rfl⟩
     split;exact ⟨_,_,rfl⟩
     split;exact ⟨_,_,rfl⟩
     split;exact ⟨_,_,rfl⟩
     omega
   obtain ⟨hd,hhd⟩:∃ n:Nat,h=n:=⟨h.toNat,by have:=hin h (by rw [hl];exact List.mem_cons_self ..);omega⟩
   have hhl:hd < vs.length:=by have:=hin h (by rw [hl];exact List.mem_cons_self ..);omega
   have hx:=agree_head (vs:=vs) hl
   rw [hhd] at hx
   have HX:=Lh hx
   have HLN:=Lh (show (alikeK o).length≤4 by unfold alikeK;(repeat' split) <;> simp)
   have H2:=Lh h2
   have H3:=Lh h3
   have HFN:=Lh hf
   have HCT:=Lh (fun (w2:World) (A:Option Addr) (n c B:Nat) (hb:Below W.heap.size W w2) (h4:NumsAt w2 (fun k=>k < w2.heap.size) (.slice A n c) (alikeK o)) (h5:w2.cell? ⟨B,0,none⟩=some (.slice A n c)) (h6:B < w2.heap.size)=>ContainsFunc_Int (.slice A n c) 120 #[.pointer (some ⟨w.heap.size,0,none⟩),.pointer (some ⟨B,0,none⟩)] w2 (fun k=>k < w2.heap.size) (alikeK o) (fun v=>(varK vs v).limbs !=(varK vs (hd:Int)).limbs) (by have:=HLN.out;omega) (enters_of Tryz.func120 (by kernel_rfl) rfl) h4 (fun k hk=>hk)
     (fun x hx wr hr=>by
       obtain ⟨m,hm⟩:∃ m:Nat,x=m:=⟨x.toNat,by have:=hin x hx;omega⟩
       have hml:m < vs.length:=by have:=hin x hx;omega
       subst hm
       have h7:=(HV.out.next hb).next hr
       exact agree1_any m hd (alikeK o) vs Av A nv cv n c w.heap.size B wr h7.hcv ((hr.cell (p:=⟨B,0,none⟩) h6).trans h5) h7.lv (Nat.lt_of_lt_of_le h6 hr.size) h7.vars (rows_next h4 hr) (by rw [hl,hhd];rfl) hml hhl hn))
   clear hin hai hhl hx hl hhd h2 h3 hf
   go_enter Tryz.func90,Tryz.ntmps90
   go_upto_region 1 with (first | go_in)
   rw [←HW.out]
   clear HW
   have hS:=(Below.refl W.heap.size W).drew
   have c0:=HK.out W (Below.refl _ _)
   go_region_with ((with_reducible refine (HAL.out _).mono ?_);rintro e w1 ⟨rfl,hm1,hb1⟩;have hlx:=look_yes HWF.out (show w1.ownsMap Tryz.prog 3 funcE W.heap.size 8 alikeD from hm1) H2.out H3.out;have hb2:=hS.trans (hb1.mono hS.size);have c0:=HK.out w1 hb2;have HS1:=Lh hb2;clear hm1 hb1 hb2)
   all_goals
     have HB1:=HS1
     have h7:=HV.out.next HS1.out
     have c0:=h7.op.kind
     have c1:=h7.op.d
     have c2:=h7.op.e
     have c3:=h7.op.a
     have c4:=h7.op.b
     have c5:=h7.op.c
     have c6:=h7.op.imm
     clear h7
     go_upto_region 5 with (first
       | (go_at_fn N;refine (HFN.out _).mono ?_;rintro e w2 ⟨A2,n2,e2,rfl,hn2,hb2⟩;have HN2:=Lh hn2;have HB2:=Lh (HB1.out.trans (hb2.mono HB1.out.size));clear hn2 hb2)
       | go_in)
     obtain ⟨W3,hW3⟩:∃ W,W=w2.alloc (.cells #[.slice A2 n2 e2] 50):=⟨_,rfl⟩
     rw [←hW3]
     have hb3:Below w2.heap.size w2 W3:=by rw [hW3];exact (Below.refl _ _).alloc (Nat.le_refl _) _
     have hc3:W3.cell? ⟨w2.heap.size,0,none⟩=some (.slice A2 n2 e2):=by rw [hW3];exact cell_new w2 _ _ rfl
     have hz3:W3.heap.size=w2.heap.size+1:=by rw [hW3];simp
     have HB3:=Lh (HB2.out.trans (hb3.mono HB2.out.size))
     have HC3:=Lh (HCT.out W3 A2 n2 e2 w2.heap.size HB3.out (rows_next HN2.out hb3) hc3 (by omega))
     clear hW3 hb3 hz3
     go_wp2_with (first | ((with_reducible refine HC3.out.mono ?_);rintro e w4 ⟨rfl,hb4⟩;have HB4:=Lh hb4;clear hb4) | go_in)
     go_ret
     refine ⟨ret_bool HX.out.symm,?_⟩
     have h1:=HB.out.trans (HB3.out.mono HB.out.size)
     exact h1.trans (HB4.out.mono h1.size)
end Go.Proofs.YtjbabpnepjhllaaGreat
namespace Go.Proofs.YtjbabpnepjhllaaGreat
open Go.RowKit
def findR (n:Nat):Code→Option Code
 | .region id ops d=>if id=n then some (.region id ops d) else none
 | .seq a b=>match findR n a with
   | some c=>some c
   | none=>findR n b
 | .cond _ a b=>match findR n a with
   | some c=>some c
   | none=>findR n b
 | .block _ c=>findR n c
 | .loop c=>findR n c
 | .scope c=>findR n c
 | .rangeFunc _ _ a b=>match findR n a with
   | some c=>some c
   | none=>findR n b
 | _=>none
noncomputable def partR (f:Func) (n:Nat):Code:=((f.body.bind (findR n)).getD .skip)
theorem wp_code {P:Program} {c d:Code} {Q:Exit→Act→World→Prop} {a:Act} {w:World} (h:c=d) (k:c.wp P Q a w):d.wp P Q a w:=h▸k
end Go.Proofs.YtjbabpnepjhllaaGreat
namespace Go.Proofs.YtjbabpnepjhllaaGreat
open Go.RowKit
set_option maxRecDepth 100000
variable {aD aA aE aF aG aH aI aJ u8 aK aL aM aN aO aP aQ aR aS aT aU aV aW aX aY aZ a7 a8 bA bB bC bD bE u32 bF bG bH bI bJ bK bL bM bN bO bP bQ bR bS bT bU bV bW bX bY bZ b9 cA cB cC cD cE cF cG cH cI u64 cJ cK cL cM cN cO cP cQ cR cS cT cU cV cW cX cY cZ dA dB dC dD dE dF dG dH dI dJ dK dL dM dN dO dP dQ dR dS dT dU dV dW dX dY dZ eA eB eC eD eE : Value}
set_option maxHeartbeats 4000000 in
theorem number_any (o:KOp) (w:World):Calls Tryz.prog 87 #[.agg #[.int .i64 o.kind,.int .i64 o.d,.int .i64 o.e,.int .i64 o.a,.int .i64 o.b,.int .i64 o.c,.int .u64 o.imm]] w fun e w'=>e=.returned (.bool (numK o))∧Below w.heap.size w w':=by
 by_cases h1:o.kind=1
 · have HV:=Lh (show numK o=true by unfold numK;rw [if_pos h1])
   have HK:=Lh h1
   clear h1
   go_enter Tryz.func87,Tryz.ntmps87
   go_upto_region 1 with (first | go_in)
   obtain ⟨W,hW⟩:∃ W,W=w.alloc (.cells #[.int .i64 o.kind,.int .i64 o.d,.int .i64 o.e,.int .i64 o.a,.int .i64 o.b,.int .i64 o.c,.int .u64 o.imm] 43):=⟨_,rfl⟩
   rw [←hW]
   have hb:Below w.heap.size w W:=by rw [hW];exact (Below.refl _ _).alloc (Nat.le_refl _) _
   have hk:OpBox W w.heap.size o:=OpBox.of (t:=43) (fr:=(0,0)) (by rw [hW];exact heap_alloc_new w _)
   have HB:=Lh hb
   have c0:=hk.kind
   have c6:=hk.imm
   clear hW hb hk
   rw [HK.out] at c0
   go_wp2
   go_ret
   exact ⟨ret_bool HV.out.symm,HB.out⟩
 by_cases h13:o.kind=13
 · have hv:numK o=(decide (1≤o.imm) && decide (o.imm≤6)):=by unfold numK;rw [if_neg h1,if_pos h13]
   have HK:=Lh h13
   clear h1 h13
   have HV:=Lh hv
   clear hv
   go_enter Tryz.func87,Tryz.ntmps87
   go_upto_region 1 with (first | go_in)
   obtain ⟨W,hW⟩:∃ W,W=w.alloc (.cells #[.int .i64 o.kind,.int .i64 o.d,.int .i64 o.e,.int .i64 o.a,.int .i64 o.b,.int .i64 o.c,.int .u64 o.imm] 43):=⟨_,rfl⟩
   rw [←hW]
   have hb:Below w.heap.size w W:=by rw [hW];exact (Below.refl _ _).alloc (Nat.le_refl _) _
   have hk:OpBox W w.heap.size o:=OpBox.of (t:=43) (fr:=(0,0)) (by rw [hW];exact heap_alloc_new w _)
   have HB:=Lh hb
   have c0:=hk.kind
   have c6:=hk.imm
   clear hW hb hk
   rw [HK.out] at c0
   go_wp2
   all_goals
     go_ret
     refine ⟨ret_bool ?_,HB.out⟩
     rw [HV.out,Bool.eq_iff_iff]
     simp
     omega
 by_cases h15:o.kind=15
 · have hv:numK o=(decide (1≤o.imm) && decide (o.imm≤4096)):=by unfold numK;rw [if_neg h1,if_neg h13,if_pos h15]
   have HK:=Lh h15
   clear h1 h13 h15
   have HV:=Lh hv
   clear hv
   go_enter Tryz.func87,Tryz.ntmps87
   go_upto_region 1 with (first | go_in)
   obtain ⟨W,hW⟩:∃ W,W=w.alloc (.cells #[.int .i64 o.kind,.int .i64 o.d,.int .i64 o.e,.int .i64 o.a,.int .i64 o.b,.int .i64 o.c,.int .u64 o.imm] 43):=⟨_,rfl⟩
   rw [←hW]
   have hb:Below w.heap.size w W:=by rw [hW];exact (Below.refl _ _).alloc (Nat.le_refl _) _
   have hk:OpBox W w.heap.size o:=OpBox.of (t:=43) (fr:=(0,0)) (by rw [hW];exact heap_alloc_new w _)
   have HB:=Lh hb
   have c0:=hk.kind
   have c6:=hk.imm
   clear hW hb hk
   rw [HK.out] at c0
   go_wp2
   all_goals
     go_ret
     refine ⟨ret_bool ?_,HB.out⟩
     rw [HV.out,Bool.eq_iff_iff]
     simp
     omega
 have hv:numK o=decide (o.imm=0):=by unfold numK;rw [if_neg h1,if_neg h13,if_neg h15]
 have e1:(o.kind == 1)=false:=beq_eq_false_iff_ne.2 h1
 have e13:(o.kind == 13)=false:=beq_eq_false_iff_ne.2 h13
 have e15:(o.kind == 15)=false:=beq_eq_false_iff_ne.2 h15
 clear h1 h13 h15
 by_cases h0:o.imm=0
 · have x0:((o.imm:Int) == 0)=true:=by rw [beq_iff_eq];omega
   rw [decide_eq_true h0] at hv
   have HV:=Lh hv
   clear hv h0
   go_enter Tryz.func87,Tryz.ntmps87
   go_upto_region 1 with (first | go_in)
   obtain ⟨W,hW⟩:∃ W,W=w.alloc (.cells #[.int .i64 o.kind,.int .i64 o.d,.int .i64 o.e,.int .i64 o.a,.int .i64 o.b,.int .i64 o.c,.int .u64 o.imm] 43):=⟨_,rfl⟩
   rw [←hW]
   have hb:Below w.heap.size w W:=by rw [hW];exact (Below.refl _ _).alloc (Nat.le_refl _) _
   have hk:OpBox W w.heap.size o:=OpBox.of (t:=43) (fr:=(0,0)) (by rw [hW];exact heap_alloc_new w _)
   have HB:=Lh hb
   have c0:=hk.kind
   have c6:=hk.imm
   clear hW hb hk
   go_wp2
   go_ret
   exact ⟨ret_bool HV.out.symm,HB.out⟩
 · have x0:((o.imm:Int) == 0)=false:=beq_eq_false_iff_ne.2 (by omega)
   rw [decide_eq_false h0] at hv
   have HV:=Lh hv
   clear hv h0
   go_enter Tryz.func87,Tryz.ntmps87
   go_upto_region 1 with (first | go_in)
   obtain ⟨W,hW⟩:∃ W,W=w.alloc (.cells #[.int .i64 o.kind,.int .i64 o.d,.int .i64 o.e,.int .i64 o.a,.int .i64 o.b,.int .i64 o.c,.int .u64 o.imm] 43):=⟨_,rfl⟩
   rw [←hW]
   have hb:Below w.heap.size w W:=by rw [hW];exact (Below.refl _ _).alloc (Nat.le_refl _) _
   have hk:OpBox W w.heap.size o:=OpBox.of (t:=43) (fr:=(0,0)) (by rw [hW];exact heap_alloc_new w _)
   have HB:=Lh hb
   have c0:=hk.kind
   have c6:=hk.imm
   clear hW hb hk
   go_wp2
   go_ret
   exact ⟨ret_bool HV.out.symm,HB.out⟩
def bitK (s i:Int):Bool:=decide (s / 2 ^ i.toNat % 2=1)
set_option maxHeartbeats 4000000 in
theorem one_r9 {s i:Int} (w:World) (Q:Exit→Act→World→Prop) (hs:s=0∨s=1∨s=5∨s=13∨s=19∨s=21∨s=29) (hi:i=0∨i=1∨i=2∨i=3∨i=4)
   (k:∀ (eF eG eH eI eJ:Value),Q .normal ⟨#[aD,aA,aE,aF,aG,.int .i64 s,aI,.int .i64 i,u8,.bool (bitK s i),aL,aM,aN,aO,aP,aQ,aR,aS,aT,aU,aV,aW,aX,aY,aZ,a7,a8,bA,bB,bC,bD,bE,u32,bF,bG,bH,bI,bJ,eF,eG,eH,eI,eJ,bP,bQ,bR,bS,bT,bU,bV,bW,bX,bY,bZ,b9,cA,cB,cC,cD,cE,cF,cG,cH,cI,u64,cJ,cK,cL,cM,cN,cO,cP,cQ,cR,cS,cT,cU,cV,cW,cX,cY,cZ,dA,dB,dC,dD,dE,dF,dG,dH,dI,dJ,dK,dL,dM,dN,dO,dP,dQ,dR,dS,dT,dU,dV,dW,dX,dY,dZ,eA,eB,eC,eD,eE],[]⟩ w):(partR Tryz.f63 9).wp Tryz.prog Q ⟨#[aD,aA,aE,aF,aG,.int .i64 s,aI,.int .i64 i,u8,aK,aL,aM,aN,aO,aP,aQ,aR,aS,aT,aU,aV,aW,aX,aY,aZ,a7,a8,bA,bB,bC,bD,bE,u32,bF,bG,bH,bI,bJ,bK,bL,bM,bN,bO,bP,bQ,bR,bS,bT,bU,bV,bW,bX,bY,bZ,b9,cA,cB,cC,cD,cE,cF,cG,cH,cI,u64,cJ,cK,cL,cM,cN,cO,cP,cQ,cR,cS,cT,cU,cV,cW,cX,cY,cZ,dA,dB,dC,dD,dE,dF,dG,dH,dI,dJ,dK,dL,dM,dN,dO,dP,dQ,dR,dS,dT,dU,dV,dW,dX,dY,dZ,eA,eB,eC,eD,eE],[]⟩ w:=by
 have HK:=Lh k
 clear k
 conv=>arg 2;whnf
 rcases hs with rfl | rfl | rfl | rfl | rfl | rfl | rfl <;> rcases hi with rfl | rfl | rfl | rfl | rfl
 all_goals
   go_wp2_with fail
   exact HK.out _ _ _ _ _
set_option maxHeartbeats 4000000 in
theorem one_r10 {bv n c:Nat} {A:Option Addr} {x:Int} {h:Bool} (w:World) (Q:Exit→Act→World→Prop) (hc:w.cell? ⟨bv,0,none⟩=some (.slice A n c))
   (k:∀ (eK eL eM eN eO eP eQ eR eS eT eU eV eW eX eY eZ fA fB:Value),Q .normal ⟨#[aD,aA,.pointer (some ⟨bv,0,none⟩),aF,aG,aH,aI,aJ,.int .i64 x,.bool h,aL,aM,aN,aO,aP,aQ,aR,aS,aT,aU,aV,aW,aX,aY,aZ,a7,a8,bA,bB,bC,bD,bE,u32,bF,bG,bH,bI,bJ,bK,bL,bM,bN,bO,eK,eL,eM,eN,eO,eP,eQ,eR,eS,eT,eU,eV,eW,eX,eY,eZ,fA,fB,.bool (!partK n h x),cH,cI,u64,cJ,cK,cL,cM,cN,cO,cP,cQ,cR,cS,cT,cU,cV,cW,cX,cY,cZ,dA,dB,dC,dD,dE,dF,dG,dH,dI,dJ,dK,dL,dM,dN,dO,dP,dQ,dR,dS,dT,dU,dV,dW,dX,dY,dZ,eA,eB,eC,eD,eE],[]⟩ w):(partR Tryz.f63 10).wp Tryz.prog Q ⟨#[aD,aA,.pointer (some ⟨bv,0,none⟩),aF,aG,aH,aI,aJ,.int .i64 x,.bool h,aL,aM,aN,aO,aP,aQ,aR,aS,aT,aU,aV,aW,aX,aY,aZ,a7,a8,bA,bB,bC,bD,bE,u32,bF,bG,bH,bI,bJ,bK,bL,bM,bN,bO,bP,bQ,bR,bS,bT,bU,bV,bW,bX,bY,bZ,b9,cA,cB,cC,cD,cE,cF,cG,cH,cI,u64,cJ,cK,cL,cM,cN,cO,cP,cQ,cR,cS,cT,cU,cV,cW,cX,cY,cZ,dA,dB,dC,dD,dE,dF,dG,dH,dI,dJ,dK,dL,dM,dN,dO,dP,dQ,dR,dS,dT,dU,dV,dW,dX,dY,dZ,eA,eB,eC,eD,eE],[]⟩ w:=by
 have HK:=Lh k
 clear k
 conv=>arg 2;whnf
 cases h
 · cases d0:(x == -1)
   · have d1:(x != -1)=true:=by rw [bne,d0];rfl
     have HV:=Lh (show (!partK n false x)=true by unfold partK;simp only [d0];rfl)
     rw [HV.out] at HK
     go_wp2_with fail
     exact HK.out _ _ _ _ _ _ _ _ _ _ _ _ _ _ _ _ _ _
   · have d1:(x != -1)=false:=by rw [bne,d0];rfl
     have HV:=Lh (show (!partK n false x)=false by unfold partK;simp only [d0];rfl)
     rw [HV.out] at HK
     go_wp2_with fail
     exact HK.out _ _ _ _ _ _ _ _ _ _ _ _ _ _ _ _ _ _
 · cases d0:decide (x < 0)
   · cases d1:decide ((n:Int)≤x)
     · have HV:=Lh (show (!partK n true x)=false by
         unfold partK thereK
         rw [if_pos rfl,decide_eq_true (by simpa using d0),decide_eq_true (by simpa using d1)];rfl)
       rw [HV.out] at HK
       go_wp2_with fail
       exact HK.out _ _ _ _ _ _ _ _ _ _ _ _ _ _ _ _ _ _
     · have HV:=Lh (show (!partK n true x)=true by
         unfold partK thereK
         have h1:(n:Int)≤x:=by simpa using d1
         rw [if_pos rfl,decide_eq_false (p:=x < (n:Int)) (by omega),Bool.and_false];rfl)
       rw [HV.out] at HK
       go_wp2_with fail
       exact HK.out _ _ _ _ _ _ _ _ _ _ _ _ _ _ _ _ _ _
   · have HV:=Lh (show (!partK n true x)=true by
       unfold partK thereK
       have h1:x < 0:=by simpa using d0
       rw [if_pos rfl,decide_eq_false (p:=0≤x) (by omega),Bool.false_and];rfl)
     rw [HV.out] at HK
     go_wp2_with fail
     exact HK.out _ _ _ _ _ _ _ _ _ _ _ _ _ _ _ _ _ _
set_option maxHeartbeats 4000000 in
theorem one_r17 {bv n c:Nat} {A:Option Addr} {x:Int} {sec:Bool} {vs:List KVar} (w:World) (Q:Exit→Act→World→Prop) (hc:w.cell? ⟨bv,0,none⟩=some (.slice A n c)) (hl:bv < w.heap.size) (hv:KVarsAt w (fun k=>k < w.heap.size) (.slice A n c) vs) (hx:x < (vs.length:Int))
   (k:∀ (fC fD fE fF fG fH fI fJ fK fL fM fN fO fP fQ fR fS fT fU:Value) (w':World),Below w.heap.size w w'→Q .normal ⟨#[aD,aA,.pointer (some ⟨bv,0,none⟩),aF,aG,aH,aI,aJ,u8,aK,.bool sec,aM,.int .i64 x,aO,aP,aQ,aR,aS,aT,aU,aV,aW,aX,aY,aZ,a7,a8,bA,bB,bC,bD,bE,u32,bF,bG,bH,bI,bJ,bK,bL,bM,bN,bO,bP,bQ,bR,bS,bT,bU,bV,bW,bX,bY,bZ,b9,cA,cB,cC,cD,cE,cF,cG,cH,cI,u64,cJ,cK,cL,cM,cN,cO,cP,cQ,cR,cS,cT,cU,fC,fD,fE,fF,fG,fH,fI,fJ,fK,fL,fM,fN,fO,fP,fQ,fR,fS,fT,fU,.bool (!intoK vs sec x),dP,dQ,dR,dS,dT,dU,dV,dW,dX,dY,dZ,eA,eB,eC,eD,eE],[]⟩ w'):(partR Tryz.f63 17).wp Tryz.prog Q ⟨#[aD,aA,.pointer (some ⟨bv,0,none⟩),aF,aG,aH,aI,aJ,u8,aK,.bool sec,aM,.int .i64 x,aO,aP,aQ,aR,aS,aT,aU,aV,aW,aX,aY,aZ,a7,a8,bA,bB,bC,bD,bE,u32,bF,bG,bH,bI,bJ,bK,bL,bM,bN,bO,bP,bQ,bR,bS,bT,bU,bV,bW,bX,bY,bZ,b9,cA,cB,cC,cD,cE,cF,cG,cH,cI,u64,cJ,cK,cL,cM,cN,cO,cP,cQ,cR,cS,cT,cU,cV,cW,cX,cY,cZ,dA,dB,dC,dD,dE,dF,dG,dH,dI,dJ,dK,dL,dM,dN,dO,dP,dQ,dR,dS,dT,dU,dV,dW,dX,dY,dZ,eA,eB,eC,eD,eE],[]⟩ w:=by
 have HK:=Lh k
 clear k
 conv=>arg 2;whnf
 by_cases h0:0≤x
 rotate_left
 · have d0:decide (0≤x)=false:=decide_eq_false h0
   have HV:=Lh (show (!intoK vs sec x)=false by unfold intoK;rw [d0];rfl)
   rw [HV.out] at HK
   go_wp2_with fail
   exact HK.out _ _ _ _ _ _ _ _ _ _ _ _ _ _ _ _ _ _ _ w (Below.refl _ _)
 have d0:decide (0≤x)=true:=decide_eq_true h0
 obtain ⟨m,hm⟩:∃ m:Nat,x=m:=⟨x.toNat,by omega⟩
 obtain ⟨v,hvv⟩:∃ v,vs[m]? = some v:=⟨_,List.getElem?_eq_getElem (by omega)⟩
 have hvk:varK vs x=v:=by rw [hm];exact varK_at hvv
 have hVV:(!intoK vs sec x)=(givenK v || (sec && !v.secret)):=by unfold intoK;rw [d0,hvk];simp
 have HVV:=Lh hVV
 rw [hVV] at HK
 obtain ⟨g,off,rfl,hg,f0,f1,f2⟩:=hv.at_ hvv
 have hn:=(rows_len hv).1
 have HG:=Lh (fun w1=>given_any v w1)
 have HL:=Lh (And.intro hl hg)
 have C1:=Lh (And.intro hc f1)
 subst hm
 have i1:(m:Int) < (n:Int):=by omega
 clear hvv hvk hVV hv hl hg
 generalize givenK v=gv at HG HK
 generalize hsc:v.secret=vsec at HK f1 f2 HG
 cases gv
 · cases sec
   · rw [show (false || (false && !vsec))=false from rfl] at HK
     go_wp2_with (first | ((with_reducible refine (HG.out _).mono ?_);rintro e w1 ⟨rfl,hb1⟩;have HB1:=Lh hb1;clear hb1))
     exact HK.out _ _ _ _ _ _ _ _ _ _ _ _ _ _ _ _ _ _ _ w1 HB1.out
   · cases vsec
     · rw [show (false || (true && !false))=true from rfl] at HK
       go_wp2_with (first | ((with_reducible refine (HG.out _).mono ?_);rintro e w1 ⟨rfl,hb1⟩;have hc:=(hb1.cell (p:=⟨bv,0,none⟩) HL.out.1).trans hc;have f1:=(hb1.cell (p:=⟨g,off+m*3+1,none⟩) HL.out.2).trans f1;have HB1:=Lh hb1;clear hb1))
       exact HK.out _ _ _ _ _ _ _ _ _ _ _ _ _ _ _ _ _ _ _ w1 HB1.out
     · rw [show (false || (true && !true))=false from rfl] at HK
       go_wp2_with (first | ((with_reducible refine (HG.out _).mono ?_);rintro e w1 ⟨rfl,hb1⟩;have hc:=(hb1.cell (p:=⟨bv,0,none⟩) HL.out.1).trans hc;have f1:=(hb1.cell (p:=⟨g,off+m*3+1,none⟩) HL.out.2).trans f1;have HB1:=Lh hb1;clear hb1))
       exact HK.out _ _ _ _ _ _ _ _ _ _ _ _ _ _ _ _ _ _ _ w1 HB1.out
 · rw [show (true || (sec && !vsec))=true from rfl] at HK
   go_wp2_with (first | ((with_reducible refine (HG.out _).mono ?_);rintro e w1 ⟨rfl,hb1⟩;have HB1:=Lh hb1;clear hb1))
   exact HK.out _ _ _ _ _ _ _ _ _ _ _ _ _ _ _ _ _ _ _ w1 HB1.out
set_option maxHeartbeats 4000000 in
theorem one1_any (x:Int) (vs:List KVar) (A:Option Addr) (n c B:Nat) (w:World) (F:Nat→Prop) (hc:w.cell? ⟨B,0,none⟩=some (.slice A n c)) (hv:KVarsAt w F (.slice A n c) vs) (hx:0≤x∧x < (vs.length:Int)) :
   Calls Tryz.prog 89 #[.int .i64 x,.pointer (some ⟨B,0,none⟩)] w fun e w'=>e=.returned (.bool (varK vs x).secret)∧Below w.heap.size w w':=by
 obtain ⟨m,hm⟩:∃ m:Nat,x=m:=⟨x.toNat,by omega⟩
 obtain ⟨v,hvv⟩:∃ v,vs[m]? = some v:=⟨_,List.getElem?_eq_getElem (by omega)⟩
 have hvk:varK vs x=v:=by rw [hm];exact varK_at hvv
 rw [hvk]
 obtain ⟨g,off,rfl,hg,f0,f1,f2⟩:=hv.at_ hvv
 have hn:=(rows_len hv).1
 subst hm
 have i1:(m:Int) < (n:Int):=by omega
 have i0:(0:Int)≤(m:Int):=by omega
 clear hvv hvk hv hx
 go_enter Tryz.func89,Tryz.ntmps89
 go_wp2
 go_ret
 exact ⟨rfl,Below.refl _ _⟩
end Go.Proofs.YtjbabpnepjhllaaGreat
