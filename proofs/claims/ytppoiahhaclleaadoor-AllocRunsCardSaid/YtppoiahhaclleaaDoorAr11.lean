/- Part 11 of a claim; what it proves stands in its last text. -/
import Derived.Test.YtppoiahhaclleaaDoorAr10
namespace Go.Proofs.YtppoiahhaclleaaDoor
open Go.RowKit
set_option maxRecDepth 100000
theorem make_ints (n:Nat) (hn:n≤65536) (w:World):(Instr.makeSlice 35 (.int .i64 n) (.int .i64 n)).run Tryd.prog w=.ok (.slice (some ⟨w.heap.size,0,none⟩) n n) (w.alloc (.cells (intV (List.replicate n 0)).toArray 3)):=by
 obtain ⟨i0,hi,hz0,hz1,hz2⟩:=info_parts infoI
 have h:=run_make (P:=Tryd.prog) w 35 3 i0 (.int .i64 0) Tryd.underlying35 hi hz0 .i64 .i64 n n (by omega) (by omega) (by rw [hz2];omega) (by omega)
 rw [hz1] at h
 have e:(Value.int .i64 0).cells=#[.int .i64 0]:=rfl
 have e2:madeCells #[.int .i64 0] n=(intV (List.replicate n 0)).toArray:=by
   refine Array.ext (by simp [size_madeCells,intV]) fun i h1 h2=>?_
   simp [madeCells,Nat.mod_one,intV]
 rw [e] at h
 simp only [Int.toNat_natCast,Nat.mul_one,e2] at h
 exact h
theorem ends_rest {ops:List LOp} (h:Bal ops) {k:Nat} (hk:k≤ops.length):∀ j,k≤j→j < ops.length→(endsTo ops k).1[j]? = some (-1):=by
 induction k with
 | zero=>intro j _ hj;simp [endsTo,hj]
 | succ k ih =>
   intro j hj hjl
   have ih:=ih (by omega) j (by omega) hjl
   have hst:=(ends_inv h k (by omega)).open_
   obtain ⟨o,ho⟩:∃ o,ops[k]? = some o:=⟨_,List.getElem?_eq_getElem (by omega)⟩
   simp only [endsTo,ho]
   generalize endsTo ops k=s at ih hst
   obtain ⟨E,st⟩:=s
   unfold endsStep
   split
   · exact ih
   · split
     · cases st with
       | nil=>exact ih
       | cons m l =>
         have hm:=(hst m List.mem_cons_self).1
         simp only
         rw [List.getElem?_set_ne (by omega),List.getElem?_set_ne (by omega)]
         exact ih
     · exact ih
structure EUp (ops:List LOp) (k:Nat) (E:List Int):Prop where
 len:E.length=ops.length
 up:∀ j,j < k→E[j]? =(endsTo ops k).1[j]?
theorem EUp.done {ops:List LOp} {E:List Int} (h:EUp ops ops.length E):E=endsF ops:=by
 refine List.ext_getElem? fun j=>?_
 unfold endsF
 by_cases hj:j < ops.length
 · exact h.up j hj
 · rw [List.getElem?_eq_none (by rw [h.len];omega),List.getElem?_eq_none (by rw [ends_to_len];omega)]
theorem EUp.none_ {ops:List LOp} {k:Nat} {E:List Int} (h:EUp ops k E) (hb:Bal ops) (hk:k < ops.length) (hs:(endsTo ops (k+1)).1=(endsTo ops k).1):EUp ops (k+1) (E.set k (-1)):=by
 refine ⟨by simp [h.len],fun j hj=>?_⟩
 rw [hs]
 by_cases e:j=k
 · subst e
   rw [List.getElem?_set_self (by rw [h.len];exact hk),ends_rest hb (by omega) j (Nat.le_refl _) hk]
 · rw [List.getElem?_set_ne (by omega)]
   exact h.up j (by omega)
theorem EUp.end_ {ops:List LOp} {k m:Nat} {E:List Int} (h:EUp ops k E) (hs:(endsTo ops (k+1)).1=((endsTo ops k).1.set k (m:Nat)).set m (k:Int)):EUp ops (k+1) (((E.set k (-1)).set k (m:Nat)).set m (k:Int)):=by
 refine ⟨by simp [h.len],fun j hj=>?_⟩
 rw [hs]
 simp only [List.getElem?_set,List.length_set,h.len,ends_to_len]
 by_cases e:m=j
 · rw [if_pos e,if_pos e]
 · rw [if_neg e,if_neg e]
   by_cases e2:k=j
   · rw [if_pos e2,if_pos e2]
   · rw [if_neg e2,if_neg e2,if_neg e2]
     exact h.up j (by omega)
set_option maxHeartbeats 8000000 in
theorem Rends_any (p:LP) (Ab Ao:Option Addr) (nb cb no co:Nat) (w:World) (hp:ProgAt w (fun k=>k < w.heap.size) [.int .i64 p.regs,.slice Ab nb cb,.slice Ao no co] p) (h0:(checkF p p.regs.toNat).2=0) :
   Calls Tryd.prog 21 #[.agg #[.int .i64 p.regs,.slice Ab nb cb,.slice Ao no co]] w fun e w'=>∃ g,e=.returned (.slice (some ⟨g,0,none⟩) p.ops.length p.ops.length)∧w.heap.size≤g∧w'.heap[g]? = some (.cells (intV (endsF p.ops)).toArray 3 (0,0))∧Below w.heap.size w w':=by
 obtain ⟨W,hW,hbW,hzW,hl_,hr_⟩:=boxed w #[.int .i64 p.regs,.slice Ab nb cb,.slice Ao no co] 25
 have c0:W.cell? ⟨w.heap.size,0,none⟩=some (.int .i64 p.regs):=by rw [hl_];rfl
 have c1:W.cell? ⟨w.heap.size,1,none⟩=some (.slice Ab nb cb):=by rw [hl_];rfl
 have c2:W.cell? ⟨w.heap.size,2,none⟩=some (.slice Ao no co):=by rw [hl_];rfl
 have hp1:=prog_next hp hbW
 have hOps:OpsAt w (fun k=>k < w.heap.size) (.slice Ao no co) p.ops:=by
   obtain ⟨vb,vo,h,h1,h2⟩:=hp.row
   simp only [List.cons.injEq] at h
   rw [h.2.2.1];exact h2
 have hno:p.ops.length=no:=by obtain ⟨A,c,hv,_⟩:=rows_form hOps;cases hv;rfl
 have HCK:=Lh (Rcheck_any p Ab Ao nb cb no co W hp1)
 have hn64:no≤65536:=by have:=(head_ok (check_run h0).1).2.2.2.1;omega
 have HBAL:=Lh (check_bal h0)
 have HW:=Lh hW
 have HB:=Lh hbW
 have HOPS:=Lh hOps
 have HNO:=Lh hno
 have HLT:=Lh (show w.heap.size < W.heap.size by omega)
 rw [h0] at HCK
 obtain ⟨x,hx⟩:∃ x,(checkF p p.regs.toNat).1=x:=⟨_,rfl⟩
 rw [hx] at HCK
 rw [hno]
 clear hW hbW hzW hOps hp hno hl_ hr_ hp1 h0 hx
 go_enter Tryd.func21,Tryd.ntmps21
 go_upto_region 1 with fail
 rw [←HW.out]
 go_upto_region 4 with ((with_reducible refine (HCK.out).mono ?_);rintro e w1 ⟨rfl,hb1⟩)
 have HB1:=Lh hb1
 have e2:=(hb1.cell (p:=⟨w.heap.size,2,none⟩) HLT.out).trans c2
 obtain ⟨g1,hg1⟩:∃ g,w1.heap.size=g:=⟨_,rfl⟩
 have hmk:=make_ints no hn64 w1
 obtain ⟨W1,hW1⟩:∃ q,q=w1.alloc (.cells (intV (List.replicate no 0)).toArray 3):=⟨_,rfl⟩
 rw [←hW1,hg1] at hmk
 have hb2:Below w1.heap.size w1 W1:=by rw [hW1];exact (Below.refl _ _).alloc (Nat.le_refl _) _
 have HS0:=Lh (show W1.heap[g1]? = some (.cells (intV (List.replicate no 0)).toArray 3 (0,0)) by rw [hW1,←hg1];exact heap_alloc_new w1 _)
 have HBW1:=Lh (show Below w.heap.size w W1 from HB.out.trans ((hb1.trans (hb2.mono hb1.size)).mono HB.out.size))
 have hg1w:w.heap.size < g1:=by have:=HLT.out;have:=hb1.size;omega
 have HE0:=Lh (show EUp p.ops 0 (List.replicate no 0) from ⟨by simp [HNO.out],fun j hj=>absurd hj (by omega)⟩)
 have HD3:=Lh (show W1.cell? ⟨w.heap.size,2,none⟩=some (.slice Ao no co) by rw [hb2.cell (p:=⟨w.heap.size,2,none⟩) (by simp only [];omega)];exact e2)
 have HWG:=Lh (show W.heap.size≤g1 by have:=hb1.size;omega)
 clear c0 c1 c2 hb1 hb2 hW1 hg1
 go_upto_region 5 with fail
 clear hmk e2
 go_wp2
 go_loopw [6,7] (fun v i wr=>∃ (k:Nat) (A:Option Addr) (c:Nat) (E:List Int),k≤no∧i=.int .i64 k∧v=.slice A (endsTo p.ops k).2.length c∧wr.ownsRow W.heap.size 3 1 (.slice A (endsTo p.ops k).2.length c) (endsTo p.ops k).2.length (intV (stkI (endsTo p.ops k).2))∧(Value.slice A (endsTo p.ops k).2.length c).ownBlock≠some g1 ∧
   wr.heap[g1]? = some (.cells (intV E).toArray 3 (0,0))∧EUp p.ops k E∧Below w.heap.size w wr∧wr.cell? ⟨w.heap.size,2,none⟩=some (.slice Ao no co)) (fun _ i _=>no - (intOf i).toNat)
 case atStart=>exact ⟨0,none,0,_,by omega,rfl,rfl,World.ownsRow_nil _ _ _ _,(fun e=>by cases e),HS0.out,HE0.out,HBW1.out,HD3.out⟩
 case round =>
   obtain ⟨k,A,c,E,hk,rfl,rfl,hown,hne,hblk,heu,hbel,hd3⟩:=hrel
   have HOWN:=Lh hown
   have HNE:=Lh hne
   have HBLK:=Lh hblk
   have HBEL:=Lh hbel
   have HEU:=Lh heu
   have HD:=Lh hd3
   clear hown hne hblk heu hbel
   by_cases hlt:k < no
   · obtain ⟨o,ho⟩:∃ o,p.ops[k]? = some o:=⟨_,List.getElem?_eq_getElem (by rw [HNO.out];omega)⟩
     obtain ⟨g,off,hA,hF,x0,_⟩:=HOPS.out.at_ ho
     subst hA
     have y0:=(HBEL.out.cell (p:=⟨g,off+k*8,none⟩) hF).trans x0
     have HO:=Lh ho
     have i0:(0:Int)≤(k:Int):=by omega
     have i1:(k:Int) < (no:Int):=by omega
     obtain ⟨kd,hkd⟩:∃ q,o.kind=q:=⟨_,rfl⟩
     rw [hkd] at y0
     have HKD:=Lh hkd
     have HSL:=Lh (stk_len p.ops k)
     have HST:Hid (endsTo p.ops (k+1)=endsStep o k (endsTo p.ops k)):=by show _=_;simp only [endsTo,HO.out]
     have hwlt:g1 < wr.heap.size:=lt_of_block HBLK.out
     have hkl:k < p.ops.length:=by rw [HNO.out];exact hlt
     obtain ⟨x1,hx1⟩:∃ x,E[k]? = some x:=⟨_,List.getElem?_eq_getElem (by rw [HEU.out.len];exact hkl)⟩
     have z1:wr.cell? ⟨g1,k,none⟩=some (.int .i64 x1):=cell_row HBLK.out (intV_get hx1)
     have z2:wr.frozen? ⟨g1,k,none⟩=false:=frozen_row HBLK.out k
     obtain ⟨W5,hW5⟩:∃ q,q=wr.setCell ⟨g1,k,none⟩ (.int .i64 (-1)):=⟨_,rfl⟩
     have hS1:=setCell_row HBLK.out k (.int .i64 (-1))
     rw [intV_set,←hW5] at hS1
     have HBLK5:=Lh hS1
     have HB5:=Lh (show Below w.heap.size w W5 by rw [hW5];exact HBEL.out.setCell (by simp only [];omega) _)
     have HOWN5:=Lh (show W5.ownsRow W.heap.size 3 1 (.slice A (endsTo p.ops k).2.length c) (endsTo p.ops k).2.length (intV (stkI (endsTo p.ops k).2)) by
       rw [hW5]
       exact row_keep (fun g hg=>Below.heap_setCell _ _ _ _ (fun e=>HNE.out (by rw [hg,e]))) HOWN.out)
     have d5:W5.cell? ⟨w.heap.size,2,none⟩=some (.slice (some ⟨g,off,none⟩) no co):=by rw [hW5];exact (World.cell?_of_block (w:=wr) (Below.heap_setCell _ _ _ _ (by simp only [];omega))).trans hd3
     have y5:W5.cell? ⟨g,off+k*8,none⟩=some (.int .i64 kd):=by rw [hW5];exact (World.cell?_of_block (w:=wr) (Below.heap_setCell _ _ _ _ (by have:g < w.heap.size:=hF;simp only [];omega))).trans y0
     have HLT5:=Lh (lt_of_block HBLK5.out)
     clear x0 hF ho hkd hx1 hS1
     go_upto_region 10 with fail
     rw [←hW5]
     have HD5:=Lh d5
     clear hW5 z1 z2 y0 hd3 hwlt
     by_cases h16:kd=16
     · have e16:(kd == 16)=true:=by simpa using h16
       have HN:=Lh (show endsTo p.ops (k+1)=((endsTo p.ops k).1,k :: (endsTo p.ops k).2) by rw [HST.out];unfold endsStep;rw [if_pos (by rw [HKD.out];exact h16)])
       have HEN:=Lh (HEU.out.none_ HBAL.out hkl (by rw [HN.out]))
       clear h16 hkl
       obtain ⟨j0,hie,hy0,hy1,hy2⟩:=info_parts infoI
       obtain ⟨ls,hls⟩:∃ n,(endsTo p.ops k).2.length=n:=⟨_,rfl⟩
       rw [hls] at HOWN5 HNE HSL
       rw [hls]
       have hlsk:ls≤k:=HSL.out
       have HLS:=Lh hls
       clear hls
       go_wp2_with ((at_builtin;refine wpList_append_own_at _ rfl _ _ 35 rfl W.heap.size 3 j0 (.int .i64 0) 1 8 Tryd.underlying35 hie hy0 hy1 hy2 rfl (by decide) _ ls _ rfl (HOWN5.out.alloc _) ⟨W5.heap.size,0,none⟩ 1 1 [.int .i64 k] rfl (by simp) (World.news_of_block (cs:=#[.int .i64 k]) (t:=3) (fr:=(0,0)) (heap_alloc_new W5 _)) (by simp [Value.oneCell']) (by unfold maxLen;omega) (by omega) (by have:=HWG.out;have:=HLT5.out;simp;omega) ?_);intro v w6 hown6 hg6 _ hwh6;have HOWN6:=Lh hown6;have HG6:=Lh hg6;have HWH6:=Lh hwh6;clear hown6 hg6 hwh6)
       obtain ⟨A6,c6,rfl⟩:=own_form HOWN6.out
       have hl6:(k :: (endsTo p.ops k).2).length=ls+1:=by rw [List.length_cons,HLS.out]
       have hb6:Below W5.heap.size W5 (W5.alloc (.cells #[.int .i64 k] 3)):=(Below.refl _ _).alloc (Nat.le_refl _) _
       have hz6:(W5.alloc (.cells #[.int .i64 k] 3)).heap.size=W5.heap.size+1:=by simp
       have hne6:(Value.slice A6 (ls+1) c6).ownBlock≠some g1:=fun e=>by
         rcases HWH6.out with h | h
         · exact HNE.out (h▸e)
         · rw [e] at h
           have h2:=Option.some.inj h
           have:=HLT5.out;omega
       have hblk6:w6.heap[g1]? = some (.cells (intV (E.set k (-1))).toArray 3 (0,0)):=by
         rw [HG6.out.block g1 (by have:=HLT5.out;omega) (fun e=>HNE.out e.symm),hb6.block g1 HLT5.out]
         exact HBLK5.out
       have hbel6:Below w.heap.size w w6:=(HB5.out.trans (hb6.mono HB5.out.size)).grown HG6.out (by have:=HB5.out.size;omega) (fun k hk=>by have:=(own_lt HOWN5.out k hk).2;have:=HLT.out;omega)
       have hown6:=HOWN6.out
       rw [show intV (stkI (endsTo p.ops k).2)++[Value.int .i64 (k:Int)]=intV (stkI (k :: (endsTo p.ops k).2)) by rw [stkI_cons,intV_append];rfl,←hl6] at hown6
       have hd6:w6.cell? ⟨w.heap.size,2,none⟩=some (.slice (some ⟨g,off,none⟩) no co):=by
         refine (World.cell?_of_block (w:=W5) ?_).trans HD5.out
         show w6.heap[w.heap.size]? = W5.heap[w.heap.size]?
         rw [HG6.out.block w.heap.size (by have:=HLT5.out;omega) (fun e=>by have:=(own_lt HOWN5.out _ e.symm).2;have:=HLT.out;omega),hb6.block w.heap.size (by have:=HLT5.out;omega)]
       go_roundw
       case rel=>exact ⟨k+1,A6,c6,_,by omega,by go_num,by rw [HN.out,hl6],by rw [HN.out];exact hown6,by rw [HN.out];simp only [hl6];exact hne6,hblk6,HEN.out,hbel6,hd6⟩
       case measure=>simp [intOf];omega
     · have e16:(kd == 16)=false:=by simpa using h16
       by_cases h17:kd=17
       · have e17:(kd == 17)=true:=by simpa using h17
         have hnil:=HBAL.out.some_ k o HO.out (by rw [HKD.out];exact h17)
         obtain ⟨m,l,hml⟩:∃ m l,(endsTo p.ops k).2=m :: l:=by
           cases h:(endsTo p.ops k).2 with
           | nil=>exact absurd h hnil
           | cons m l=>exact ⟨m,l,rfl⟩
         have HN:=Lh (show endsTo p.ops (k+1)=(((endsTo p.ops k).1.set k (m:Nat)).set m (k:Int),l) by rw [HST.out];unfold endsStep;rw [if_neg (by rw [HKD.out];exact h16),if_pos (by rw [HKD.out];exact h17),hml])
         rw [hml] at HOWN5 HNE HSL
         have hmk:m < k:=((ends_inv HBAL.out k (by rw [HNO.out];omega)).open_ m (by rw [hml];exact List.mem_cons_self)).1
         have HEN:=Lh (HEU.out.end_ (by rw [HN.out]))
         have HEL:=Lh HEU.out.len
         rw [hml]
         clear h16 h17 hnil hml hkl
         obtain ⟨ll,hll⟩:∃ n,l.length=n:=⟨_,rfl⟩
         have hl1:(m :: l).length=ll+1:=by rw [List.length_cons,hll]
         rw [hl1] at HOWN5 HNE HSL
         rw [hl1]
         have hlk:ll < k:=HSL.out
         obtain ⟨gs,capx,hA⟩:∃ gs cap,Value.slice A (ll+1) c=.slice (some ⟨gs,0,none⟩) (ll+1) cap:=by
           rcases HOWN5.out.2 with ⟨_,h⟩ | ⟨g,cap,cur,hv,_⟩
           · omega
           · exact ⟨g,cap,hv⟩
         cases hA
         have hnm:=nums_own (l:=stkI (m :: l)) (by rw [stkI_len,hl1];exact HOWN5.out)
         obtain ⟨b',o',hb',_,hcell⟩:=hnm.at_ (k:=ll) (x:=(m:Int)) (by rw [←hll];exact stkI_top m l)
         cases hb'
         rw [Nat.zero_add] at hcell
         have hca:ll+1≤c:=by
           rcases HOWN5.out.2 with ⟨_,h⟩ | ⟨g,cap,cur,hv,_,_,hnc,_⟩
           · omega
           · cases hv;exact hnc
         have hE:(E.set k (-1)).length=no:=by rw [List.length_set,HEL.out,HNO.out]
         obtain ⟨E5,hE5⟩:∃ q,E.set k (-1)=q:=⟨_,rfl⟩
         rw [hE5] at HBLK5 HEN hE
         have hS1:=setCell_row HBLK5.out k (.int .i64 (m:Nat))
         rw [intV_set] at hS1
         have hS2:=setCell_row hS1 m (.int .i64 (k:Nat))
         rw [intV_set] at hS2
         have HS2:=Lh hS2
         obtain ⟨x1,hx1⟩:∃ x,E5[k]? = some x:=⟨_,List.getElem?_eq_getElem (by omega)⟩
         obtain ⟨x2,hx2⟩:∃ x,(E5.set k (m:Int))[m]? = some x:=⟨_,List.getElem?_eq_getElem (by simp;omega)⟩
         have z1:W5.cell? ⟨g1,k,none⟩=some (.int .i64 x1):=cell_row HBLK5.out (intV_get hx1)
         have z2:W5.frozen? ⟨g1,k,none⟩=false:=frozen_row HBLK5.out k
         have z3:(W5.setCell ⟨g1,k,none⟩ (.int .i64 (m:Nat))).cell? ⟨g1,m,none⟩=some (.int .i64 x2):=cell_row hS1 (intV_get hx2)
         have z4:(W5.setCell ⟨g1,k,none⟩ (.int .i64 (m:Nat))).frozen? ⟨g1,m,none⟩=false:=frozen_row hS1 m
         have j0:(0:Int)≤(m:Int):=by omega
         have j1:(m:Int) < (no:Int):=by omega
         have j2:IntKind.i64.wrap ((((ll+1:Nat):Int)) - 1)=ll:=by simp [IntKind.wrap,IntKind.bits,IntKind.signed];omega
         have j3:(ll:Int) < ((ll+1:Nat):Int):=by omega
         have j4:(0:Int)≤(ll:Int):=by omega
         have HLL:=Lh hll
         clear hS1 hS2 hx1 hx2 hl1 hnm hll hE hE5
         go_wp2
         have hne2:∀ kk,(Value.slice (some ⟨gs,0,none⟩) ll c).ownBlock=some kk→kk≠g1:=fun kk h e=>HNE.out (by rw [e] at h;exact h)
         have hbel2:Below w.heap.size w ((W5.setCell ⟨g1,k,none⟩ (.int .i64 (m:Nat))).setCell ⟨g1,m,none⟩ (.int .i64 (k:Nat))):=(HB5.out.setCell (by simp only [];omega) _).setCell (by simp only [];omega) _
         have hown2:=own_take HOWN5.out (k:=ll) (by omega)
         rw [intV_take,←HLL.out,stkI_pop,HLL.out] at hown2
         have hown3:=row_keep (w':=(W5.setCell ⟨g1,k,none⟩ (.int .i64 (m:Nat))).setCell ⟨g1,m,none⟩ (.int .i64 (k:Nat))) (fun g hg=>(Below.heap_setCell _ _ _ _ (hne2 g hg)).trans (Below.heap_setCell _ _ _ _ (hne2 g hg))) hown2
         have hd7:((W5.setCell ⟨g1,k,none⟩ (.int .i64 (m:Nat))).setCell ⟨g1,m,none⟩ (.int .i64 (k:Nat))).cell? ⟨w.heap.size,2,none⟩=some (.slice (some ⟨g,off,none⟩) no co) :=
           (World.cell?_of_block (w:=W5) ((Below.heap_setCell _ _ _ _ (by simp only [];omega)).trans (Below.heap_setCell _ _ _ _ (by simp only [];omega)))).trans HD5.out
         go_roundw
         case rel=>exact ⟨k+1,some ⟨gs,0,none⟩,c,_,by omega,by go_num,by rw [HN.out,HLL.out],by rw [HN.out];simp only [HLL.out];exact hown3,by rw [HN.out];exact fun h=>hne2 _ h rfl,HS2.out,HEN.out,hbel2,hd7⟩
         case measure=>simp [intOf];omega
       · have e17:(kd == 17)=false:=by simpa using h17
         have HN:=Lh (show endsTo p.ops (k+1)=endsTo p.ops k by rw [HST.out];unfold endsStep;rw [if_neg (by rw [HKD.out];exact h16),if_neg (by rw [HKD.out];exact h17)])
         have HEN:=Lh (HEU.out.none_ HBAL.out hkl (by rw [HN.out]))
         clear h16 h17 hkl
         go_wp2
         go_roundw
         case rel=>exact ⟨k+1,A,c,_,by omega,by go_num,by rw [HN.out],by rw [HN.out];exact HOWN5.out,by rw [HN.out];exact HNE.out,HBLK5.out,HEN.out,HB5.out,HD5.out⟩
         case measure=>simp [intOf];omega
   · have hkn:k=p.ops.length:=by rw [HNO.out];omega
     have HRES:=Lh (show wr.heap[g1]? = some (.cells (intV (endsF p.ops)).toArray 3 (0,0)) by
       have:=HEU.out
       rw [hkn] at this
       rw [←this.done];exact HBLK.out)
     clear hkn
     go_wp2
     go_ret
     exact ⟨g1,rfl,by omega,HRES.out,HBEL.out⟩
end Go.Proofs.YtppoiahhaclleaaDoor
namespace Go.Proofs.YtppoiahhaclleaaDoor
open Go.RowKit
set_option maxRecDepth 100000
variable {aB aA kV aC aD kX kY kZ lA lB lC aE aF aG aH aI aJ aK aL aM aN aO aP aQ aR aS aT aU aV aW aX aY aZ a8 bA bB bC bD bE bF bG bH bI bJ bK bL bM bN bO bP bQ bS bT bU bV bW bX bY bZ b4 b6 cA cC cD cE cF cG cH cI cJ cK cL cM cN cO cP cQ cR cT cU cV cW cX cY cZ c8 dA dB dC dD dE dF dG dH dI dJ dK dL dM dN dO dP dQ dR dS dT dU dV dW dX dY dZ d7 eA eB eC eD eE eF eG eH eI eJ eK eL eM eN eO eP eQ eR : Value}
def spV (sp:List (Int×Int)):List Value:=(sp.map fun s=>[Value.int .i64 s.1,Value.int .i64 s.2]).flatten
theorem spV_len (sp:List (Int×Int)):(spV sp).length=sp.length*2:=by
 unfold spV
 induction sp with
 | nil=>rfl
 | cons s sp ih=>simp only [List.map_cons,List.flatten_cons,List.length_append,ih,List.length_cons,List.length_nil];omega
theorem spV_cons (s:Int×Int) (sp:List (Int×Int)):spV (s :: sp)=Value.int .i64 s.1 :: Value.int .i64 s.2 :: spV sp:=rfl
theorem spV_get {sp:List (Int×Int)} {r:Nat} {s:Int×Int} (h:sp[r]? = some s):(spV sp)[r*2]? = some (.int .i64 s.1)∧(spV sp)[r*2+1]? = some (.int .i64 s.2):=by
 induction sp generalizing r with
 | nil=>cases h
 | cons t sp ih =>
   rw [spV_cons]
   cases r with
   | zero=>simp at h;subst h;exact ⟨rfl,rfl⟩
   | succ r =>
     have:=ih (by simpa using h)
     rw [show (r+1)*2=r*2+1+1 by omega]
     exact this
theorem spV_set {sp:List (Int×Int)} {r:Nat} {s:Int×Int} (h:sp[r]? = some s) (a b:Int):((spV sp).set (r*2) (.int .i64 a)).set (r*2+1) (.int .i64 b)=spV (sp.set r (a,b)):=by
 induction sp generalizing r with
 | nil=>cases h
 | cons t sp ih =>
   cases r with
   | zero=>rfl
   | succ r =>
     have:=ih (r:=r) (by simpa using h)
     rw [spV_cons,show (r+1)*2=r*2+1+1 by omega,show (r*2+1+1+1)=(r*2+1)+1+1 from rfl]
     simp only [List.set_cons_succ,spV_cons]
     rw [this]
theorem spV_set2 {sp:List (Int×Int)} {r:Nat} {s:Int×Int} (h:sp[r]? = some s) (b:Int):(spV sp).set (r*2+1) (.int .i64 b)=spV (sp.set r (s.1,b)):=by
 rw [←spV_set h s.1 b]
 congr 1
 obtain ⟨h1,h2⟩:=List.getElem?_eq_some_iff.1 (spV_get h).1
 conv=>lhs;rw [←List.set_getElem_self h1]
 rw [h2]
def SpansAt (w:World) (g:Nat) (sp:List (Int×Int)):Prop:=w.heap[g]? = some (.cells (spV sp).toArray 68 (0,0))
theorem SpansAt.cells {w:World} {g:Nat} {sp:List (Int×Int)} (h:SpansAt w g sp) {r:Nat} {s:Int×Int} (hr:sp[r]? = some s):w.cell? ⟨g,r*2,none⟩=some (.int .i64 s.1)∧w.cell? ⟨g,r*2+1,none⟩=some (.int .i64 s.2) :=
 ⟨cell_row h (spV_get hr).1,cell_row h (spV_get hr).2⟩
theorem SpansAt.next {w w':World} {g:Nat} {sp:List (Int×Int)} (h:SpansAt w g sp) (hb:Below w.heap.size w w'):SpansAt w' g sp:=(hb.block g (lt_of_block h)).trans h
set_option maxHeartbeats 800000 in
theorem live_any (s:Int×Int) (w:World):Calls Tryd.prog 33 #[.agg #[.int .i64 s.1,.int .i64 s.2]] w fun e w'=>e=.returned (.bool (decide (0≤s.1)))∧Below w.heap.size w w':=by
 obtain ⟨a,ha⟩:∃ a,s.1=a:=⟨_,rfl⟩
 obtain ⟨b,hb⟩:∃ a,s.2=a:=⟨_,rfl⟩
 rw [ha,hb]
 clear ha hb
 go_enter Tryd.func33,Tryd.ntmps33
 go_wp2
 go_ret
 exact ⟨rfl,(Below.refl _ _).alloc (Nat.le_refl _) _⟩
set_option maxHeartbeats 1600000 in
theorem note_any (g r:Nat) (sp:List (Int×Int)) (s:Int×Int) (i:Int) (w:World) (hg:SpansAt w g sp) (hr:sp[r]? = some s) :
   Calls Tryd.prog 52 #[.pointer (some ⟨g,r*2,none⟩),.int .i64 i] w fun e w'=>e=.returned (.tuple #[])∧Chg (fun k=>k=g) w w'∧SpansAt w' g (sp.set r (noteF s i)):=by
 have hc:=hg.cells hr
 have hf:∀ k,w.frozen? ⟨g,k,none⟩=false:=fun k=>frozen_row hg k
 obtain ⟨a,ha⟩:∃ a,s.1=a:=⟨_,rfl⟩
 obtain ⟨b,hb⟩:∃ a,s.2=a:=⟨_,rfl⟩
 have hn:noteF s i=(if a < 0 then i else a,max b i):=by unfold noteF;rw [ha,hb]
 rw [ha,hb] at hc
 have HN:=Lh hn
 have HG:=Lh hg
 have HR:=Lh hr
 have HA:=Lh (And.intro ha hb)
 obtain ⟨k,hk⟩:∃ k,r*2=k:=⟨_,rfl⟩
 rw [hk] at hc ⊢
 have HK:=Lh hk
 obtain ⟨m,hm⟩:∃ m,max b i=m:=⟨_,rfl⟩
 have HM:=Lh hm
 have hc0:=hc.1
 have hc1:=hc.2
 have hf0:=hf k
 have hf1:=hf (k+1)
 clear hg hr ha hb hn hc hf hk
 by_cases h0:a < 0
 · have d0:decide (a < (0:Int))=true:=decide_eq_true h0
   have hn2:noteF s i=(i,m):=by rw [HN.out,if_pos h0,hm]
   have hS1:=setCell_row HG.out k (.int .i64 i)
   have hS2:=setCell_row hS1 (k+1) (.int .i64 m)
   rw [←HK.out,spV_set HR.out i m,HK.out,←hn2] at hS2
   have HS2:=Lh hS2
   have hc2:(w.setCell ⟨g,k,none⟩ (.int .i64 i)).cell? ⟨g,k+1,none⟩=some (.int .i64 b):=cell_row hS1 (by rw [List.getElem?_set_ne (by omega),←HK.out,←HA.out.2];exact (spV_get HR.out).2)
   have hf2:(w.setCell ⟨g,k,none⟩ (.int .i64 i)).frozen? ⟨g,k+1,none⟩=false:=frozen_row hS1 _
   have HC2:=Lh (And.intro hc2 hf2)
   obtain ⟨W,hW⟩:∃ q,q=w.setCell ⟨g,k,none⟩ (.int .i64 i):=⟨_,rfl⟩
   rw [←hW] at hS2 hc2 hf2 HS2 HC2
   have HCH:=Lh (show Chg (fun k=>k=g) w W by rw [hW];exact (Chg.refl (fun k=>k=g) w).setCell (.inl rfl) _)
   have HW:=Lh hW
   clear h0 hn2 hS1 hS2 hW hc2 hf2
   go_enter Tryd.func52,Tryd.ntmps52
   go_upto_region 2 with fail
   rw [←HW.out]
   (refine wp_region_lines (fun w_=>w_.cell? ⟨g,k+1,none⟩=some (.int .i64 b)) (by kernel_rfl) (by kernel_rfl) HC2.out.1 ?_)
   (try simp only [])
   repeat (first | (refine runL_no (by rfl) ?_;(try simp only [Act.put,List.setIfInBounds_toArray,List.set_cons_zero,List.set_cons_succ])) | (refine runL_val (v:=?_) (by rfl) ?_ ?_;rotate_left;(focus (intro w_ hw_;have hk1_:=hw_;go_simp;(try with_reducible rfl);done));(try simp only [Act.put,List.setIfInBounds_toArray,List.set_cons_zero,List.set_cons_succ])) | (refine runL_skip (w1:=W.drew.setCell ⟨g,k+1,none⟩ (.int .i64 m)) (by rfl) (by rfl) (exec_store1 3 _ _ rfl g (k+1) _ rfl rfl (by kernel_rfl) (by show (World.cell? W _).isSome=true;rw [HC2.out.1];rfl) HC2.out.2 rfl) (.inl ⟨rfl,by kernel_rfl⟩) ?_;(try simp only [Act.put])))
   (refine runL_nil ?_)
   refine bodyPost_end (v:=.tuple #[]) (results_none rfl _ _ _) rfl ?_
   refine ⟨rfl,HCH.out.drew.setCell (.inl rfl) _,HS2.out⟩
 · have d0:decide (a < (0:Int))=false:=decide_eq_false h0
   have hn2:noteF s i=(a,m):=by rw [HN.out,if_neg h0,hm]
   have hS2:=setCell_row HG.out (k+1) (.int .i64 m)
   rw [←HK.out,spV_set2 HR.out,HK.out,HA.out.1,←hn2] at hS2
   have HS2:=Lh hS2
   have HC2:=Lh (And.intro hc1 hf1)
   clear h0 hn2 hS2
   go_enter Tryd.func52,Tryd.ntmps52
   go_upto_region 2 with fail
   (refine wp_region_lines (fun w_=>w_.cell? ⟨g,k+1,none⟩=some (.int .i64 b)) (by kernel_rfl) (by kernel_rfl) HC2.out.1 ?_)
   (try simp only [])
   repeat (first | (refine runL_no (by rfl) ?_;(try simp only [Act.put,List.setIfInBounds_toArray,List.set_cons_zero,List.set_cons_succ])) | (refine runL_val (v:=?_) (by rfl) ?_ ?_;rotate_left;(focus (intro w_ hw_;have hk1_:=hw_;go_simp;(try with_reducible rfl);done));(try simp only [Act.put,List.setIfInBounds_toArray,List.set_cons_zero,List.set_cons_succ])) | (refine runL_skip (w1:=w.drew.setCell ⟨g,k+1,none⟩ (.int .i64 m)) (by rfl) (by rfl) (exec_store1 3 _ _ rfl g (k+1) _ rfl rfl (by kernel_rfl) (by show (World.cell? w _).isSome=true;rw [HC2.out.1];rfl) HC2.out.2 rfl) (.inl ⟨rfl,by kernel_rfl⟩) ?_;(try simp only [Act.put])))
   (refine runL_nil ?_)
   refine bodyPost_end (v:=.tuple #[]) (results_none rfl _ _ _) rfl ?_
   refine ⟨rfl,((Chg.refl (fun k=>k=g) w).drew).setCell (.inl rfl) _,HS2.out⟩
theorem noteR_neg {sp:List (Int×Int)} {r i:Int} (h:¬ 0≤r):noteR sp r i=sp:=by unfold noteR;rw [if_neg h]
theorem noteR_pos {sp:List (Int×Int)} {q:Nat} {i:Int} {s:Int×Int} (h:sp[q]? = some s):noteR sp (q:Int) i=sp.set q (noteF s i):=by
 unfold noteR
 rw [if_pos (by omega),Int.toNat_natCast]
 refine List.ext_getElem? fun j=>?_
 rw [List.getElem?_modify,List.getElem?_set]
 by_cases e:q=j
 · subst e
   rw [if_pos rfl,h]
   simp [(List.getElem?_eq_some_iff.1 h).1]
 · rw [if_neg e]
   cases sp[j]? <;> simp [e]
theorem notes_take {l:List Int} {k:Nat} {r:Int} (h:l[k]? = some r) (sp:List (Int×Int)) (i:Int):(l.take (k+1)).foldl (fun sp r=>noteR sp r i) sp=noteR ((l.take k).foldl (fun sp r=>noteR sp r i) sp) r i:=by
 rw [List.take_add_one,h,List.foldl_append]
 rfl
set_option maxHeartbeats 4000000 in
theorem spans_l2 {Al:Option Addr} {gs n nl cl:Nat} {i:Int} {sp:List (Int×Int)} {l:List Int} {G:Nat→Prop} (w:World) (Q:Exit→Act→World→Prop) (hg:SpansAt w gs sp) (hn:sp.length=n) (hl:NumsAt w G (.slice Al nl cl) l) (hG:∀ k,G k→k≠gs∧k < w.heap.size) (hnl:l.length=nl) (hn3:nl≤1000) (hr:∀ r∈l,r < n)
   (k1:∀ (mM lY lZ l5 l6 l7 l8 l9 mA mB mC mD mE:Value) (w':World),Chg (fun k=>k=gs) w w'→SpansAt w' gs (l.foldl (fun sp r=>noteR sp r i) sp)→Q (.exit 2) ⟨#[aB,aA,kV,.slice (some ⟨gs,0,none⟩) n n,aC,.int .i64 i,kX,kY,kZ,mM,lB,lC,aE,aF,aG,aH,aI,aJ,aK,aL,aM,aN,aO,aP,aQ,aR,aS,aT,aU,aV,aW,aX,aY,aZ,a8,bA,bB,bC,bD,bE,bF,bG,bH,bI,bJ,bK,bL,bM,bN,bO,bP,bQ,bS,bT,bU,bV,.slice Al nl cl,.int .i64 (nl:Nat),lY,lZ,l5,l6,l7,l8,l9,mA,mB,mC,mD,mE,cJ,cK,cL,cM,cN,cO,cP,cQ,cR,cT,cU,cV,cW,cX,cY,cZ,c8,dA,dB,dC,dD,dE,dF,dG,dH,dI,dJ,dK,dL,dM,dN,dO,dP,dQ,dR,dS,dT,dU,dV,dW,dX,dY,dZ,d7,eA,eB,eC,eD,eE,eF,eG,eH,eI,eJ,eK,eL,eM,eN,eO,eP,eQ,eR],[]⟩ w'):(partL Tryd.f32 2).wp Tryd.prog Q ⟨#[aB,aA,kV,.slice (some ⟨gs,0,none⟩) n n,aC,.int .i64 i,kX,kY,kZ,lA,lB,lC,aE,aF,aG,aH,aI,aJ,aK,aL,aM,aN,aO,aP,aQ,aR,aS,aT,aU,aV,aW,aX,aY,aZ,a8,bA,bB,bC,bD,bE,bF,bG,bH,bI,bJ,bK,bL,bM,bN,bO,bP,bQ,bS,bT,bU,bV,.slice Al nl cl,.int .i64 (nl:Nat),.int .i64 0,bZ,b4,b6,cA,cC,cD,cE,cF,cG,cH,cI,cJ,cK,cL,cM,cN,cO,cP,cQ,cR,cT,cU,cV,cW,cX,cY,cZ,c8,dA,dB,dC,dD,dE,dF,dG,dH,dI,dJ,dK,dL,dM,dN,dO,dP,dQ,dR,dS,dT,dU,dV,dW,dX,dY,dZ,d7,eA,eB,eC,eD,eE,eF,eG,eH,eI,eJ,eK,eL,eM,eN,eO,eP,eQ,eR],[]⟩ w:=by
 have HG:=Lh hg
 have HGG:=Lh hG
 have HN:=Lh hn
 have HL:=Lh hl
 have HNL:=Lh hnl
 have HR:=Lh hr
 have K1:=Lh k1
 clear hg hG hn hl hnl hr k1
 conv=>arg 2;whnf
 go_wp2
 go_loopw [58] (fun j wr=>∃ k:Nat,k≤nl∧j=.int .i64 k∧Chg (fun k=>k=gs) w wr∧SpansAt wr gs ((l.take k).foldl (fun sp r=>noteR sp r i) sp)) (fun j _=>nl - (intOf j).toNat)
 case atStart=>exact ⟨0,by omega,rfl,Chg.refl _ _,by simpa using HG.out⟩
 case round =>
   obtain ⟨k,hk,rfl,hch,hca⟩:=hrel
   have HCH:=Lh hch
   have HCA:=Lh hca
   clear hch hca
   by_cases hlt:k < nl
   · obtain ⟨x,hx⟩:∃ x,l[k]? = some x:=⟨_,List.getElem?_eq_getElem (by have:=HNL.out;omega)⟩
     obtain ⟨b,o,rfl,hb,hc⟩:=HL.out.at_ hx
     have hc2:=(World.cell?_of_block (w:=w) (w':=wr) (a:=⟨b,o+k,none⟩) (HCH.out.block b (HGG.out b hb).2 (HGG.out b hb).1)).trans hc
     have hx2:=HR.out x (List.mem_of_getElem? hx)
     have HT:=Lh (notes_take hx sp i)
     have i0:(0:Int)≤(k:Int):=by omega
     have i1:(k:Int) < (nl:Int):=by omega
     clear hc hb
     by_cases x0:0≤x
     · have d0:decide ((0:Int)≤x)=true:=decide_eq_true x0
       obtain ⟨q,rfl⟩:∃ q:Nat,x=q:=⟨x.toNat,by omega⟩
       have hlen:((l.take k).foldl (fun sp r=>noteR sp r i) sp).length=n:=by rw [notes_fold_len];exact HN.out
       obtain ⟨s,hs⟩:∃ s,((l.take k).foldl (fun sp r=>noteR sp r i) sp)[q]? = some s:=⟨_,List.getElem?_eq_getElem (by omega)⟩
       have HNT:=Lh (note_any gs q _ s i wr HCA.out hs)
       have HP:=Lh (noteR_pos (i:=i) hs)
       have q0:(0:Int)≤(q:Int):=by omega
       have q1:(q:Int) < (n:Int):=by omega
       clear hx hx2 hlen hs x0
       go_wp2_with ((with_reducible refine (HNT.out).mono ?_);rintro e w1 ⟨rfl,hch1,hsp1⟩;have HC1:=Lh hch1;have HS1:=Lh hsp1;clear hch1 hsp1)
       go_roundw
       case rel=>exact ⟨k+1,by omega,by go_num,HCH.out.trans HC1.out,by rw [HT.out,HP.out];exact HS1.out⟩
       case measure=>simp [intOf];omega
     · have d0:decide ((0:Int)≤x)=false:=decide_eq_false x0
       have HP:=Lh (noteR_neg (sp:=(l.take k).foldl (fun sp r=>noteR sp r i) sp) (i:=i) x0)
       clear hx hx2 x0
       go_wp2
       go_roundw
       case rel=>exact ⟨k+1,by omega,by go_num,HCH.out,by rw [HT.out,HP.out];exact HCA.out⟩
       case measure=>simp [intOf];omega
   · have HZ:=Lh (show SpansAt wr gs (l.foldl (fun sp r=>noteR sp r i) sp) by have:=HCA.out;rwa [List.take_of_length_le (by have:=HNL.out;omega)] at this)
     go_wp2
     exact K1.out _ _ _ _ _ _ _ _ _ _ _ _ _ _ HCH.out HZ.out
def EndsAt (w:World) (g:Nat) (E:List Int):Prop:=w.heap[g]? = some (.cells (intV E).toArray 3 (0,0))
theorem EndsAt.cell {w:World} {g:Nat} {E:List Int} (h:EndsAt w g E) {k:Nat} {e:Int} (hk:E[k]? = some e):w.cell? ⟨g,k,none⟩=some (.int .i64 e):=cell_row h (intV_get hk)
theorem EndsAt.next {w w':World} {g:Nat} {E:List Int} (h:EndsAt w g E) (hb:Below w.heap.size w w'):EndsAt w' g E:=(hb.block g (lt_of_block h)).trans h
def midS (i e:Int) (sp:List (Int×Int)) (r:Nat):List (Int×Int):=(sp.take r).map (lastF i e)++sp.drop r
theorem midS_get {i e:Int} {sp:List (Int×Int)} {r:Nat} {s:Int×Int} (h:sp[r]? = some s):(midS i e sp r)[r]? = some s:=by
 have hr:=(List.getElem?_eq_some_iff.1 h).1
 unfold midS
 rw [List.getElem?_append_right (by simp;omega)]
 simp [Nat.min_eq_left (Nat.le_of_lt hr),h]
theorem midS_next {i e:Int} {sp:List (Int×Int)} {r:Nat} {s:Int×Int} (h:sp[r]? = some s):midS i e sp (r+1)=(midS i e sp r).set r (lastF i e s):=by
 have hr:=(List.getElem?_eq_some_iff.1 h).1
 unfold midS
 rw [List.set_append_right _ _ (by simp;omega),List.take_add_one,h]
 have hd:sp.drop r=s :: sp.drop (r+1):=by rw [List.drop_eq_getElem_cons hr,(List.getElem?_eq_some_iff.1 h).2]
 rw [hd]
 simp [Nat.min_eq_left (Nat.le_of_lt hr)]
theorem midS_same {i e:Int} {sp:List (Int×Int)} {r:Nat} {s:Int×Int} (h:sp[r]? = some s) (hl:lasts i e s=false):midS i e sp (r+1)=midS i e sp r:=by
 rw [midS_next h,last_same hl]
 have h1:=midS_get (i:=i) (e:=e) h
 obtain ⟨h2,h3⟩:=List.getElem?_eq_some_iff.1 h1
 rw [←h3,List.set_getElem_self]
theorem any_step {i e:Int} {sp:List (Int×Int)} {r:Nat} {s:Int×Int} (h:sp[r]? = some s) (b:Bool):(b || (sp.take (r+1)).any (lasts i e))=((b || (sp.take r).any (lasts i e)) || lasts i e s):=by
 rw [List.take_add_one,h,List.any_append]
 simp [Bool.or_assoc]
set_option maxHeartbeats 4000000 in
theorem spans_l8 {gs ge n ne k:Nat} {e:Int} {b:Bool} {sp:List (Int×Int)} {E:List Int} (w:World) (Q:Exit→Act→World→Prop) (hg:SpansAt w gs sp) (hn:sp.length=n) (hE:EndsAt w ge E) (hk:E[k]? = some e) (hne:k < ne) (hgg:gs≠ge) (hn3:n≤1000)
   (k1:∀ (nA nQ i8 i9 jA jB jC jD jE jF jG jH jI jJ jK jL jM jO jP jQ jR jS jT jU jV jW jX jY jZ j5 j6 j7 j8 j9 kF kG kH kI kJ kK kL kN kO kP kQ kR kS:Value) (w':World),Chg (fun k=>k=gs) w w'→SpansAt w' gs (sp.map (lastF k e))→Q (.exit 8) ⟨#[aB,aA,kV,.slice (some ⟨gs,0,none⟩) n n,.slice (some ⟨ge,0,none⟩) ne ne,aD,kX,kY,kZ,lA,.bool (b || sp.any (lasts k e)),.int .i64 (k:Nat),aE,nA,nQ,aH,aI,aJ,aK,aL,aM,aN,aO,aP,aQ,aR,aS,aT,aU,aV,aW,aX,aY,aZ,a8,bA,bB,bC,bD,bE,bF,bG,bH,bI,bJ,bK,bL,bM,bN,bO,bP,bQ,bS,bT,bU,bV,bW,bX,bY,bZ,b4,b6,cA,cC,cD,cE,cF,cG,cH,cI,cJ,cK,cL,cM,cN,cO,cP,cQ,cR,cT,cU,cV,cW,cX,.int .i64 (n:Nat),i8,i9,jA,jB,jC,jD,jE,jF,jG,jH,jI,jJ,jK,jL,jM,jO,jP,jQ,jR,jS,jT,jU,jV,jW,jX,jY,jZ,j5,j6,j7,j8,j9,kF,kG,kH,kI,kJ,kK,kL,kN,kO,kP,kQ,kR,kS,eQ,eR],[]⟩ w'):(partL Tryd.f32 8).wp Tryd.prog Q ⟨#[aB,aA,kV,.slice (some ⟨gs,0,none⟩) n n,.slice (some ⟨ge,0,none⟩) ne ne,aD,kX,kY,kZ,lA,.bool b,.int .i64 (k:Nat),aE,aF,aG,aH,aI,aJ,aK,aL,aM,aN,aO,aP,aQ,aR,aS,aT,aU,aV,aW,aX,aY,aZ,a8,bA,bB,bC,bD,bE,bF,bG,bH,bI,bJ,bK,bL,bM,bN,bO,bP,bQ,bS,bT,bU,bV,bW,bX,bY,bZ,b4,b6,cA,cC,cD,cE,cF,cG,cH,cI,cJ,cK,cL,cM,cN,cO,cP,cQ,cR,cT,cU,cV,cW,cX,.int .i64 (n:Nat),.int .i64 0,c8,dA,dB,dC,dD,dE,dF,dG,dH,dI,dJ,dK,dL,dM,dN,dO,dP,dQ,dR,dS,dT,dU,dV,dW,dX,dY,dZ,d7,eA,eB,eC,eD,eE,eF,eG,eH,eI,eJ,eK,eL,eM,eN,eO,eP,eQ,eR],[]⟩ w:=by
 have HG:=Lh hg
 have HN:=Lh hn
 have HE0:=Lh hE
 have HE:=Lh hk
 have HGG:=Lh (And.intro hgg (lt_of_block hE))
 have K1:=Lh k1
 have j0:(0:Int)≤(k:Int):=by omega
 have j1:(k:Int) < (ne:Int):=by omega
 clear hg hn hE hk hgg k1
 conv=>arg 2;whnf
 go_wp2
 go_loopw [10,85] (fun bv j wr=>∃ r:Nat,r≤n∧j=.int .i64 r∧bv=.bool (b || (sp.take r).any (lasts k e))∧Chg (fun k=>k=gs) w wr∧SpansAt wr gs (midS k e sp r)) (fun _ j _=>n - (intOf j).toNat)
 case atStart=>exact ⟨0,by omega,rfl,by simp,Chg.refl _ _,by simpa [midS] using HG.out⟩
 case round =>
   obtain ⟨r,hr,rfl,rfl,hch,hca⟩:=hrel
   have HCH:=Lh hch
   have HCA:=Lh hca
   have HEW:=Lh (show EndsAt wr ge E from (hch.block ge HGG.out.2 (fun e=>HGG.out.1 e.symm)).trans HE0.out)
   clear hch hca
   by_cases hlt:r < n
   · obtain ⟨s,hs⟩:∃ s,sp[r]? = some s:=⟨_,List.getElem?_eq_getElem (by have:=HN.out;omega)⟩
     have HSR:=Lh hs
     have HMG:=Lh (midS_get (i:=k) (e:=e) hs)
     obtain ⟨a,ha⟩:∃ a,s.1=a:=⟨_,rfl⟩
     obtain ⟨q,hq⟩:∃ a,s.2=a:=⟨_,rfl⟩
     have HAB:=Lh (And.intro ha hq)
     have hlv:=live_any s wr.drew
     rw [ha,hq] at hlv
     have HLV:=Lh hlv
     clear hlv
     obtain ⟨bb,hbb⟩:∃ x,(b || (sp.take r).any (lasts k e))=x:=⟨_,rfl⟩
     have HBB:=Lh hbb
     rw [hbb]
     have i0:(0:Int)≤(r:Int):=by omega
     have i1:(r:Int) < (n:Int):=by omega
     clear hs ha hq hbb
     go_upto_region 27 with fail
     cases d0:decide ((0:Int)≤a)
     · have HL:=Lh (show lasts k e s=false by unfold lasts;rw [HAB.out.1,HAB.out.2,d0];rfl)
       (refine wp_region_lines (fun w_=>SpansAt w_ gs (midS k e sp r)∧EndsAt w_ ge E) (by kernel_rfl) (by kernel_rfl) ⟨HCA.out,HEW.out⟩ ?_)
       (try simp only [])
       repeat (first | (refine runL_no (by rfl) ?_;(try simp only [Act.put,List.setIfInBounds_toArray,List.set_cons_zero,List.set_cons_succ])) | (refine runL_val (v:=?_) (by rfl) ?_ ?_;rotate_left;(focus (intro w_ hw_;have c0_:=(hw_.1.cells HMG.out).1;have c1_:=(hw_.1.cells HMG.out).2;have ce_:=hw_.2.cell HE.out;rw [HAB.out.1] at c0_;rw [HAB.out.2] at c1_;go_simp;(try with_reducible rfl);done));(try simp only [Act.put,List.setIfInBounds_toArray,List.set_cons_zero,List.set_cons_succ])) | (refine runL_call (f:=?_) (args:=?_) (w1:=?_) (by rfl) (by rfl) ?_ ?_;rotate_left 3;(focus (go_simp;refine ⟨⟨?_,?_⟩,?_⟩ <;> with_reducible rfl));(with_reducible refine (HLV.out).mono ?_);rintro e w1 ⟨rfl,hb⟩;rw [d0];have HB:=Lh ((Below.refl wr.heap.size wr).drew.trans hb);clear hb;refine ⟨_,rfl,.inr (by exact ⟨HCA.out.next HB.out,HEW.out.next HB.out⟩),?_⟩;(try simp only [Act.put,List.setIfInBounds_toArray,List.set_cons_zero,List.set_cons_succ])))
       (refine runL_nil ?_)
       clear d0
       go_wp2
       go_roundw
       case rel=>exact ⟨r+1,by omega,by go_num,by rw [any_step HSR.out,HL.out,Bool.or_false,HBB.out],HCH.out.trans (Chg.of_below HB.out),by rw [midS_same HSR.out HL.out];exact HCA.out.next HB.out⟩
       case measure=>simp [intOf];omega
     cases d1:decide (a < (k:Int))
     · have HL:=Lh (show lasts k e s=false by unfold lasts;rw [HAB.out.1,HAB.out.2,d0,d1];rfl)
       (refine wp_region_lines (fun w_=>SpansAt w_ gs (midS k e sp r)∧EndsAt w_ ge E) (by kernel_rfl) (by kernel_rfl) ⟨HCA.out,HEW.out⟩ ?_)
       (try simp only [])
       repeat (first | (refine runL_no (by rfl) ?_;(try simp only [Act.put,List.setIfInBounds_toArray,List.set_cons_zero,List.set_cons_succ])) | (refine runL_val (v:=?_) (by rfl) ?_ ?_;rotate_left;(focus (intro w_ hw_;have c0_:=(hw_.1.cells HMG.out).1;have c1_:=(hw_.1.cells HMG.out).2;have ce_:=hw_.2.cell HE.out;rw [HAB.out.1] at c0_;rw [HAB.out.2] at c1_;go_simp;(try with_reducible rfl);done));(try simp only [Act.put,List.setIfInBounds_toArray,List.set_cons_zero,List.set_cons_succ])) | (refine runL_call (f:=?_) (args:=?_) (w1:=?_) (by rfl) (by rfl) ?_ ?_;rotate_left 3;(focus (go_simp;refine ⟨⟨?_,?_⟩,?_⟩ <;> with_reducible rfl));(with_reducible refine (HLV.out).mono ?_);rintro e w1 ⟨rfl,hb⟩;rw [d0];have HB:=Lh ((Below.refl wr.heap.size wr).drew.trans hb);clear hb;refine ⟨_,rfl,.inr (by exact ⟨HCA.out.next HB.out,HEW.out.next HB.out⟩),?_⟩;(try simp only [Act.put,List.setIfInBounds_toArray,List.set_cons_zero,List.set_cons_succ])))
       (refine runL_nil ?_)
       clear d0 d1
       go_wp2
       go_roundw
       case rel=>exact ⟨r+1,by omega,by go_num,by rw [any_step HSR.out,HL.out,Bool.or_false,HBB.out],HCH.out.trans (Chg.of_below HB.out),by rw [midS_same HSR.out HL.out];exact HCA.out.next HB.out⟩
       case measure=>simp [intOf];omega
     cases d2:decide ((k:Int)≤q)
     · have HL:=Lh (show lasts k e s=false by unfold lasts;rw [HAB.out.1,HAB.out.2,d0,d1,d2];rfl)
       (refine wp_region_lines (fun w_=>SpansAt w_ gs (midS k e sp r)∧EndsAt w_ ge E) (by kernel_rfl) (by kernel_rfl) ⟨HCA.out,HEW.out⟩ ?_)
       (try simp only [])
       repeat (first | (refine runL_no (by rfl) ?_;(try simp only [Act.put,List.setIfInBounds_toArray,List.set_cons_zero,List.set_cons_succ])) | (refine runL_val (v:=?_) (by rfl) ?_ ?_;rotate_left;(focus (intro w_ hw_;have c0_:=(hw_.1.cells HMG.out).1;have c1_:=(hw_.1.cells HMG.out).2;have ce_:=hw_.2.cell HE.out;rw [HAB.out.1] at c0_;rw [HAB.out.2] at c1_;go_simp;(try with_reducible rfl);done));(try simp only [Act.put,List.setIfInBounds_toArray,List.set_cons_zero,List.set_cons_succ])) | (refine runL_call (f:=?_) (args:=?_) (w1:=?_) (by rfl) (by rfl) ?_ ?_;rotate_left 3;(focus (go_simp;refine ⟨⟨?_,?_⟩,?_⟩ <;> with_reducible rfl));(with_reducible refine (HLV.out).mono ?_);rintro e w1 ⟨rfl,hb⟩;rw [d0];have HB:=Lh ((Below.refl wr.heap.size wr).drew.trans hb);clear hb;refine ⟨_,rfl,.inr (by exact ⟨HCA.out.next HB.out,HEW.out.next HB.out⟩),?_⟩;(try simp only [Act.put,List.setIfInBounds_toArray,List.set_cons_zero,List.set_cons_succ])))
       (refine runL_nil ?_)
       clear d0 d1 d2
       go_wp2
       go_roundw
       case rel=>exact ⟨r+1,by omega,by go_num,by rw [any_step HSR.out,HL.out,Bool.or_false,HBB.out],HCH.out.trans (Chg.of_below HB.out),by rw [midS_same HSR.out HL.out];exact HCA.out.next HB.out⟩
       case measure=>simp [intOf];omega
     cases d3:decide (q < e)
     · have HL:=Lh (show lasts k e s=false by unfold lasts;rw [HAB.out.1,HAB.out.2,d0,d1,d2,d3];rfl)
       (refine wp_region_lines (fun w_=>SpansAt w_ gs (midS k e sp r)∧EndsAt w_ ge E) (by kernel_rfl) (by kernel_rfl) ⟨HCA.out,HEW.out⟩ ?_)
       (try simp only [])
       repeat (first | (refine runL_no (by rfl) ?_;(try simp only [Act.put,List.setIfInBounds_toArray,List.set_cons_zero,List.set_cons_succ])) | (refine runL_val (v:=?_) (by rfl) ?_ ?_;rotate_left;(focus (intro w_ hw_;have c0_:=(hw_.1.cells HMG.out).1;have c1_:=(hw_.1.cells HMG.out).2;have ce_:=hw_.2.cell HE.out;rw [HAB.out.1] at c0_;rw [HAB.out.2] at c1_;go_simp;(try with_reducible rfl);done));(try simp only [Act.put,List.setIfInBounds_toArray,List.set_cons_zero,List.set_cons_succ])) | (refine runL_call (f:=?_) (args:=?_) (w1:=?_) (by rfl) (by rfl) ?_ ?_;rotate_left 3;(focus (go_simp;refine ⟨⟨?_,?_⟩,?_⟩ <;> with_reducible rfl));(with_reducible refine (HLV.out).mono ?_);rintro e w1 ⟨rfl,hb⟩;rw [d0];have HB:=Lh ((Below.refl wr.heap.size wr).drew.trans hb);clear hb;refine ⟨_,rfl,.inr (by exact ⟨HCA.out.next HB.out,HEW.out.next HB.out⟩),?_⟩;(try simp only [Act.put,List.setIfInBounds_toArray,List.set_cons_zero,List.set_cons_succ])))
       (refine runL_nil ?_)
       clear d0 d1 d2 d3
       go_wp2
       go_roundw
       case rel=>exact ⟨r+1,by omega,by go_num,by rw [any_step HSR.out,HL.out,Bool.or_false,HBB.out],HCH.out.trans (Chg.of_below HB.out),by rw [midS_same HSR.out HL.out];exact HCA.out.next HB.out⟩
       case measure=>simp [intOf];omega
     have HL:=Lh (show lasts k e s=true by unfold lasts;rw [HAB.out.1,HAB.out.2,d0,d1,d2,d3];rfl)
     (refine wp_region_lines (fun w_=>SpansAt w_ gs (midS k e sp r)∧EndsAt w_ ge E) (by kernel_rfl) (by kernel_rfl) ⟨HCA.out,HEW.out⟩ ?_)
     (try simp only [])
     repeat (first | (refine runL_no (by rfl) ?_;(try simp only [Act.put,List.setIfInBounds_toArray,List.set_cons_zero,List.set_cons_succ])) | (refine runL_val (v:=?_) (by rfl) ?_ ?_;rotate_left;(focus (intro w_ hw_;have c0_:=(hw_.1.cells HMG.out).1;have c1_:=(hw_.1.cells HMG.out).2;have ce_:=hw_.2.cell HE.out;rw [HAB.out.1] at c0_;rw [HAB.out.2] at c1_;go_simp;(try with_reducible rfl);done));(try simp only [Act.put,List.setIfInBounds_toArray,List.set_cons_zero,List.set_cons_succ])) | (refine runL_call (f:=?_) (args:=?_) (w1:=?_) (by rfl) (by rfl) ?_ ?_;rotate_left 3;(focus (go_simp;refine ⟨⟨?_,?_⟩,?_⟩ <;> with_reducible rfl));(with_reducible refine (HLV.out).mono ?_);rintro e w1 ⟨rfl,hb⟩;rw [d0];have HB:=Lh ((Below.refl wr.heap.size wr).drew.trans hb);clear hb;refine ⟨_,rfl,.inr (by exact ⟨HCA.out.next HB.out,HEW.out.next HB.out⟩),?_⟩;(try simp only [Act.put,List.setIfInBounds_toArray,List.set_cons_zero,List.set_cons_succ])))
     (refine runL_nil ?_)
     clear d0 d1 d2 d3
     have HCA2:=Lh (HCA.out.next HB.out)
     have HEW2:=Lh (HEW.out.next HB.out)
     have hS:=setCell_row HCA2.out (r*2+1) (.int .i64 e)
     rw [spV_set2 HMG.out,show (s.1,e)=lastF k e s by unfold lastF;rw [HL.out];rfl,←midS_next HSR.out] at hS
     have HS:=Lh hS
     have HC2:=Lh (HCA2.out.cells HMG.out).2
     have HF2:=Lh (frozen_row HCA2.out (r*2+1))
     clear hS
     go_upto_region 28 with fail
     (refine wp_region_lines (fun w_=>EndsAt w_ ge E) (by kernel_rfl) (by kernel_rfl) HEW2.out ?_)
     (try simp only [])
     repeat (first | (refine runL_no (by rfl) ?_;(try simp only [Act.put,List.setIfInBounds_toArray,List.set_cons_zero,List.set_cons_succ])) | (refine runL_val (v:=?_) (by rfl) ?_ ?_;rotate_left;(focus (intro w_ hw_;have ce_:=hw_.cell HE.out;go_simp;(try with_reducible rfl);done));(try simp only [Act.put,List.setIfInBounds_toArray,List.set_cons_zero,List.set_cons_succ])) | (refine runL_skip (w1:=w1.drew.setCell ⟨gs,r*2+1,none⟩ (.int .i64 e)) (by rfl) (by rfl) (exec_store1 3 _ _ rfl gs (r*2+1) _ rfl rfl (by kernel_rfl) (by show (World.cell? w1 _).isSome=true;rw [HC2.out];rfl) HF2.out rfl) (.inr (by exact (show (w1.setCell ⟨gs,r*2+1,none⟩ (.int .i64 e)).heap[ge]? = _ from (Below.heap_setCell _ _ _ _ (fun e=>HGG.out.1 e.symm)).trans HEW2.out))) ?_;(try simp only [Act.put])))
     (refine runL_nil ?_)
     go_wp2
     go_roundw
     case rel=>exact ⟨r+1,by omega,by go_num,by rw [any_step HSR.out,HL.out,Bool.or_true],(HCH.out.trans (Chg.of_below HB.out)).drew.setCell (.inl rfl) _,HS.out⟩
     case measure=>simp [intOf];omega
   · have hrn:r=n:=by omega
     have HZ:=Lh (show SpansAt wr gs (sp.map (lastF k e)) by have:=HCA.out;unfold midS at this;rwa [List.take_of_length_le (by have:=HN.out;omega),List.drop_of_length_le (by have:=HN.out;omega),List.append_nil] at this)
     have HY:=Lh (show (b || (sp.take r).any (lasts k e))=(b || sp.any (lasts k e)) by rw [List.take_of_length_le (by have:=HN.out;omega)])
     rw [HY.out]
     clear hrn
     go_wp2
     exact K1.out _ _ _ _ _ _ _ _ _ _ _ _ _ _ _ _ _ _ _ _ _ _ _ _ _ _ _ _ _ _ _ _ _ _ _ _ _ _ _ _ _ _ _ _ _ _ _ _ HCH.out HZ.out
end Go.Proofs.YtppoiahhaclleaaDoor
