/- Part 4 of a claim; what it proves stands in its last text. -/
import Derived.Test.YtocndimihokcmaaGreatAm3
namespace Go.Proofs.YtocndimihokcmaaGreat
open Go.RowKit
set_option maxRecDepth 100000
def byteRows (l:List UInt8):List (List Value):=l.map fun x=>[byteV x]
theorem byteRows_len (l:List UInt8):∀ r∈byteRows l,r.length=1:=by
 intro r hr
 obtain ⟨x,_,rfl⟩:=List.mem_map.1 hr
 rfl
theorem byteRows_one (l:List UInt8):∀ u∈(byteRows l).flatten,u.oneCell'=true:=by
 intro u hu
 obtain ⟨r,hr,hu⟩:=List.mem_flatten.1 hu
 obtain ⟨x,_,rfl⟩:=List.mem_map.1 hr
 simp at hu
 subst hu
 rfl
theorem entRows_one (P:List (Reg×Ent)):∀ u∈(P.map fun x=>entRow x.2).flatten,u.oneCell'=true:=by
 intro u hu
 obtain ⟨r,hr,hu⟩:=List.mem_flatten.1 hu
 obtain ⟨x,_,rfl⟩:=List.mem_map.1 hr
 simp [entRow] at hu
 rcases hu with rfl | rfl | rfl <;> rfl
theorem entRows_len (P:List (Reg×Ent)):∀ r∈P.map (fun x=>entRow x.2),r.length=3:=by
 intro r hr
 obtain ⟨x,_,rfl⟩:=List.mem_map.1 hr
 rfl
structure EntOwn (w:World) (F:Nat→Prop) (r:Reg) (e:Ent):Prop where
 key:e.key=r.base
 n:e.n=r.bytes.length
 wr:e.wr=r.write
 cap:e.n≤e.c
 blk:∃ bb,e.ad=some ⟨bb,0,none⟩∧F bb∧RowsBlk w bb 5 1 (byteRows r.bytes)
theorem EntOwn.keep {w w':World} {F:Nat→Prop} {r:Reg} {e:Ent} (h:EntOwn w F r e) (hk:SameOn F w w'):EntOwn w' F r e:=by
 obtain ⟨bb,h1,h2,h3⟩:=h.blk
 exact ⟨h.key,h.n,h.wr,h.cap,bb,h1,h2,h3.keep (hk bb h2)⟩
theorem EntOwn.mono {w:World} {F G:Nat→Prop} {r:Reg} {e:Ent} (h:EntOwn w F r e) (hk:∀ k,F k→G k):EntOwn w G r e:=by
 obtain ⟨bb,h1,h2,h3⟩:=h.blk
 exact ⟨h.key,h.n,h.wr,h.cap,bb,h1,hk _ h2,h3⟩
def RegsOwn (w:World) (F:Nat→Prop) (v:Value) (l:List Reg):Prop :=
 ∃ (A:Option Addr) (c:Nat) (P:List (Reg×Ent)),v=.slice A l.length c∧l.length≤c∧P.map (·.1)=l∧(∀ x∈P,EntOwn w F x.1 x.2)∧(P.map (·.2.ad)).Nodup ∧
   (l≠[]→∃ g,A=some ⟨g,0,none⟩∧F g∧RowsBlk w g 72 3 (P.map fun x=>entRow x.2))
theorem RegsOwn.keep {w w':World} {F:Nat→Prop} {v:Value} {l:List Reg} (h:RegsOwn w F v l) (hk:SameOn F w w'):RegsOwn w' F v l:=by
 obtain ⟨A,c,P,h1,h2,h3,h4,h5,h6⟩:=h
 refine ⟨A,c,P,h1,h2,h3,fun x hx=>(h4 x hx).keep hk,h5,fun hne=>?_⟩
 obtain ⟨g,hA,hF,hr⟩:=h6 hne
 exact ⟨g,hA,hF,hr.keep (hk g hF)⟩
def seg (s e:Nat):Nat→Prop:=fun k=>s≤k∧k < e
theorem RowsBlk.ne {w:World} {g g' e e' sz sz':Nat} {rows rows':List (List Value)} (h:RowsBlk w g e sz rows) (h':RowsBlk w g' e' sz' rows') (hne:e≠e'):g≠g':=by
 rintro rfl
 obtain ⟨c,h1,_⟩:=h
 obtain ⟨c',h1',_⟩:=h'
 rw [h1] at h1'
 injection h1' with h1'
 injection h1' with _ he
 exact hne he
theorem RegsOwn.at_ {w:World} {F:Nat→Prop} {v:Value} {l:List Reg} (h:RegsOwn w F v l) (hb:∀ r∈l,r.base < 18446744073709551616∧r.bytes.length≤9223372036854775807):RegsAt w F v l:=by
 obtain ⟨A,c,P,h1,h2,h3,h4,h5,h6⟩:=h
 have hlen:P.length=l.length:=by rw [←h3];simp
 refine ⟨P,h3,⟨A,c,by rw [h1];simp [hlen],by simpa [hlen] using h2,entRows_len P,fun hne=>?_⟩,fun x hx=>?_⟩
 · obtain ⟨g,hA,hF,hr⟩:=h6 (fun e=>hne (by rw [e] at hlen;simp [List.eq_nil_of_length_eq_zero hlen]))
   refine ⟨g,0,hA,hF,fun i j r u hi hj=>?_⟩
   rw [Nat.zero_add]
   exact hr.cell hi hj
 · have hx4:=h4 x hx
   obtain ⟨bb,b1,b2,b3⟩:=hx4.blk
   have hxl:x.1∈l:=by rw [←h3];exact List.mem_map_of_mem hx
   refine ⟨hx4.key,hx4.n,hx4.wr,⟨x.2.ad,x.2.c,by simp [hx4.n],by simpa [hx4.n] using (hx4.n▸hx4.cap),byteRows_len _,fun _=>⟨bb,0,b1,b2,fun i j r u hi hj=>?_⟩⟩,(hb _ hxl).1,(hb _ hxl).2⟩
   rw [Nat.zero_add]
   exact b3.cell hi hj
theorem EntOwn.keep2 {w w':World} {F G:Nat→Prop} {r:Reg} {e:Ent} {g t sz:Nat} {rows:List (List Value)} (h:EntOwn w F r e) (hg:RowsBlk w g t sz rows) (ht:5≠t)
   (hk:∀ k,k < w.heap.size→k≠g→w'.heap[k]? = w.heap[k]?) (hG:∀ k,F k→k < w.heap.size→G k):EntOwn w' G r e:=by
 obtain ⟨bb,h1,h2,h3⟩:=h.blk
 exact ⟨h.key,h.n,h.wr,h.cap,bb,h1,hG _ h2 h3.lt,h3.keep (hk bb h3.lt (h3.ne hg ht))⟩
theorem set_mid (P1 P2:List (Reg×Ent)) (x:Reg×Ent) {k:Nat} (hk:P1.length=k) (A:Option Addr) (n c:Nat) :
   ((P1++x :: P2).map fun x=>entRow x.2).set k ((entRow x.2).set 1 (.slice A n c))=((P1++[((x.1,⟨x.2.key,A,n,c,x.2.wr⟩):Reg×Ent)])++P2).map fun x=>entRow x.2:=by
 subst hk
 rw [List.map_append,List.map_cons,List.set_append_right _ _ (by simp)]
 simp [entRow]
theorem ad_new {w:World} {F:Nat→Prop} {P:List (Reg×Ent)} (h:∀ x∈P,EntOwn w F x.1 x.2) (hn:(P.map (·.2.ad)).Nodup) {bb:Nat} (hb:w.heap.size≤bb) (x:Reg×Ent) (hx:x.2.ad=some ⟨bb,0,none⟩):((P++[x]).map (·.2.ad)).Nodup:=by
 rw [List.map_append,List.nodup_append]
 refine ⟨hn,by simp,fun a ha b hb'=>?_⟩
 obtain ⟨y,hy,rfl⟩:=List.mem_map.1 ha
 simp only [List.map_cons,List.map_nil,List.mem_singleton] at hb'
 subst hb'
 obtain ⟨b2,h1,_,h3⟩:=(h y hy).blk
 rw [hx,h1]
 intro he
 cases he
 have:=h3.lt
 omega
set_option maxHeartbeats 800000 in
theorem own_any (v:Value) (w:World) (F:Nat→Prop) (l:List Reg) (hl:RegsAt w F v l) (hF:∀ k,F k→k < w.heap.size) (h8:l.length≤12) (hb:∀ r∈l,r.bytes≠[]∧r.bytes.length≤1048576) :
   Calls Tryz.prog 26 #[v] w fun e w'=>∃ v',e=.returned v'∧RegsOwn w' (seg w.heap.size w'.heap.size) v' (sortBy Reg.base l)∧Below w.heap.size w w':=by
 obtain ⟨P,hP,hrows,hsrc⟩:=hl
 obtain ⟨A,c,hv,hc,hlen3,hne⟩:=hrows
 subst hP
 simp only [List.length_map] at hv h8 hc
 subst hv
 rcases Nat.eq_zero_or_pos P.length with h0 | hpos
 · obtain rfl:=List.eq_nil_of_length_eq_zero h0
   have HC:=Lh (CloneR_rows (.slice A 0 c) w F [] ⟨A,c,rfl,by simp,by simp,by simp⟩ (by simp) (by simp))
   clear hF hsrc hlen3 hne hb h8 hc h0
   go_enter Tryz.func26,Tryz.ntmps26
   go_wp2_with ((with_reducible refine (HC.out).mono ?_);rintro e w1 ⟨aB,rfl,hown,hb1⟩)
   obtain ⟨A1,c1,rfl⟩:∃ A1 c1,aB=.slice A1 0 c1:=by
     rcases hown.2 with ⟨rfl,_⟩ | ⟨g,cap,_,rfl,_⟩
     · exact ⟨_,_,rfl⟩
     · exact ⟨_,_,rfl⟩
   clear hown
   have HB1:=Lh hb1
   clear hb1
   clear HC
   go_wp2
   go_simp
   go_wp2
   refine wp_loop_rounds 1 ?_
   rw [rounds_succ]
   go_wp2_with (go_at_call 51;(refine (SortFunc_zero _ _ _ _).mono ?_);rintro e w2 ⟨rfl,rfl⟩)
   go_ret
   exact ⟨_,rfl,⟨A1,c1,[],rfl,by simp [sortBy],rfl,by simp,by simp,by simp [sortBy]⟩,HB1.out⟩
 · have HC:=Lh (CloneR_rows (.slice A P.length c) w F (P.map fun x=>entRow x.2) ⟨A,c,by simp,by simpa using hc,hlen3,hne⟩ (entRows_one P) (by simp;omega))
   have HSRC:=Lh hsrc
   have HF:=Lh hF
   have HB:=Lh hb
   clear hsrc hlen3 hne hb hF
   generalize hn:P.length=n at *
   have HN:=Lh hn
   clear hn
   go_enter Tryz.func26,Tryz.ntmps26
   go_wp2_with ((with_reducible refine (HC.out).mono ?_);rintro e w1 ⟨aB,rfl,hown,hb1⟩)
   obtain ⟨g,cap,rfl,hg,hcap,hrow⟩:=rowsBlk_of_own hown (entRows_len P) (by have:=HN.out;simp;omega)
   simp only [List.length_map,HN.out] at hcap
   have HROW:=Lh hrow
   have HB1:=Lh hb1
   clear hown hrow hb1
   simp only [List.length_map,HN.out]
   clear HC
   go_wp2
   go_simp
   go_wp2
   go_loopw [4,9] (fun _ i wr=>∃ (k:Nat) (P1 P2:List (Reg×Ent)),P1.length=k∧k≤n∧i=.int .i64 k∧(P1++P2).map (·.1)=P.map (·.1)∧Below w.heap.size w wr∧RowsBlk wr g 72 3 ((P1++P2).map fun x=>entRow x.2) ∧
       (∀ x∈P1,EntOwn wr (seg w.heap.size wr.heap.size) x.1 x.2)∧(P1.map (·.2.ad)).Nodup∧(∀ x∈P2,EntSrc w F x.1 x.2)) (fun _ i _=>n - (intOf i).toNat)
   case atStart=>exact ⟨0,[],P,rfl,by omega,rfl,rfl,HB1.out,HROW.out,by simp,by simp,HSRC.out⟩
   case round =>
     obtain ⟨k,P1,P2,hk1,hk,rfl,hfst,hbl,hrw,hown,hnd,hsrc⟩:=hrel
     have hlen:(P1++P2).length=n:=by have:=congrArg List.length hfst;have:=HN.out;simp at *;omega
     have HFST:=Lh hfst
     have HBL:=Lh hbl
     have HRW:=Lh hrw
     have HOWN:=Lh hown
     have HND:=Lh hnd
     have HSRC2:=Lh hsrc
     have HK1:=Lh hk1
     have HLEN:=Lh hlen
     clear hfst hbl hrw hown hnd hsrc hk1 hlen HSRC HROW HB1
     by_cases hlt:k < n
     · obtain ⟨x,P2',rfl⟩:∃ x P2',P2=x :: P2':=by
         cases P2 with
         | nil=>have:=HLEN.out;have:=HK1.out;simp at *;omega
         | cons x P2'=>exact ⟨x,P2',rfl⟩
       have hx:=HSRC2.out x (List.mem_cons_self ..)
       have hxl:=HB.out x.1 (by
         have h1:x.1∈(P1++x :: P2').map (·.1):=by simp
         rw [HFST.out] at h1;exact h1)
       have hri:((P1++x :: P2').map fun x=>entRow x.2)[k]? = some (entRow x.2):=by
         rw [List.getElem?_map,List.getElem?_append_right (by have:=HK1.out;omega),show k - P1.length=0 from by have:=HK1.out;omega];rfl
       have hcell:wr.cell? ⟨g,k*3+1,none⟩=some (.slice x.2.ad x.2.n x.2.c):=HRW.out.cell hri (j:=1) (by rfl)
       have hg2:=HRW.out.lt
       have HX:=Lh hx
       have hxl':=hxl
       have HXL:=Lh hxl
       have HRI:=Lh hri
       have HCB:=Lh (CloneB_rows (.slice x.2.ad x.2.n x.2.c) wr F (byteRows x.1.bytes) (hx.bytes.keep (SameOn.of_below HBL.out HF.out)) (byteRows_one _) (by have:=hxl.2;simp [byteRows];omega))
       clear hx hxl hri
       have i0:(0:Int)≤(k:Int):=by omega
       have i1:(k:Int) < (n:Int):=by omega
       have hbn:0 < (byteRows x.1.bytes).length:=by
         have:=hxl'.1
         cases hbs:x.1.bytes with
         | nil=>exact absurd hbs this
         | cons=>simp [byteRows]
       have HBN:=Lh hbn
       clear hbn hxl'
       go_wp2_with ((with_reducible refine (HCB.out).mono ?_);rintro e w2 ⟨aC,rfl,hown2,hb2⟩;obtain ⟨bb,cap2,rfl,hbb,hcap2,hrow2⟩:=rowsBlk_of_own hown2 (byteRows_len _) HBN.out;have hcell2:=(hb2.cell (p:=⟨g,k*3+1,none⟩) hg2).trans hcell;have hfr2:=(HRW.out.keep (hb2.block g hg2)).frozen (k*3+1);have HR2:=Lh hrow2;have HC2:=Lh hcap2;have HB2:=Lh hb2;clear hown2 hrow2 hcap2 hb2 hcell)
       go_roundw
       case rel =>
         have hx:=HX.out
         refine ⟨k+1,P1++[(x.1,⟨x.2.key,some ⟨bb,0,none⟩,(byteRows x.1.bytes).length,cap2,x.2.wr⟩)],P2',by have:=HK1.out;simp;omega,by omega,by go_num,?_,?_,?_,?_,?_,fun y hy=>HSRC2.out y (List.mem_cons_of_mem _ hy)⟩
         · rw [←HFST.out];simp
         · exact (HBL.out.trans (HB2.out.mono HBL.out.size)).setCell hg _
         · rw [←set_mid P1 P2' x HK1.out]
           exact (HRW.out.keep (HB2.out.block g hg2)).set_ HRI.out (j:=1) (by decide) _
         · intro y hy
           have hsz:(w2.setCell ⟨g,k*3+1,none⟩ (.slice (some ⟨bb,0,none⟩) (byteRows x.1.bytes).length cap2)).heap.size=w2.heap.size:=by simp [World.setCell]
           have hw2:=HB2.out.size
           have hwr:=HBL.out.size
           rcases List.mem_append.1 hy with hy | hy
           · refine (HOWN.out y hy).keep2 HRW.out (by decide) (fun q hq hne=>(Below.heap_setCell _ _ _ _ hne).trans (HB2.out.block q hq)) (fun q hq hlq=>⟨hq.1,?_⟩)
             rw [hsz];omega
           · simp only [List.mem_singleton] at hy
             subst hy
             have hbbne:bb≠g:=by omega
             refine ⟨hx.key,by simp [byteRows],hx.wr,HC2.out,bb,rfl,⟨by omega,by rw [hsz];exact HR2.out.lt⟩,HR2.out.keep (Below.heap_setCell _ _ _ _ hbbne)⟩
         · exact ad_new HOWN.out HND.out hbb _ rfl
       case measure=>simp [intOf];omega
     · obtain rfl:P2=[]:=by
         have h1:=HLEN.out;have h2:=HK1.out
         cases P2 with
         | nil=>rfl
         | cons=>simp at h1;omega
       have hlen2:(P1.map (·.2)).length=n:=by have h1:=HLEN.out;simpa using h1
       have hrow2:RowsBlk wr g 72 3 ((P1.map (·.2)).map entRow):=by have h1:=HRW.out;rw [List.append_nil] at h1;rw [List.map_map];exact h1
       have HS:=Lh (SortFunc_any g cap n (P1.map (·.2)) wr hlen2 h8 hrow2)
       clear hlen2 hrow2
       go_wp2_with ((with_reducible refine (HS.out).mono ?_);rintro e w2 ⟨rfl,hch,hrow3⟩)
       go_ret
       refine ⟨_,rfl,⟨some ⟨g,0,none⟩,cap,sortBy (fun x=>x.2.key) P1,?_,?_,?_,?_,?_,?_⟩,?_⟩
       · have h1:=HLEN.out;simp at h1
         have h2:=HN.out
         rw [sortBy_length];simp [h2]
       · rw [sortBy_length];simp only [List.length_map];rw [HN.out];exact hcap
       · have h1:=HFST.out
         rw [List.append_nil] at h1
         rw [←h1,sortBy_map,sortBy_congr P1 (k:=fun x=>x.2.key) (k':=fun x=>x.1.base) (fun x hx=>(HOWN.out x hx).key)]
       · intro y hy
         exact (HOWN.out y ((sortBy_perm _ _).mem_iff.1 hy)).keep2 HRW.out (by decide) (fun q hq hne=>hch.block q hq hne) (fun q hq hlq=>⟨hq.1,by have:=hch.size;have:=hq.2;omega⟩)
       · exact ((sortBy_perm _ _).map _).nodup_iff.2 HND.out
       · intro _
         refine ⟨g,rfl,⟨hg,by have:=hrow3.lt;omega⟩,?_⟩
         have h1:sortEnts (P1.map (·.2))=(sortBy (fun x=>x.2.key) P1).map (·.2):=sortBy_map Ent.key (fun x:Reg×Ent=>x.2) P1
         rw [h1,List.map_map] at hrow3
         exact hrow3
       · exact HBL.out.trans (hch.below (fun q hq he=>by subst he;omega) HBL.out.size)
end Go.Proofs.YtocndimihokcmaaGreat
namespace Go.Proofs.YtocndimihokcmaaGreat
open Go.RowKit
set_option maxRecDepth 100000
set_option maxHeartbeats 400000 in
theorem find1_any (r:Reg) (at_:Nat) (w:World) (A:Option Addr) (c:Nat) :
   Calls Tryz.prog 182 #[regV r A c,.int .u64 at_] w fun e w'=>e=.returned (.int .i64 (if lastOf r < at_ then -1 else 1))∧Below w.heap.size w w':=by
 obtain ⟨W,hW,hbw,hsz,hnew,hold⟩:=boxed w #[.int .u64 r.base,.slice A r.bytes.length c,.bool r.write] 72
 have HW:=Lh hW
 have n0:=hnew 0
 have n1:=hnew 1
 have n2:=hnew 2
 have m0:w.heap.size < W.heap.size:=by omega
 clear hW hnew hold hsz
 unfold regV
 by_cases h:lastOf r < at_
 · have hd:decide (lastOf r < at_)=true:=by simpa using h
   rw [if_pos h]
   go_enter Tryz.func182,Tryz.ntmps182
   go_wp2_with (go_at_call 47;refine (last_any _ _ _ _).mono ?_;rintro e w1 ⟨rfl,hb1⟩)
   go_ret
   exact ⟨rfl,hbw.trans ((HW.out▸hb1).mono hbw.size)⟩
 · have hd:decide (lastOf r < at_)=false:=by simpa using h
   rw [if_neg h]
   go_enter Tryz.func182,Tryz.ntmps182
   go_wp2_with (go_at_call 47;refine (last_any _ _ _ _).mono ?_;rintro e w1 ⟨rfl,hb1⟩)
   go_ret
   exact ⟨rfl,hbw.trans ((HW.out▸hb1).mono hbw.size)⟩
set_option maxHeartbeats 800000 in
theorem BinarySearch_any (A:Option Addr) (n c:Nat) (w:World) (F:Nat→Prop) (rs:List Reg) (at_:Nat) (hl:RegsAt w F (.slice A n c) rs) (hF:∀ k,F k→k < w.heap.size) (hg:Good rs) :
   Calls Tryz.prog 181 #[.slice A n c,.int .u64 at_,.func (.func 182) #[] #[]] w fun e w' =>
     e=.returned (.tuple #[.int .i64 (findI rs at_),.bool false])∧Below w.heap.size w w':=by
 obtain ⟨hnl,hnc⟩:=hl.len
 have hn8:=hg.len
 rw [←hnl] at hn8
 have HNL:=Lh hnl
 have HL:=Lh hl
 have HF:=Lh hF
 have HG:=Lh hg
 clear hnl hl hF hg
 go_enter Tryz.func181,Tryz.ntmps181
 go_wp2
 go_loopw [9,10,11] (fun i j _ wr=>∃ p q:Nat,p≤q∧q≤n∧i=.int .i64 p∧j=.int .i64 q∧Below w.heap.size w wr∧(∀ (k:Nat) (r:Reg),k < p→rs[k]? = some r→lastOf r < at_)∧(∀ (k:Nat) (r:Reg),q≤k→rs[k]? = some r→at_≤lastOf r)) (fun i j _ _=>(intOf j).toNat - (intOf i).toNat)
 case atStart=>exact ⟨0,n,by omega,by omega,rfl,rfl,Below.refl _ _,fun k r hk=>absurd hk (by omega),fun k r hk hr=>by
   have:=HNL.out
   rw [List.getElem?_eq_none (by omega)] at hr;cases hr⟩
 case round =>
   obtain ⟨p,q,hpq,hqn,rfl,rfl,hbl,hlo,hhi⟩:=hrel
   have HLO:=Lh hlo
   have HHI:=Lh hhi
   clear hlo hhi
   by_cases hlt:p < q
   · obtain ⟨m,hm⟩:∃ m:Nat,((p:Int)+q) / 2=m:=⟨(p+q) / 2,by omega⟩
     have hpm:p≤m:=by omega
     have hmq:m < q:=by omega
     have h0:(0:Int)≤(p:Int)+q:=by omega
     have h1:(p:Int)+q≤16:=by omega
     have h2:(0:Int)≤(m:Int):=by omega
     have h3:(m:Int) < (n:Int):=by omega
     obtain ⟨r,hr⟩:∃ r,rs[m]? = some r:=⟨_,List.getElem?_eq_getElem (by have:=HNL.out;omega)⟩
     obtain ⟨b,off,A',c',rfl,hFb,h0,h1,h2,hby,hb64,hlen⟩:=HL.out.at_ hr
     have hb:=HF.out b hFb
     have g0:=(hbl.cell (p:=⟨b,off+m*3,none⟩) hb).trans h0
     have g1:=(hbl.cell (p:=⟨b,off+m*3+1,none⟩) hb).trans h1
     have g2:=(hbl.cell (p:=⟨b,off+m*3+2,none⟩) hb).trans h2
     have HR:=Lh hr
     have HC:=Lh (find1_any r at_ wr A' c')
     clear h0 h1 h2 hby hr
     unfold regV at HC
     by_cases hc:lastOf r < at_
     · rw [if_pos hc] at HC
       have HCC:=Lh hc
       clear hc
       go_wp2_with ((with_reducible refine (HC.out).mono ?_);rintro e w1 ⟨rfl,hb1⟩)
       go_roundw
       case rel=>exact ⟨m+1,q,by omega,by omega,by go_num,rfl,hbl.trans (hb1.mono hbl.size),fun k r' hk hr'=>Nat.lt_of_le_of_lt (last_mono HG.out hr' HR.out (by omega)) HCC.out,HHI.out⟩
       case measure=>simp [intOf];omega
     · rw [if_neg hc] at HC
       have HCC:=Lh hc
       clear hc
       go_wp2_with ((with_reducible refine (HC.out).mono ?_);rintro e w1 ⟨rfl,hb1⟩)
       go_roundw
       case rel=>exact ⟨p,m,by omega,by omega,rfl,rfl,hbl.trans (hb1.mono hbl.size),HLO.out,fun k r' hk hr'=>Nat.le_trans (Nat.not_lt.1 HCC.out) (last_mono HG.out HR.out hr' hk)⟩
       case measure=>simp [intOf];omega
   · obtain rfl:p=q:=by omega
     have hfi:findI rs at_=p:=findI_eq (by have:=HNL.out;omega) HLO.out (fun r hr=>HHI.out p r (Nat.le_refl _) hr)
     have HFI:=Lh hfi
     clear hfi
     by_cases hpn:p < n
     · obtain ⟨r,hr⟩:∃ r,rs[p]? = some r:=⟨_,List.getElem?_eq_getElem (by have:=HNL.out;omega)⟩
       have hge:=HHI.out p r (Nat.le_refl _) hr
       obtain ⟨b,off,A',c',rfl,hFb,h0,h1,h2,hby,hb64,hlen⟩:=HL.out.at_ hr
       have hb:=HF.out b hFb
       have g0:=(hbl.cell (p:=⟨b,off+p*3,none⟩) hb).trans h0
       have g1:=(hbl.cell (p:=⟨b,off+p*3+1,none⟩) hb).trans h1
       have g2:=(hbl.cell (p:=⟨b,off+p*3+2,none⟩) hb).trans h2
       have hc:=fun w=>find1_any r at_ w A' c'
       unfold regV at hc
       rw [if_neg (by omega)] at hc
       have HC:=Lh hc
       have hd:decide (p < n)=true:=by simpa using hpn
       have i1:(p:Int) < (n:Int):=by omega
       have i0:(0:Int)≤(p:Int):=by omega
       have e1:((1:Int) == 0)=false:=rfl
       clear h0 h1 h2 hby hr hge hc
       go_wp2_with ((with_reducible refine (HC.out _).mono ?_);rintro e w1 ⟨rfl,hb1⟩)
       go_ret2
       exact ⟨(by rw [HFI.out];rfl),hbl.trans (hb1.mono hbl.size)⟩
     · have hd:decide (p < n)=false:=by simpa using hpn
       have hdi:((p:Int) < (n:Int))=False:=by simp;omega
       go_wp2
       go_ret2
       exact ⟨(by rw [HFI.out];rfl),hbl⟩
def MemAt (w:World) (F:Nat→Prop) (p:Value) (rs:List Reg):Prop :=
 ∃ bm v,p=.pointer (some ⟨bm,0,none⟩)∧F bm∧w.heap[bm]? = some (.cells #[v] 76 (0,0))∧RegsOwn w F v rs∧Good rs
theorem MemAt.keep {w w':World} {F:Nat→Prop} {p:Value} {rs:List Reg} (h:MemAt w F p rs) (hk:SameOn F w w'):MemAt w' F p rs:=by
 obtain ⟨bm,v,h1,h2,h3,h4,h5⟩:=h
 exact ⟨bm,v,h1,h2,(hk bm h2).trans h3,h4.keep hk,h5⟩
theorem lt_of_block {w:World} {g:Nat} {o:Obj} (h:w.heap[g]? = some o):g < w.heap.size:=by
 rcases Nat.lt_or_ge g w.heap.size with h' | h'
 · exact h'
 · rw [Array.getElem?_eq_none h'] at h;cases h
theorem RegsOwn.ent {w:World} {F:Nat→Prop} {A:Option Addr} {n c i:Nat} {l:List Reg} {r:Reg} (h:RegsOwn w F (.slice A n c) l) (hr:l[i]? = some r) :
   ∃ g bb cc,A=some ⟨g,0,none⟩∧F g∧F bb∧g < w.heap.size∧bb < w.heap.size∧w.cell? ⟨g,i*3,none⟩=some (.int .u64 r.base)∧w.cell? ⟨g,i*3+1,none⟩=some (.slice (some ⟨bb,0,none⟩) r.bytes.length cc) ∧
     w.cell? ⟨g,i*3+2,none⟩=some (.bool r.write)∧r.bytes.length≤cc∧RowsBlk w bb 5 1 (byteRows r.bytes):=by
 obtain ⟨A',c',P,hv,hlc,hfst,hent,hnd,hblk⟩:=h
 cases hv
 obtain ⟨g,hA,hFg,hrow⟩:=hblk (fun e=>by rw [e] at hr;cases hr)
 rw [←hfst,List.getElem?_map] at hr
 cases hpk:P[i]? with
 | none=>rw [hpk] at hr;cases hr
 | some x =>
   rw [hpk] at hr
   cases hr
   have hx:=hent x (List.mem_of_getElem? hpk)
   obtain ⟨bb,hb1,hb2,hb3⟩:=hx.blk
   have hri:(P.map fun x=>entRow x.2)[i]? = some (entRow x.2):=by rw [List.getElem?_map,hpk];rfl
   have c0:=hrow.cell hri (j:=0) (by rfl)
   have c1:=hrow.cell hri (j:=1) (by rfl)
   have c2:=hrow.cell hri (j:=2) (by rfl)
   rw [hx.key] at c0
   rw [hb1,hx.n] at c1
   rw [hx.wr] at c2
   have hcap:=hx.cap
   rw [hx.n] at hcap
   exact ⟨g,bb,x.2.c,hA,hFg,hb2,hrow.lt,hb3.lt,c0,c1,c2,hcap,hb3⟩
def EntryAt (w:World) (p:Value) (i bb n c:Nat):Prop :=
 ∃ bm g m c',p=.pointer (some ⟨bm,0,none⟩)∧w.cell? ⟨bm,0,none⟩=some (.slice (some ⟨g,0,none⟩) m c')∧w.cell? ⟨g,i*3+1,none⟩=some (.slice (some ⟨bb,0,none⟩) n c)
def FindOut (w:World) (F:Nat→Prop) (p:Value) (rs:List Reg) (at_ n:Nat) (v:Value):Prop :=
 (placeF rs at_ n=none∧v=.tuple #[.slice none 0 0,.bool false]) ∨
 (∃ i k r bb c,placeF rs at_ n=some (i,k)∧rs[i]? = some r∧F bb∧k+n≤r.bytes.length∧k < r.bytes.length∧r.bytes.length≤c∧RowsBlk w bb 5 1 (byteRows r.bytes)∧EntryAt w p i bb r.bytes.length c∧v=.tuple #[.slice (some ⟨bb,k,none⟩) n (c - k),.bool r.write])
set_option maxHeartbeats 800000 in
theorem find_any (p:Value) (w:World) (F:Nat→Prop) (rs:List Reg) (at_ n:Nat) (hn:n≤9223372036854775807) (hat:at_ < 18446744073709551616) (hm:MemAt w F p rs) (hF:∀ k,F k→k < w.heap.size) :
   Calls Tryz.prog 180 #[p,.int .u64 at_,.int .i64 n] w fun e w'=>∃ v,e=.returned v∧FindOut w' F p rs at_ n v∧Below w.heap.size w w':=by
 obtain ⟨bm,v,rfl,hbm,hblk,hown,hgood⟩:=hm
 have hat2:=hown.at_ hgood.base
 obtain ⟨A,c,rfl,hlc⟩:=hat2.form
 have hcell:w.cell? ⟨bm,0,none⟩=some (.slice A rs.length c):=by simp [World.cell?,hblk]
 have hbl:=lt_of_block hblk
 have HB:=Lh (BinarySearch_any A rs.length c w F rs at_ hat2 hF hgood)
 have HAT:=Lh hat2
 have HOWN:=Lh hown
 have HG:=Lh hgood
 have HF:=Lh hF
 have h8:=hgood.len
 clear hat2 hown hgood hblk hF
 generalize hrl:rs.length=nr at *
 have HRL:=Lh hrl
 clear hrl
 generalize hfi:findI rs at_=i at *
 have HFI:=Lh hfi
 clear hfi
 rcases hri:rs[i]? with _ | r
 · have hi:i=nr:=by
     have h1:=HRL.out
     have h2:findI rs at_≤rs.length:=List.findIdx_le_length
     rw [HFI.out] at h2
     rcases Nat.lt_or_ge i rs.length with h | h
     · rw [List.getElem?_eq_getElem h] at hri;cases hri
     · omega
   subst hi
   have hp:placeF rs at_ n=none:=by simp only [placeF,HFI.out,hri]
   have HP:=Lh hp
   clear hp hri
   go_enter Tryz.func180,Tryz.ntmps180
   go_wp2_with ((with_reducible refine (HB.out).mono ?_);rintro e w1 ⟨rfl,hb1⟩;have hcell1:=(hb1.cell (p:=⟨bm,0,none⟩) hbl).trans hcell)
   go_ret2
   exact ⟨_,rfl,.inl ⟨HP.out,rfl⟩,hb1⟩
 · obtain ⟨g,bb,cc,rfl,hFg,hFb,hgl,hbbl,c0,c1,c2,hcap,hrow⟩:=HOWN.out.ent hri
   have hir:i < nr:=by have:=HRL.out;have:=(List.getElem?_eq_some_iff.1 hri).1;omega
   have i0:(0:Int)≤(i:Int):=by omega
   have i1:(i:Int) < (nr:Int):=by omega
   have ib:((i:Int) ==(nr:Int))=false:=by rw [beq_eq_false_iff_ne];omega
   have ib2:(i == nr)=false:=by rw [beq_eq_false_iff_ne];omega
   have HROW:=Lh hrow
   have HRI:=Lh hri
   clear hrow hri
   by_cases hlo:at_ < r.base
   · have hp:placeF rs at_ n=none:=by simp only [placeF,HFI.out,HRI.out,if_pos hlo]
     have HP:=Lh hp
     have hd:decide (at_ < r.base)=true:=by simpa using hlo
     clear hp hlo
     go_enter Tryz.func180,Tryz.ntmps180
     go_wp2_with ((with_reducible refine (HB.out).mono ?_);rintro e w1 ⟨rfl,hb1⟩;have hcell1:=(hb1.cell (p:=⟨bm,0,none⟩) hbl).trans hcell;have d0:=(hb1.cell (p:=⟨g,i*3,none⟩) hgl).trans c0)
     go_ret2
     exact ⟨_,rfl,.inl ⟨HP.out,rfl⟩,hb1⟩
   · have hd:decide (at_ < r.base)=false:=by simpa using hlo
     obtain ⟨k,hk⟩:∃ k,at_=r.base+k:=⟨at_ - r.base,by omega⟩
     have hgl2:=HG.out.last r (List.mem_of_getElem? HRI.out)
     have hend:=HG.out.end_ r (List.mem_of_getElem? HRI.out)
     have hpos:=HG.out.pos r (List.mem_of_getElem? HRI.out)
     have hbig:=(HG.out.bytes r (List.mem_of_getElem? HRI.out)).2
     have hle:at_≤lastOf r:=by
       have h1:=HRI.out
       rw [←HFI.out] at h1
       exact findI_le h1
     have hkl:k < r.bytes.length:=by omega
     obtain ⟨d,hdd⟩:∃ d,r.bytes.length=k+d:=⟨r.bytes.length - k,by omega⟩
     have hsub:(at_:Int) - (r.base:Int)=(k:Int):=by omega
     have hsub2:((r.bytes.length:Nat):Int) - (k:Int)=(d:Int):=by omega
     have wk:IntKind.u64.wrap (k:Int)=(k:Int):=by rw [wrapU];omega
     have wd:IntKind.u64.wrap (d:Int)=(d:Int):=by rw [wrapU];omega
     have wn:IntKind.u64.wrap (n:Int)=(n:Int):=by rw [wrapU];omega
     have wl:IntKind.u64.wrap (r.bytes.length:Int)=(r.bytes.length:Int):=by rw [wrapU];omega
     have HK:=Lh hk
     have HDD:=Lh hdd
     have HKL:=Lh hkl
     have HCAP:=Lh hcap
     have HLO:=Lh hlo
     clear hk hdd hgl2 hend hpos hle hlo hkl hcap
     by_cases hnd:d < n
     · have hp:placeF rs at_ n=none:=by
         have h1:=HK.out;have h2:=HDD.out
         simp only [placeF,HFI.out,HRI.out]
         rw [if_neg HLO.out,if_pos (by omega)]
       have HP:=Lh hp
       have hd2:decide (d < n)=true:=by simpa using hnd
       clear hp hnd
       go_enter Tryz.func180,Tryz.ntmps180
       go_wp2_with ((with_reducible refine (HB.out).mono ?_);rintro e w1 ⟨rfl,hb1⟩;have hcell1:=(hb1.cell (p:=⟨bm,0,none⟩) hbl).trans hcell;have d0:=(hb1.cell (p:=⟨g,i*3,none⟩) hgl).trans c0;have d1:=(hb1.cell (p:=⟨g,i*3+1,none⟩) hgl).trans c1;have d2:=(hb1.cell (p:=⟨g,i*3+2,none⟩) hgl).trans c2;have hgl1:g < w1.heap.size:=Nat.lt_of_lt_of_le hgl hb1.size)
       go_ret2
       exact ⟨_,rfl,.inl ⟨HP.out,rfl⟩,hb1.trans ((Below.refl _ _).alloc hb1.size _)⟩
     · have hp:placeF rs at_ n=some (i,k):=by
         have h1:=HK.out;have h2:=HDD.out
         simp only [placeF,HFI.out,HRI.out]
         rw [if_neg HLO.out,if_neg (by omega)]
         simp;omega
       have HP:=Lh hp
       have hd2:decide (d < n)=false:=by simpa using hnd
       have wkn:IntKind.u64.wrap ((k:Int)+(n:Int))=(k:Int)+(n:Int):=by have:=HDD.out;rw [wrapU];omega
       have j0:(0:Int)≤(k:Int):=by omega
       have j1:(k:Int)≤(k:Int)+(n:Int):=by omega
       have j2:(k:Int)+(n:Int)≤(cc:Int):=by have:=HDD.out;have:=HCAP.out;omega
       have j3:((k:Int)+(n:Int)).toNat=k+n:=by omega
       have j4:(cc=k)=False:=by have:=HKL.out;have:=HCAP.out;simp;omega
       clear hp hnd
       go_enter Tryz.func180,Tryz.ntmps180
       go_wp2_with ((with_reducible refine (HB.out).mono ?_);rintro e w1 ⟨rfl,hb1⟩;have hcell1:=(hb1.cell (p:=⟨bm,0,none⟩) hbl).trans hcell;have d0:=(hb1.cell (p:=⟨g,i*3,none⟩) hgl).trans c0;have d1:=(hb1.cell (p:=⟨g,i*3+1,none⟩) hgl).trans c1;have d2:=(hb1.cell (p:=⟨g,i*3+2,none⟩) hgl).trans c2;have hgl1:g < w1.heap.size:=Nat.lt_of_lt_of_le hgl hb1.size)
       obtain ⟨W,hW,hbw,hsz,hnew,hold⟩:=boxed w1 #[.int .u64 r.base,.slice (some ⟨bb,0,none⟩) r.bytes.length cc,.bool r.write] 72
       have n0:=hnew 0
       have n1:=hnew 1
       have n2:=hnew 2
       have m0:w1.heap.size < W.heap.size:=by omega
       rw [←hW]
       have HW:=Lh hW
       clear hW hnew hold hsz
       (refine wp_region_lines (Below W.heap.size W) (by kernel_rfl) (by kernel_rfl) (Below.refl _ _).drew ?_)
       have hS:=(Below.refl W.heap.size W).drew
       (try simp only [])
       repeat (first | (refine runL_no (by rfl) ?_;(try simp only [Act.put,List.setIfInBounds_toArray,List.set_cons_zero,List.set_cons_succ])) | (refine runL_val (v:=?_) (by rfl) ?_ ?_;rotate_left;(focus (intro w_ hw_;have hc_:=bcell hw_;go_simp;(try with_reducible rfl);done));(try simp only [Act.put,List.setIfInBounds_toArray,List.set_cons_zero,List.set_cons_succ])))
       (refine runL_nil ?_)
       go_wp2
       go_ret2
       have hall:=(hb1.trans (hbw.mono hb1.size)).trans (hS.mono (Nat.le_trans hb1.size hbw.size))
       exact ⟨_,rfl,.inr ⟨i,k,r,bb,cc,HP.out,HRI.out,hFb,by have:=HDD.out;have:=of_decide_eq_false hd2;omega,HKL.out,HCAP.out,HROW.out.keep (hall.block bb hbbl),⟨bm,g,nr,c,rfl,(hall.cell (p:=⟨bm,0,none⟩) hbl).trans hcell,(hall.cell (p:=⟨g,i*3+1,none⟩) hgl).trans c1⟩,rfl⟩,hall⟩
end Go.Proofs.YtocndimihokcmaaGreat
namespace Go.Proofs.YtocndimihokcmaaGreat
open Go.RowKit
set_option maxRecDepth 100000
def wordOf (l:List UInt8):Nat:=l.foldr (fun b acc=>b.toNat+256*acc) 0
theorem wordOf_snoc (l:List UInt8) (x:UInt8):wordOf (l++[x])=wordOf l+x.toNat*2 ^ (8*l.length):=by
 induction l with
 | nil=>simp [wordOf]
 | cons b l ih =>
   have h1:wordOf (b :: (l++[x]))=b.toNat+256*wordOf (l++[x]):=rfl
   have h2:wordOf (b :: l)=b.toNat+256*wordOf l:=rfl
   rw [List.cons_append,h1,ih,h2,List.length_cons,show 8*(l.length+1)=8+8*l.length from by omega,Nat.pow_add]
   simp only [Nat.mul_add,show (2:Nat) ^ 8=256 from rfl]
   rw [←Nat.mul_assoc,←Nat.mul_assoc,Nat.mul_comm 256 x.toNat]
   omega
theorem wordOf_lt (l:List UInt8):wordOf l < 2 ^ (8*l.length):=by
 induction l with
 | nil=>simp [wordOf]
 | cons b l ih =>
   have h2:wordOf (b :: l)=b.toNat+256*wordOf l:=rfl
   rw [h2,List.length_cons,show 8*(l.length+1)=8+8*l.length from by omega,Nat.pow_add,show (2:Nat) ^ 8=256 from rfl]
   have:=b.toNat_lt
   omega
theorem word_step (l:List UInt8) (q:Nat) (x:UInt8) (h:l[q]? = some x):wordOf (l.take (q+1))=wordOf (l.take q)+x.toNat*2 ^ (8*q):=by
 obtain ⟨hq,rfl⟩:=List.getElem?_eq_some_iff.1 h
 rw [List.take_succ_eq_append_getElem hq,wordOf_snoc,List.length_take,Nat.min_eq_left (by omega)]
theorem word_lt (l:List UInt8) (q:Nat) (h:q≤l.length):wordOf (l.take q) < 2 ^ (8*q):=by
 have:=wordOf_lt (l.take q)
 rwa [List.length_take,Nat.min_eq_left h] at this
theorem or_step {V x m:Nat} (n:Nat) (hm:m=2 ^ n) (hV:V < 2 ^ n) (hx:x < 256) (h64:m≤72057594037927936) :
   Go.bits .or .u64 (V:Int) (IntKind.u64.wrap (IntKind.u64.wrap (x:Int)*(m:Int)))=((V+x*m:Nat):Int):=by
 have h1:x*m≤255*72057594037927936:=Nat.mul_le_mul (by omega) h64
 have e1:IntKind.u64.wrap (x:Int)=x:=by rw [wrapU];omega
 have e2:IntKind.u64.wrap ((x:Int)*(m:Int))=((x*m:Nat):Int):=by rw [wrapU,Int.natCast_mul,←Int.natCast_mul];omega
 rw [e1,e2,bits_or_u64_nat _ _ (by omega) (by omega),Nat.or_comm,hm,Nat.mul_comm x,←Nat.two_pow_add_eq_or_of_lt hV,Nat.add_comm]
theorem list8 (L:List UInt8) (h:L.length=8):∃ x0 x1 x2 x3 x4 x5 x6 x7,L=[x0,x1,x2,x3,x4,x5,x6,x7]:=by
 match L,h with
 | [x0,x1,x2,x3,x4,x5,x6,x7],_=>exact ⟨x0,x1,x2,x3,x4,x5,x6,x7,rfl⟩
theorem isNilFalse (w:World) (a:Addr) (n c:Nat):(binOp .eql 70 (.slice (some a) n c) (.slice none 0 0)).run Tryz.prog w=.ok (.bool false) w:=Lib.run_eql_slice_nil w 70 5 (some a) n c 0 0 Tryz.underlying70
theorem isNilTrue (w:World):(binOp .eql 70 (.slice none 0 0) (.slice none 0 0)).run Tryz.prog w=.ok (.bool true) w:=Lib.run_eql_slice_nil w 70 5 none 0 0 0 0 Tryz.underlying70
theorem toArray8 (w:World) (a:Addr) (c:Nat):(Instr.arrayAt 223 (.slice (some a) 8 c)).run Tryz.prog w=.ok (.pointer (some a)) w:=by
 simp [Instr.arrayAt,run_underlying Tryz.underlying223]
theorem idx8_0 (w:World) (x0 x1 x2 x3 x4 x5 x6 x7:UInt8):(Instr.index 223 (.agg #[.int .u8 x0.toNat,.int .u8 x1.toNat,.int .u8 x2.toNat,.int .u8 x3.toNat,.int .u8 x4.toNat,.int .u8 x5.toNat,.int .u8 x6.toNat,.int .u8 x7.toNat]) (.int .i64 0)).run Tryz.prog w=.ok (.int .u8 x0.toNat) w:=by kernel_rfl
theorem idx8_1 (w:World) (x0 x1 x2 x3 x4 x5 x6 x7:UInt8):(Instr.index 223 (.agg #[.int .u8 x0.toNat,.int .u8 x1.toNat,.int .u8 x2.toNat,.int .u8 x3.toNat,.int .u8 x4.toNat,.int .u8 x5.toNat,.int .u8 x6.toNat,.int .u8 x7.toNat]) (.int .i64 1)).run Tryz.prog w=.ok (.int .u8 x1.toNat) w:=by kernel_rfl
theorem idx8_2 (w:World) (x0 x1 x2 x3 x4 x5 x6 x7:UInt8):(Instr.index 223 (.agg #[.int .u8 x0.toNat,.int .u8 x1.toNat,.int .u8 x2.toNat,.int .u8 x3.toNat,.int .u8 x4.toNat,.int .u8 x5.toNat,.int .u8 x6.toNat,.int .u8 x7.toNat]) (.int .i64 2)).run Tryz.prog w=.ok (.int .u8 x2.toNat) w:=by kernel_rfl
theorem idx8_3 (w:World) (x0 x1 x2 x3 x4 x5 x6 x7:UInt8):(Instr.index 223 (.agg #[.int .u8 x0.toNat,.int .u8 x1.toNat,.int .u8 x2.toNat,.int .u8 x3.toNat,.int .u8 x4.toNat,.int .u8 x5.toNat,.int .u8 x6.toNat,.int .u8 x7.toNat]) (.int .i64 3)).run Tryz.prog w=.ok (.int .u8 x3.toNat) w:=by kernel_rfl
theorem idx8_4 (w:World) (x0 x1 x2 x3 x4 x5 x6 x7:UInt8):(Instr.index 223 (.agg #[.int .u8 x0.toNat,.int .u8 x1.toNat,.int .u8 x2.toNat,.int .u8 x3.toNat,.int .u8 x4.toNat,.int .u8 x5.toNat,.int .u8 x6.toNat,.int .u8 x7.toNat]) (.int .i64 4)).run Tryz.prog w=.ok (.int .u8 x4.toNat) w:=by kernel_rfl
theorem idx8_5 (w:World) (x0 x1 x2 x3 x4 x5 x6 x7:UInt8):(Instr.index 223 (.agg #[.int .u8 x0.toNat,.int .u8 x1.toNat,.int .u8 x2.toNat,.int .u8 x3.toNat,.int .u8 x4.toNat,.int .u8 x5.toNat,.int .u8 x6.toNat,.int .u8 x7.toNat]) (.int .i64 5)).run Tryz.prog w=.ok (.int .u8 x5.toNat) w:=by kernel_rfl
theorem idx8_6 (w:World) (x0 x1 x2 x3 x4 x5 x6 x7:UInt8):(Instr.index 223 (.agg #[.int .u8 x0.toNat,.int .u8 x1.toNat,.int .u8 x2.toNat,.int .u8 x3.toNat,.int .u8 x4.toNat,.int .u8 x5.toNat,.int .u8 x6.toNat,.int .u8 x7.toNat]) (.int .i64 6)).run Tryz.prog w=.ok (.int .u8 x6.toNat) w:=by kernel_rfl
theorem idx8_7 (w:World) (x0 x1 x2 x3 x4 x5 x6 x7:UInt8):(Instr.index 223 (.agg #[.int .u8 x0.toNat,.int .u8 x1.toNat,.int .u8 x2.toNat,.int .u8 x3.toNat,.int .u8 x4.toNat,.int .u8 x5.toNat,.int .u8 x6.toNat,.int .u8 x7.toNat]) (.int .i64 7)).run Tryz.prog w=.ok (.int .u8 x7.toNat) w:=by kernel_rfl
def loadF (rs:List Reg) (at_:Nat):Option Nat:=match placeF rs at_ 8 with
 | none=>none
 | some (i,k)=>match rs[i]? with
   | none=>none
   | some r=>some (wordOf ((r.bytes.drop k).take 8))
def loadOut:Option Nat→Value
 | none=>.tuple #[.int .u64 0,.int .i64 11]
 | some v=>.tuple #[.int .u64 v,.int .i64 0]
set_option maxHeartbeats 800000 in
theorem Load_any (p:Value) (w:World) (F:Nat→Prop) (rs:List Reg) (at_:Nat) (hat:at_ < 18446744073709551616) (hm:MemAt w F p rs) (hF:∀ k,F k→k < w.heap.size) :
   Calls Tryz.prog 168 #[p,.int .u64 at_] w fun e w'=>e=.returned (loadOut (loadF rs at_))∧Below w.heap.size w w':=by
 obtain ⟨bm,hp⟩:∃ bm,p=.pointer (some ⟨bm,0,none⟩):=by obtain ⟨bm,v,h,_⟩:=hm;exact ⟨bm,h⟩
 subst hp
 have HF:=Lh (find_any _ w F rs at_ 8 (by omega) hat hm hF)
 have hnt:=isNilTrue
 have hnf:=isNilFalse
 have h8:=toArray8
 clear hm hF
 go_enter Tryz.func168,Tryz.ntmps168
 go_wp2_with fail
 refine HF.out.mono ?_
 rintro e w1 ⟨v,rfl,hfo,hb1⟩
 rcases hfo with ⟨hpl,rfl⟩ | ⟨i,k,r,bb,c,hpl,hri,hFb,hkn,hkl,hrc,hrow,_,rfl⟩
 · have hl:loadF rs at_=none:=by simp only [loadF,hpl]
   have HL:=Lh hl
   clear hl hpl
   go_wp2
   go_ret2
   exact ⟨by rw [HL.out];rfl,hb1⟩
 · obtain ⟨x0,x1,x2,x3,x4,x5,x6,x7,hL⟩:=list8 ((r.bytes.drop k).take 8) (by simp;omega)
   have cells:∀ (j:Nat) (x:UInt8),[x0,x1,x2,x3,x4,x5,x6,x7][j]? = some x→w1.cell? ⟨bb,k+j,none⟩=some (byteV x):=fun j x hx=>by
     rw [←hL,List.getElem?_take] at hx
     split at hx
     · rw [List.getElem?_drop] at hx
       have h1:(byteRows r.bytes)[k+j]? = some [byteV x]:=by rw [byteRows,List.getElem?_map,hx];rfl
       have h2:=hrow.cell h1 (j:=0) (by rfl)
       simpa using h2
     · cases hx
   have c0:=cells 0 x0 rfl
   have c1:=cells 1 x1 rfl
   have c2:=cells 2 x2 rfl
   have c3:=cells 3 x3 rfl
   have c4:=cells 4 x4 rfl
   have c5:=cells 5 x5 rfl
   have c6:=cells 6 x6 rfl
   have c7:=cells 7 x7 rfl
   simp only [byteV,Nat.add_zero] at c0 c1 c2 c3 c4 c5 c6 c7
   have hl:loadF rs at_=some (wordOf [x0,x1,x2,x3,x4,x5,x6,x7]):=by simp only [loadF,hpl,hri,hL]
   have HL:=Lh hl
   clear cells hpl hri hrow hL hl
   go_wp2
   go_loop [8,24] (fun v i=>∃ (q V:Nat) (z:Int),z=q∧q≤8∧i=.int .i64 z∧v=.int .u64 V∧V=wordOf ([x0,x1,x2,x3,x4,x5,x6,x7].take q)) (fun _ i=>8 - (intOf i).toNat)
   case atStart=>exact ⟨0,0,0,rfl,by omega,rfl,rfl,rfl⟩
   case round =>
     obtain ⟨q,V,z,hz,hq,rfl,rfl,hV⟩:=hrel
     have HV:=Lh hV
     clear hV
     rcases (by omega:z=0∨z=1∨z=2∨z=3∨z=4∨z=5∨z=6∨z=7∨z=8) with rfl | rfl | rfl | rfl | rfl | rfl | rfl | rfl | rfl
     · obtain rfl:q=0:=by omega
       clear hz hq
       have hi:=fun w=>idx8_0 w x0 x1 x2 x3 x4 x5 x6 x7
       go_wp2
       go_round
       case rel=>exact ⟨1,V+x0.toNat*1,1,rfl,by omega,rfl,congrArg _ (by have h:=(or_step (V:=V) (x:=x0.toNat) (m:=1) 0 rfl (by rw [HV.out];exact word_lt _ 0 (by simp)) x0.toNat_lt (by decide));simpa using h),by rw [HV.out];exact (word_step _ 0 x0 rfl).symm⟩
       case measure=>simp [intOf]
     · obtain rfl:q=1:=by omega
       clear hz hq
       have hi:=fun w=>idx8_1 w x0 x1 x2 x3 x4 x5 x6 x7
       go_wp2
       go_round
       case rel=>exact ⟨2,V+x1.toNat*256,2,rfl,by omega,rfl,congrArg _ (by have h:=(or_step (V:=V) (x:=x1.toNat) (m:=256) 8 rfl (by rw [HV.out];exact word_lt _ 1 (by simp)) x1.toNat_lt (by decide));simpa using h),by rw [HV.out];exact (word_step _ 1 x1 rfl).symm⟩
       case measure=>simp [intOf]
     · obtain rfl:q=2:=by omega
       clear hz hq
       have hi:=fun w=>idx8_2 w x0 x1 x2 x3 x4 x5 x6 x7
       go_wp2
       go_round
       case rel=>exact ⟨3,V+x2.toNat*65536,3,rfl,by omega,rfl,congrArg _ (by have h:=(or_step (V:=V) (x:=x2.toNat) (m:=65536) 16 rfl (by rw [HV.out];exact word_lt _ 2 (by simp)) x2.toNat_lt (by decide));simpa using h),by rw [HV.out];exact (word_step _ 2 x2 rfl).symm⟩
       case measure=>simp [intOf]
     · obtain rfl:q=3:=by omega
       clear hz hq
       have hi:=fun w=>idx8_3 w x0 x1 x2 x3 x4 x5 x6 x7
       go_wp2
       go_round
       case rel=>exact ⟨4,V+x3.toNat*16777216,4,rfl,by omega,rfl,congrArg _ (by have h:=(or_step (V:=V) (x:=x3.toNat) (m:=16777216) 24 rfl (by rw [HV.out];exact word_lt _ 3 (by simp)) x3.toNat_lt (by decide));simpa using h),by rw [HV.out];exact (word_step _ 3 x3 rfl).symm⟩
       case measure=>simp [intOf]
     · obtain rfl:q=4:=by omega
       clear hz hq
       have hi:=fun w=>idx8_4 w x0 x1 x2 x3 x4 x5 x6 x7
       go_wp2
       go_round
       case rel=>exact ⟨5,V+x4.toNat*4294967296,5,rfl,by omega,rfl,congrArg _ (by have h:=(or_step (V:=V) (x:=x4.toNat) (m:=4294967296) 32 rfl (by rw [HV.out];exact word_lt _ 4 (by simp)) x4.toNat_lt (by decide));simpa using h),by rw [HV.out];exact (word_step _ 4 x4 rfl).symm⟩
       case measure=>simp [intOf]
     · obtain rfl:q=5:=by omega
       clear hz hq
       have hi:=fun w=>idx8_5 w x0 x1 x2 x3 x4 x5 x6 x7
       go_wp2
       go_round
       case rel=>exact ⟨6,V+x5.toNat*1099511627776,6,rfl,by omega,rfl,congrArg _ (by have h:=(or_step (V:=V) (x:=x5.toNat) (m:=1099511627776) 40 rfl (by rw [HV.out];exact word_lt _ 5 (by simp)) x5.toNat_lt (by decide));simpa using h),by rw [HV.out];exact (word_step _ 5 x5 rfl).symm⟩
       case measure=>simp [intOf]
     · obtain rfl:q=6:=by omega
       clear hz hq
       have hi:=fun w=>idx8_6 w x0 x1 x2 x3 x4 x5 x6 x7
       go_wp2
       go_round
       case rel=>exact ⟨7,V+x6.toNat*281474976710656,7,rfl,by omega,rfl,congrArg _ (by have h:=(or_step (V:=V) (x:=x6.toNat) (m:=281474976710656) 48 rfl (by rw [HV.out];exact word_lt _ 6 (by simp)) x6.toNat_lt (by decide));simpa using h),by rw [HV.out];exact (word_step _ 6 x6 rfl).symm⟩
       case measure=>simp [intOf]
     · obtain rfl:q=7:=by omega
       clear hz hq
       have hi:=fun w=>idx8_7 w x0 x1 x2 x3 x4 x5 x6 x7
       go_wp2
       go_round
       case rel=>exact ⟨8,V+x7.toNat*72057594037927936,8,rfl,by omega,rfl,congrArg _ (by have h:=(or_step (V:=V) (x:=x7.toNat) (m:=72057594037927936) 56 rfl (by rw [HV.out];exact word_lt _ 7 (by simp)) x7.toNat_lt (by decide));simpa using h),by rw [HV.out];exact (word_step _ 7 x7 rfl).symm⟩
       case measure=>simp [intOf]
     · obtain rfl:q=8:=by omega
       clear hz hq
       go_wp2
       go_ret2
       exact ⟨by rw [HL.out,HV.out];rfl,hb1⟩
end Go.Proofs.YtocndimihokcmaaGreat
namespace Go.Proofs.YtocndimihokcmaaGreat
open Go.RowKit
set_option maxRecDepth 100000
def byteAt (v j:Nat):UInt8:=UInt8.ofNat (v / 2 ^ (8*j) % 256)
def putTo (l:List UInt8) (k v:Nat):Nat→List UInt8
 | 0=>l
 | n+1=>(putTo l k v n).set (k+n) (byteAt v n)
theorem putTo_length (l:List UInt8) (k v n:Nat):(putTo l k v n).length=l.length:=by
 induction n with
 | zero=>rfl
 | succ n ih=>simp [putTo,ih]
theorem byteRows_set (l:List UInt8) (i:Nat) (x:UInt8):byteRows (l.set i x)=(byteRows l).set i [byteV x]:=by
 simp [byteRows,List.map_set]
def storeF (rs:List Reg) (at_ v:Nat):Option (List Reg):=match placeF rs at_ 8 with
 | none=>none
 | some (i,k)=>match rs[i]? with
   | none=>none
   | some r=>if r.write=true then some (rs.set i { r with bytes:=putTo r.bytes k v 8 }) else none
theorem byteAt_int (v j m:Nat) (hm:m=2 ^ (8*j)):((byteAt v j).toNat:Int)=(v:Int) / (m:Int) % 256:=by
 rw [byteAt,←hm]
 simp only [UInt8.toNat_ofNat']
 omega
theorem byteRows_at {l:List UInt8} {i:Nat} (h:i < l.length):∃ x,(byteRows l)[i]? = some [byteV x] :=
 ⟨l[i],by rw [byteRows,List.getElem?_map,List.getElem?_eq_getElem h];rfl⟩
theorem put_cell {w:World} {bb k v q:Nat} {l:List UInt8} (h:RowsBlk w bb 5 1 (byteRows (putTo l k v q))) (hk:k+q < l.length):∃ u,w.cell? ⟨bb,k+q,none⟩=some u:=by
 obtain ⟨x,hx⟩:=byteRows_at (l:=putTo l k v q) (i:=k+q) (by rw [putTo_length];exact hk)
 exact ⟨_,by have:=h.cell hx (j:=0) (by rfl);simpa using this⟩
theorem put_step {w:World} {bb k v q:Nat} {l:List UInt8} (h:RowsBlk w bb 5 1 (byteRows (putTo l k v q))) (hk:k+q < l.length) {u:Value} (hu:u=byteV (byteAt v q)) :
   RowsBlk (w.setCell ⟨bb,k+q,none⟩ u) bb 5 1 (byteRows (putTo l k v (q+1))):=by
 subst hu
 obtain ⟨x,hx⟩:=byteRows_at (l:=putTo l k v q) (i:=k+q) (by rw [putTo_length];exact hk)
 have:=h.set_ hx (j:=0) (by decide) (byteV (byteAt v q))
 rw [putTo,byteRows_set]
 simpa using this
theorem Good.set {rs:List Reg} (h:Good rs) {i:Nat} {r:Reg} (hr:rs[i]? = some r) {b:List UInt8} (hb:b.length=r.bytes.length):Good (rs.set i { r with bytes:=b }):=by
 obtain ⟨hi,hri⟩:=List.getElem?_eq_some_iff.1 hr
 have hmem:r∈rs:=List.mem_of_getElem? hr
 have hpos:=h.pos r hmem
 have all:∀ {Q:Reg→Prop},(∀ x∈rs,Q x)→Q { r with bytes:=b }→∀ x∈rs.set i { r with bytes:=b },Q x:=fun h1 h2 x hx=>by
   rcases List.mem_or_eq_of_mem_set hx with hx | rfl
   · exact h1 x hx
   · exact h2
 refine ⟨by simpa using h.len,all h.bytes ⟨fun e=>?_,?_⟩,all h.end_ ?_,?_⟩
 · simp only at e;rw [e] at hb;simp at hb;omega
 · simp only;rw [hb];exact (h.bytes r hmem).2
 · simp only;rw [hb];exact h.end_ r hmem
 · have hg:=h.gap
   rw [List.pairwise_iff_getElem] at hg ⊢
   intro a c ha hc hac
   simp only [List.length_set] at ha hc
   have h0:=hg a c ha hc hac
   simp only [List.getElem_set]
   split
   · rename_i e1;subst e1
     rw [if_neg (by omega)]
     simp only;rw [hb]
     rw [hri] at h0;exact h0
   · split
     · rename_i e2;subst e2
       rw [hri] at h0;exact h0
     · exact h0
theorem MemAt.put {w w':World} {F:Nat→Prop} {p:Value} {rs:List Reg} {i bb n c:Nat} {r:Reg} {b:List UInt8} (h:MemAt w F p rs) (he:EntryAt w p i bb n c) (hr:rs[i]? = some r) (hch:Chg (· = bb) w w')
   (hrow:RowsBlk w' bb 5 1 (byteRows b)) (hb:b.length=r.bytes.length):MemAt w' F p (rs.set i { r with bytes:=b }):=by
 obtain ⟨bm,v,hp,hFbm,hblk,⟨A,c',P,hv,hlc,hfst,hent,hnd,hblk2⟩,hgood⟩:=h
 obtain ⟨bm',g',m,c2,hp',hc1,hc2⟩:=he
 have hne:rs≠[]:=fun e=>by rw [e] at hr;cases hr
 obtain ⟨g,hA,hFg,hrows⟩:=hblk2 hne
 subst hp
 cases hp'
 have hcm:w.cell? ⟨bm,0,none⟩=some v:=by simp [World.cell?,hblk]
 rw [hcm,hv,hA] at hc1
 cases hc1
 have hri:=hr
 rw [←hfst,List.getElem?_map] at hri
 cases hpk:P[i]? with
 | none=>rw [hpk] at hri;cases hri
 | some x =>
   rw [hpk] at hri
   cases hri
   have hx:=hent x (List.mem_of_getElem? hpk)
   have hrowi:(P.map fun x=>entRow x.2)[i]? = some (entRow x.2):=by rw [List.getElem?_map,hpk];rfl
   have hc3:=hrows.cell hrowi (j:=1) (by rfl)
   rw [hc3] at hc2
   have had:x.2.ad=some ⟨bb,0,none⟩:=by injection hc2 with h1;injection h1
   obtain ⟨bb',hb1,hb2,hb3⟩:=hx.blk
   rw [had] at hb1
   cases hb1
   obtain ⟨hil,hpi⟩:=List.getElem?_eq_some_iff.1 hpk
   have hgl:=hrows.lt
   have hbml:=lt_of_block hblk
   have hgb:g'≠bb:=hrows.ne hb3 (by decide)
   have hbb:bm≠bb:=by
     rintro rfl
     obtain ⟨cur,h1,_⟩:=hb3
     rw [hblk] at h1
     injection h1 with h1
     injection h1 with _ h2
     exact absurd h2 (by decide)
   have hsnd:(P.set i ({ x.1 with bytes:=b },x.2)).map (·.2)=P.map (·.2):=by
     rw [List.map_set]
     refine List.ext_getElem? fun q=>?_
     by_cases hq:i=q
     · subst hq
       rw [List.getElem?_set_self (by simpa using hil),List.getElem?_map,hpk];rfl
     · rw [List.getElem?_set_ne hq]
   have h2:∀ {β:Type} (f:Ent→β),(P.set i ({ x.1 with bytes:=b },x.2)).map (fun x=>f x.2)=P.map fun x=>f x.2:=fun f=>by
     have:=congrArg (List.map f) hsnd
     simpa [List.map_map,Function.comp_def] using this
   refine ⟨bm,v,rfl,hFbm,(hch.block bm hbml hbb).trans hblk,⟨A,c',P.set i ({ x.1 with bytes:=b },x.2),by rw [hv];simp,by simpa using hlc,?_,?_,?_,?_⟩,hgood.set hr hb⟩
   · rw [List.map_set,hfst]
   · intro y hy
     obtain ⟨q,hq⟩:=List.mem_iff_getElem?.1 hy
     by_cases hqi:i=q
     · subst hqi
       rw [List.getElem?_set_self hil] at hq
       cases hq
       exact ⟨hx.key,by rw [hx.n];exact hb.symm,hx.wr,hx.cap,bb,had,hb2,hrow⟩
     · rw [List.getElem?_set_ne hqi] at hq
       have hy':=hent y (List.mem_of_getElem? hq)
       obtain ⟨by_,a1,a2,a3⟩:=hy'.blk
       have hne2:by_≠bb:=by
         rintro rfl
         obtain ⟨hql,hpq⟩:=List.getElem?_eq_some_iff.1 hq
         have h3:=List.pairwise_iff_getElem.1 hnd
         rcases Nat.lt_or_gt_of_ne hqi with hlt | hlt
         · exact h3 i q (by simpa using hil) (by simpa using hql) hlt (by simp only [List.getElem_map];rw [hpi,hpq,had,a1])
         · exact h3 q i (by simpa using hql) (by simpa using hil) hlt (by simp only [List.getElem_map];rw [hpi,hpq,had,a1])
       exact ⟨hy'.key,hy'.n,hy'.wr,hy'.cap,by_,a1,a2,a3.keep (hch.block by_ a3.lt hne2)⟩
   · rw [h2 (·.ad)];exact hnd
   · intro _
     refine ⟨g',hA,hFg,?_⟩
     rw [h2 entRow]
     exact hrows.keep (hch.block g' hgl hgb)
set_option maxHeartbeats 800000 in
theorem Store_any (p:Value) (w:World) (F:Nat→Prop) (rs:List Reg) (at_ v:Nat) (hat:at_ < 18446744073709551616) (hv:v < 18446744073709551616) (hm:MemAt w F p rs) (hF:∀ k,F k→k < w.heap.size) :
   Calls Tryz.prog 170 #[p,.int .u64 at_,.int .u64 v] w fun e w' =>
     (storeF rs at_ v=none∧e=.returned (.int .i64 11)∧Below w.heap.size w w')∨(∃ rs',storeF rs at_ v=some rs'∧e=.returned (.int .i64 0)∧MemAt w' F p rs'∧Chg F w w'):=by
 obtain ⟨bm,hp⟩:∃ bm,p=.pointer (some ⟨bm,0,none⟩):=by obtain ⟨bm,v,h,_⟩:=hm;exact ⟨bm,h⟩
 have HF:=Lh (find_any _ w F rs at_ 8 (by omega) hat hm hF)
 have HM:=Lh hm
 have HFF:=Lh hF
 have hnt:=isNilTrue
 have hnf:=isNilFalse
 clear hm hF
 subst hp
 go_enter Tryz.func170,Tryz.ntmps170
 go_wp2_with fail
 refine HF.out.mono ?_
 rintro e w1 ⟨aB,rfl,hfo,hb1⟩
 rcases hfo with ⟨hpl,rfl⟩ | ⟨i,k,r,bb,c,hpl,hri,hFb,hkn,hkl,hrc,hrow,hent,rfl⟩
 · have hl:storeF rs at_ v=none:=by simp only [storeF,hpl]
   have HL:=Lh hl
   clear hl hpl
   go_wp2
   go_ret
   exact .inl ⟨HL.out,rfl,hb1⟩
 · cases hw:r.write
   · have hl:storeF rs at_ v=none:=by simp only [storeF,hpl,hri,hw];rfl
     have HL:=Lh hl
     clear hl hpl hrow hri
     go_wp2
     go_ret
     exact .inl ⟨HL.out,rfl,hb1⟩
   · have hl:storeF rs at_ v=some (rs.set i { r with bytes:=putTo r.bytes k v 8 }):=by simp only [storeF,hpl,hri,hw];rfl
     have HL:=Lh hl
     have HROW:=Lh hrow
     have HRI:=Lh hri
     have HENT:=Lh hent
     clear hl hpl hrow hri hent
     go_wp2
     go_loopw [26] (fun i wr=>∃ (q:Nat) (z:Int),z=q∧q≤8∧i=.int .i64 z∧Chg (· = bb) w1 wr∧RowsBlk wr bb 5 1 (byteRows (putTo r.bytes k v q))) (fun i _=>8 - (intOf i).toNat)
     case atStart=>exact ⟨0,0,rfl,by omega,rfl,Chg.refl _ _,HROW.out⟩
     case round =>
       obtain ⟨q,z,hz,hq,rfl,hch,hrw⟩:=hrel
       have HCH:=Lh hch
       have HRW:=Lh hrw
       clear hch hrw
       rcases (by omega:z=0∨z=1∨z=2∨z=3∨z=4∨z=5∨z=6∨z=7∨z=8) with rfl | rfl | rfl | rfl | rfl | rfl | rfl | rfl | rfl
       · obtain rfl:q=0:=by omega
         obtain ⟨u,hc⟩:=put_cell HRW.out (q:=0) (by omega)
         have hf:=HRW.out.frozen (k+0)
         have i0:(0:Int)≤(0:Int):=by decide
         simp only [Nat.add_zero] at hc hf
         clear hz hq
         go_wp2
         go_roundw
         case rel=>exact ⟨1,1,rfl,by omega,rfl,HCH.out.setCell (.inl rfl) _,put_step HRW.out (q:=0) (by omega) (congrArg (Value.int .u8) (by rw [byteAt_int v 0 1 rfl];simp))⟩
         case measure=>simp [intOf]
       · obtain rfl:q=1:=by omega
         obtain ⟨u,hc⟩:=put_cell HRW.out (q:=1) (by omega)
         have hf:=HRW.out.frozen (k+1)
         have i0:(0:Int)≤(1:Int):=by decide
         clear hz hq
         go_wp2
         go_roundw
         case rel=>exact ⟨2,2,rfl,by omega,rfl,HCH.out.setCell (.inl rfl) _,put_step HRW.out (q:=1) (by omega) (congrArg (Value.int .u8) (by rw [byteAt_int v 1 256 rfl];simp))⟩
         case measure=>simp [intOf]
       · obtain rfl:q=2:=by omega
         obtain ⟨u,hc⟩:=put_cell HRW.out (q:=2) (by omega)
         have hf:=HRW.out.frozen (k+2)
         have i0:(0:Int)≤(2:Int):=by decide
         clear hz hq
         go_wp2
         go_roundw
         case rel=>exact ⟨3,3,rfl,by omega,rfl,HCH.out.setCell (.inl rfl) _,put_step HRW.out (q:=2) (by omega) (congrArg (Value.int .u8) (by rw [byteAt_int v 2 65536 rfl];simp))⟩
         case measure=>simp [intOf]
       · obtain rfl:q=3:=by omega
         obtain ⟨u,hc⟩:=put_cell HRW.out (q:=3) (by omega)
         have hf:=HRW.out.frozen (k+3)
         have i0:(0:Int)≤(3:Int):=by decide
         clear hz hq
         go_wp2
         go_roundw
         case rel=>exact ⟨4,4,rfl,by omega,rfl,HCH.out.setCell (.inl rfl) _,put_step HRW.out (q:=3) (by omega) (congrArg (Value.int .u8) (by rw [byteAt_int v 3 16777216 rfl];simp))⟩
         case measure=>simp [intOf]
       · obtain rfl:q=4:=by omega
         obtain ⟨u,hc⟩:=put_cell HRW.out (q:=4) (by omega)
         have hf:=HRW.out.frozen (k+4)
         have i0:(0:Int)≤(4:Int):=by decide
         clear hz hq
         go_wp2
         go_roundw
         case rel=>exact ⟨5,5,rfl,by omega,rfl,HCH.out.setCell (.inl rfl) _,put_step HRW.out (q:=4) (by omega) (congrArg (Value.int .u8) (by rw [byteAt_int v 4 4294967296 rfl];simp))⟩
         case measure=>simp [intOf]
       · obtain rfl:q=5:=by omega
         obtain ⟨u,hc⟩:=put_cell HRW.out (q:=5) (by omega)
         have hf:=HRW.out.frozen (k+5)
         have i0:(0:Int)≤(5:Int):=by decide
         clear hz hq
         go_wp2
         go_roundw
         case rel=>exact ⟨6,6,rfl,by omega,rfl,HCH.out.setCell (.inl rfl) _,put_step HRW.out (q:=5) (by omega) (congrArg (Value.int .u8) (by rw [byteAt_int v 5 1099511627776 rfl];simp))⟩
         case measure=>simp [intOf]
       · obtain rfl:q=6:=by omega
         obtain ⟨u,hc⟩:=put_cell HRW.out (q:=6) (by omega)
         have hf:=HRW.out.frozen (k+6)
         have i0:(0:Int)≤(6:Int):=by decide
         clear hz hq
         go_wp2
         go_roundw
         case rel=>exact ⟨7,7,rfl,by omega,rfl,HCH.out.setCell (.inl rfl) _,put_step HRW.out (q:=6) (by omega) (congrArg (Value.int .u8) (by rw [byteAt_int v 6 281474976710656 rfl];simp))⟩
         case measure=>simp [intOf]
       · obtain rfl:q=7:=by omega
         obtain ⟨u,hc⟩:=put_cell HRW.out (q:=7) (by omega)
         have hf:=HRW.out.frozen (k+7)
         have i0:(0:Int)≤(7:Int):=by decide
         clear hz hq
         go_wp2
         go_roundw
         case rel=>exact ⟨8,8,rfl,by omega,rfl,HCH.out.setCell (.inl rfl) _,put_step HRW.out (q:=7) (by omega) (congrArg (Value.int .u8) (by rw [byteAt_int v 7 72057594037927936 rfl];omega))⟩
         case measure=>simp [intOf]
       · obtain rfl:q=8:=by omega
         clear hz hq
         have hmem:=(HM.out.keep (SameOn.of_below hb1 HFF.out)).put HENT.out HRI.out HCH.out HRW.out (putTo_length _ _ _ _)
         have hchg:Chg F w wr:=(Chg.of_below hb1).trans' HCH.out (fun q _ hq=>by rw [hq];exact hFb)
         have HMEM:=Lh hmem
         have HCHG:=Lh hchg
         clear hmem hchg
         go_wp2
         go_ret
         exact .inr ⟨_,HL.out,rfl,HMEM.out,HCHG.out⟩
end Go.Proofs.YtocndimihokcmaaGreat
namespace Go.Proofs.YtocndimihokcmaaGreat
open Go.RowKit
theorem RegsOwn.mono {w:World} {F G:Nat→Prop} {v:Value} {l:List Reg} (h:RegsOwn w F v l) (hk:∀ k,F k→G k):RegsOwn w G v l:=by
 obtain ⟨A,c,P,h1,h2,h3,h4,h5,h6⟩:=h
 refine ⟨A,c,P,h1,h2,h3,fun x hx=>(h4 x hx).mono hk,h5,fun hne=>?_⟩
 obtain ⟨g,hA,hF,hr⟩:=h6 hne
 exact ⟨g,hA,hk _ hF,hr⟩
theorem mem_new {w:World} {s:Nat} {v:Value} {rs:List Reg} (h:RegsOwn w (seg s w.heap.size) v rs) (hg:Good rs) (hs:s≤w.heap.size) :
   MemAt (w.alloc (.cells #[v] 76)) (seg s (w.alloc (.cells #[v] 76)).heap.size) (.pointer (some ⟨w.heap.size,0,none⟩)) rs:=by
 have hz:(w.alloc (.cells #[v] 76)).heap.size=w.heap.size+1:=by simp
 refine ⟨w.heap.size,v,rfl,⟨hs,by omega⟩,heap_alloc_new w _,?_,hg⟩
 refine (h.keep (fun k hk=>Below.heap_alloc w _ k hk.2)).mono (fun k hk=>⟨hk.1,by have:=hk.2;omega⟩)
theorem insBy_last {α:Type} (k:α→Nat) (l:List α) (x:α) (h:∀ p∈l,k p≤k x):insBy k l x=x :: l:=by
 cases l with
 | nil=>rfl
 | cons p ps=>unfold insBy;rw [if_neg (by have:=h p (List.mem_cons_self ..);omega)]
theorem sortBy_sortedId {α:Type} (k:α→Nat) (E:List α) (h:E.Pairwise fun a b=>k a≤k b):sortBy k E=E:=by
 have key:∀ (E a:List α),(a.reverse++E).Pairwise (fun a b=>k a≤k b)→E.foldl (insBy k) a=E.reverse++a:=by
   intro E
   induction E with
   | nil=>intro a _;rfl
   | cons x E ih =>
     intro a h
     rw [List.foldl_cons,insBy_last,ih]
     · simp
     · simpa using h
     · intro p hp
       have:=(List.pairwise_append.1 h).2.2 p (by simpa using hp) x (List.mem_cons_self ..)
       exact this
 rw [sortBy,key E [] (by simpa using h)]
 simp
theorem Good.sorted {rs:List Reg} (h:Good rs):sortBy Reg.base rs=rs :=
 sortBy_sortedId _ _ (h.gap.imp fun h=>by omega)
set_option maxHeartbeats 800000 in
theorem Regions_any (p:Value) (w:World) (F:Nat→Prop) (rs:List Reg) (hm:MemAt w F p rs) (hF:∀ k,F k→k < w.heap.size) :
   Calls Tryz.prog 19 #[p] w fun e w'=>∃ v,e=.returned v∧RegsOwn w' (seg w.heap.size w'.heap.size) v rs∧Below w.heap.size w w':=by
 obtain ⟨bm,v,rfl,hbm,hblk,hown,hgood⟩:=hm
 have hcell:w.cell? ⟨bm,0,none⟩=some v:=by simp [World.cell?,hblk]
 have HO:=Lh (own_any v w F rs (hown.at_ hgood.base) hF (by have:=hgood.len;omega) hgood.bytes)
 have hs:sortBy Reg.base rs=rs:=hgood.sorted
 have HS:=Lh hs
 obtain ⟨A,c,rfl,_⟩:=(hown.at_ hgood.base).form
 clear hblk hown hgood hF hs
 go_enter Tryz.func19,Tryz.ntmps19
 go_wp2_with ((with_reducible refine (HO.out).mono ?_);rintro e w1 ⟨aB,rfl,hown1,hb1⟩;rw [HS.out] at hown1;have HO1:=Lh hown1;clear hown1)
 go_ret
 exact ⟨aB,rfl,HO1.out,hb1⟩
set_option maxHeartbeats 800000 in
theorem New_any (v:Value) (w:World) (F:Nat→Prop) (l:List Reg) (hn:l.length≤9223372036854775807) (hl:RegsAt w F v l) (hF:∀ k,F k→k < w.heap.size) :
   Calls Tryz.prog 13 #[v] w fun e w'=>Below w.heap.size w w'∧((checkF l≠0∧e=.returned (.tuple #[.pointer none,.int .i64 (checkF l)])) ∨
     (checkF l=0∧∃ p,e=.returned (.tuple #[p,.int .i64 0])∧MemAt w' (seg w.heap.size w'.heap.size) p (sortBy Reg.base l))):=by
 have HC:=Lh (Check_any v w F l hn hl hF)
 have hbase:∀ r∈l,r.base < 18446744073709551616:=by
   obtain ⟨P,hP,_,hs⟩:=hl
   intro r hr
   rw [←hP] at hr
   obtain ⟨x,hx,rfl⟩:=List.mem_map.1 hr
   exact (hs x hx).base64
 have HO:=fun (h0:checkF l=0) (w1:World) (hb:Below w.heap.size w w1)=>own_any v w1 F l (hl.below hb hF) (fun k hk=>by have:=hF k hk;have:=hb.size;omega)
   (by have:=(good_of_check h0 hbase).len;rw [sortBy_length] at this;omega) (fun r hr=>(good_of_check h0 hbase).bytes r ((sortBy_perm _ _).mem_iff.2 hr))
 have HG:=fun (h0:checkF l=0)=>good_of_check h0 hbase
 have HO:=Lh HO
 have HG:=Lh HG
 obtain ⟨A,c,rfl,_⟩:=hl.form
 clear hl hF hbase
 by_cases h0:checkF l=0
 · rw [h0] at HC
   have H0:=Lh h0
   clear h0
   go_enter Tryz.func13,Tryz.ntmps13
   go_wp2_with (first | ((with_reducible refine (HC.out).mono ?_);rintro e w1 ⟨rfl,hb1⟩) | ((with_reducible refine (HO.out H0.out _ hb1).mono ?_);rintro e w2 ⟨aB,rfl,hown1,hb2⟩;obtain ⟨A1,c1,P1,rfl,hrest⟩:=hown1;have HO1:=Lh hrest;clear hrest))
   go_ret2
   have hs:=hb1.size
   refine ⟨(hb1.trans (hb2.mono hs)).trans ((Below.refl _ _).alloc (Nat.le_trans hs hb2.size) _),.inr ⟨H0.out,_,rfl,?_⟩⟩
   exact mem_new (RegsOwn.mono ⟨A1,c1,P1,rfl,HO1.out⟩ (fun k hk=>⟨Nat.le_trans hs hk.1,hk.2⟩)) (HG.out H0.out) (Nat.le_trans hs hb2.size)
 · have hne:(checkF l != 0)=true:=by rw [bne_iff_ne];exact h0
   have H0:=Lh h0
   clear h0
   generalize checkF l=ce at *
   go_enter Tryz.func13,Tryz.ntmps13
   go_wp2_with ((with_reducible refine (HC.out).mono ?_);rintro e w1 ⟨rfl,hb1⟩)
   go_ret2
   exact ⟨hb1,.inl ⟨H0.out,rfl⟩⟩
end Go.Proofs.YtocndimihokcmaaGreat
namespace Go.Proofs.YtocndimihokcmaaGreat
open Go.RowKit
def StoreSays (rs:List Reg) (at_ v:Nat) (g:Int) (rs2:List Reg):Prop:=(storeF rs at_ v=none∧g=11∧rs2=rs)∨(storeF rs at_ v=some rs2∧g=0)
theorem StoreSays.same {rs rs2 rs3:List Reg} {at_ v:Nat} {g g':Int} (h:StoreSays rs at_ v g rs2) (h':StoreSays rs at_ v g' rs3):g'=g∧rs3=rs2:=by
 rcases h with ⟨a,b,c⟩ | ⟨a,b⟩ <;> rcases h' with ⟨a',b',c'⟩ | ⟨a',b'⟩
 · exact ⟨by rw [b,b'],by rw [c,c']⟩
 · rw [a] at a';cases a'
 · rw [a] at a';cases a'
 · rw [a] at a';cases a';exact ⟨by rw [b,b'],rfl⟩
theorem Store_says (p:Value) (w:World) (F:Nat→Prop) (rs:List Reg) (at_ v:Nat) (hat:at_ < 18446744073709551616) (hv:v < 18446744073709551616) (hm:MemAt w F p rs) (hF:∀ k,F k→k < w.heap.size) :
   Calls Tryz.prog 170 #[p,.int .u64 at_,.int .u64 v] w fun e w'=>∃ g rs2,e=.returned (.int .i64 g)∧StoreSays rs at_ v g rs2∧MemAt w' F p rs2∧Chg F w w':=by
 refine (Store_any p w F rs at_ v hat hv hm hF).mono ?_
 rintro e w' (⟨h0,rfl,hb⟩ | ⟨rs',h0,rfl,hm',hc⟩)
 · exact ⟨11,rs,rfl,.inl ⟨h0,rfl,rfl⟩,hm.keep (SameOn.of_below hb hF),.of_below hb⟩
 · exact ⟨0,rs',rfl,.inr ⟨h0,rfl⟩,hm',hc⟩
theorem RegsAt.next {w w':World} {v:Value} {rs:List Reg} (h:RegsAt w (fun k=>k < w.heap.size) v rs) (hb:Below w.heap.size w w'):RegsAt w' (fun k=>k < w'.heap.size) v rs :=
 (h.below hb fun _ hk=>hk).mono fun _ hk=>Nat.lt_of_lt_of_le hk hb.size
def loadVE:Option Nat→Nat×Int
 | none=>(0,11)
 | some v=>(v,0)
theorem loadOut_eq (o:Option Nat):loadOut o=.tuple #[.int .u64 ((loadVE o).1:Nat),.int .i64 (loadVE o).2]:=by cases o <;> rfl
theorem loadF_lt {rs:List Reg} {at_:Nat}:(loadVE (loadF rs at_)).1 < 18446744073709551616:=by
 unfold loadF loadVE
 cases placeF rs at_ 8 with
 | none=>simp
 | some ik =>
   obtain ⟨i,k⟩:=ik
   cases hr:rs[i]? with
   | none=>simp [hr]
   | some r =>
     simp only [hr]
     have:=wordOf_lt ((r.bytes.drop k).take 8)
     have h2:(2:Nat) ^ (8*((r.bytes.drop k).take 8).length)≤2 ^ 64:=Nat.pow_le_pow_right (by decide) (by simp;omega)
     exact Nat.lt_of_lt_of_le this h2
end Go.Proofs.YtocndimihokcmaaGreat
