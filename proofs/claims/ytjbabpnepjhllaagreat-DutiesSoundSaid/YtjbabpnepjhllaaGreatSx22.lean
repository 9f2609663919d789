/- Part 22 of a claim; what it proves stands in its last text. -/
import Derived.Test.YtjbabpnepjhllaaGreatSx21
import Derived.Test.YtjbabpnepjhllaaGreatSx18
import Derived.Test.YtjbabpnepjhllaaGreatSx17
namespace Go.Proofs.YtjbabpnepjhllaaGreat
open Go.RowKit
set_option maxRecDepth 100000
structure RowsU (w:World) (F:Nat→Prop) (v:Value) (rows:List (List Nat)):Prop where
 out:∃ vs:List Value,vs.length=rows.length∧Rows w F 1 v (vs.map fun x=>[x])∧∀ (i:Nat) (r:List Nat) (u:Value),rows[i]? = some r→vs[i]? = some u→UsAt w F u r
theorem RowsU.keep {w w':World} {F:Nat→Prop} {v:Value} {rows:List (List Nat)} (h:RowsU w F v rows) (hk:SameOn F w w'):RowsU w' F v rows:=by
 obtain ⟨vs,h1,h2,h3⟩:=h.out
 exact ⟨vs,h1,Rows.keep h2 hk,fun i r u hr hu=>Rows.keep (h3 i r u hr hu) hk⟩
theorem RowsU.mono {w:World} {F G:Nat→Prop} {v:Value} {rows:List (List Nat)} (h:RowsU w F v rows) (hk:∀ k,F k→G k):RowsU w G v rows:=by
 obtain ⟨vs,h1,h2,h3⟩:=h.out
 exact ⟨vs,h1,Rows.mono h2 hk,fun i r u hr hu=>Rows.mono (h3 i r u hr hu) hk⟩
theorem RowsU.next {w w':World} {v:Value} {rows:List (List Nat)} (h:RowsU w (fun k=>k < w.heap.size) v rows) (hb:Below w.heap.size w w'):RowsU w' (fun k=>k < w'.heap.size) v rows :=
 (h.keep (SameOn.of_below hb fun _ hk=>hk)).mono fun _ hk=>Nat.lt_of_lt_of_le hk hb.size
theorem RowsU.form {w:World} {F:Nat→Prop} {v:Value} {rows:List (List Nat)} (h:RowsU w F v rows):∃ A c,v=.slice A rows.length c∧rows.length≤c:=by
 obtain ⟨vs,h1,h2,_⟩:=h.out
 rw [←h1]
 exact rows_form h2
theorem RowsU.at_ {w:World} {F:Nat→Prop} {A:Option Addr} {n c:Nat} {rows:List (List Nat)} (h:RowsU w F (.slice A n c) rows) {k:Nat} {r:List Nat} (hk:rows[k]? = some r) :
   ∃ b o A' c',A=some ⟨b,o,none⟩∧F b∧w.cell? ⟨b,o+k,none⟩=some (.slice A' r.length c')∧UsAt w F (.slice A' r.length c') r:=by
 obtain ⟨vs,h1,h2,h3⟩:=h.out
 have hl:=(List.getElem?_eq_some_iff.1 hk).1
 obtain ⟨u,hu⟩:∃ u,vs[k]? = some u:=⟨_,List.getElem?_eq_getElem (by omega)⟩
 obtain ⟨b,o,hA,hF,hc⟩:=rows_at h2 hu
 have hU:=h3 k r u hk hu
 obtain ⟨A',c',rfl,_⟩:=rows_form hU
 exact ⟨b,o,A',c',hA,hF,by simpa using hc 0 _ rfl,hU⟩
theorem RowsU.len {w:World} {F:Nat→Prop} {A:Option Addr} {n c:Nat} {rows:List (List Nat)} (h:RowsU w F (.slice A n c) rows):n=rows.length:=by
 obtain ⟨A',c',e,_⟩:=h.form
 cases e
 rfl
def lightN (rows:List (List Nat)) (most limbs:Nat):Bool:=rows.all (fun r=>decide (r.length≤limbs)) && decide (rows.length≤most)
set_option maxHeartbeats 4000000 in
theorem LightNats_any (A:Option Addr) (n c:Nat) (rows:List (List Nat)) (most limbs:Nat) (w:World) (hr:RowsU w (fun k=>k < w.heap.size) (.slice A n c) rows) (hn:n≤9223372036854775807) :
   Calls Tryz.prog 10 #[.slice A n c,.int .i64 most,.int .i64 limbs] w fun e w'=>e=.returned (.bool (lightN rows most limbs))∧w=w':=by
 have HR:=Lh hr
 have HN:=Lh hr.len
 clear hr
 go_enter Tryz.func10,Tryz.ntmps10
 go_wp2
 go_loopw [6,7] (fun _ s7 wr=>∃ j:Nat,j≤n∧s7=.int .i64 j∧(∀ (i:Nat) (r:List Nat),i < j→rows[i]? = some r→r.length≤limbs)∧w=wr) (fun _ s7 _=>n - (intOf s7).toNat)
 case atStart=>exact ⟨0,Nat.zero_le _,rfl,fun i r h=>absurd h (by omega),rfl⟩
 case round =>
   obtain ⟨j,hj,rfl,hall,hw⟩:=hrel
   subst hw
   have HALL:=Lh hall
   clear hall
   by_cases hlt:j < n
   · have d1:decide (j < n)=true:=decide_eq_true hlt
     obtain ⟨r,hr⟩:∃ r,rows[j]? = some r:=⟨_,List.getElem?_eq_getElem (by have:=HN.out;omega)⟩
     obtain ⟨b,o,A',c',rfl,_,p0,_⟩:=HR.out.at_ hr
     have HRJ:=Lh hr
     obtain ⟨m,hm⟩:∃ m,m=r.length:=⟨_,rfl⟩
     rw [←hm] at p0
     have HM:=Lh hm
     have i1:(0:Int)≤(j:Int):=by omega
     have i2:(j:Int) < (n:Int):=by omega
     have i3:IntKind.i64.wrap (j:Int)=j:=by rw [IntKind.wrap_i64];omega
     clear hr hm
     by_cases hml:limbs < m
     · have d2:decide (limbs < m)=true:=decide_eq_true hml
       have d3:decide ((m:Int) > (limbs:Int))=true:=decide_eq_true (by omega)
       have HX:=Lh (show lightN rows most limbs=false by
         unfold lightN
         rw [Bool.and_eq_false_iff]
         refine .inl ?_
         cases h:rows.all (fun r=>decide (r.length≤limbs))
         · rfl
         · have:=List.all_eq_true.1 h r (List.mem_of_getElem? HRJ.out)
           rw [decide_eq_true_eq,←HM.out] at this
           omega)
       clear hml
       go_wp2
       go_ret
       exact ⟨by rw [HX.out];rfl,rfl⟩
     · have d2:decide (limbs < m)=false:=decide_eq_false hml
       have d3:decide ((m:Int) > (limbs:Int))=false:=decide_eq_false (by omega)
       have HML:=Lh (Nat.le_of_not_lt hml)
       clear hml
       go_wp2
       go_roundw
       case rel =>
         refine ⟨j+1,hlt,by go_num,fun i r' h1 h2=>?_,by trivial⟩
         rcases Nat.lt_or_ge i j with h3 | h3
         · exact HALL.out i r' h3 h2
         · obtain rfl:i=j:=by omega
           rw [HRJ.out] at h2;cases h2
           rw [←HM.out];exact HML.out
       case measure=>simp [intOf];omega
   · have d1:decide (j < n)=false:=decide_eq_false hlt
     have HX:=Lh (show lightN rows most limbs=decide (n≤most) by
       unfold lightN
       rw [show rows.all (fun r=>decide (r.length≤limbs))=true from List.all_eq_true.2 fun r hr=>by
         obtain ⟨i,hi,e⟩:=List.getElem_of_mem hr
         rw [decide_eq_true_eq]
         exact HALL.out i r (by have:=HN.out;omega) (by rw [←e];exact List.getElem?_eq_getElem hi),Bool.true_and,HN.out])
     go_wp2
     go_ret
     refine ⟨?_,rfl⟩
     rw [HX.out]
     exact ret_bool (by simp)
end Go.Proofs.YtjbabpnepjhllaaGreat
namespace Go.Proofs.YtjbabpnepjhllaaGreat
open Go.RowKit
set_option maxRecDepth 100000
def fitOne (vs:List KVar) (x:Int) (r:List Nat):Bool:=decide ((limbsOf (natV r)).length≤limbN vs x)
def fitsK (vs:List KVar) (rows:List (List Nat)):Int:=if (inK vs).length≠rows.length then 2 else if ((inK vs).zip rows).all (fun p=>fitOne vs p.1 p.2) then 0 else 3
structure InsAt (w:World) (A:Option Addr) (n c:Nat) (rows:List (List Nat)):Prop where
 us:RowsU w (fun k=>k < w.heap.size) (.slice A n c) rows
 ok:∀ r∈rows,LimbOk r∧r.length≤100000
theorem InsAt.next {w w':World} {A:Option Addr} {n c:Nat} {rows:List (List Nat)} (h:InsAt w A n c rows) (hb:Below w.heap.size w w'):InsAt w' A n c rows:=⟨h.us.next hb,h.ok⟩
theorem InsAt.get {w:World} {A:Option Addr} {n c:Nat} {rows:List (List Nat)} (h:InsAt w A n c rows) {i:Nat} {r:List Nat} (hr:rows[i]? = some r):∃ b o A' m d,A=some ⟨b,o,none⟩∧b < w.heap.size∧w.cell? ⟨b,o+i,none⟩=some (.slice A' m d)∧NumAt w A' m d (natV r):=by
 obtain ⟨b,o,A',c',hA,hb,p0,hu⟩:=h.us.at_ hr
 have h1:=h.ok r (List.mem_of_getElem? hr)
 exact ⟨b,o,A',_,c',hA,hb,p0,⟨r,hu,h1.1,rfl⟩,h1.2⟩
set_option maxHeartbeats 4000000 in
theorem Fits_any (Av Ao Ar Ai:Option Addr) (nv cv no co nr cr ni ci:Nat) (k:Krn) (rows:List (List Nat)) (w:World) (hk:KernAt w (fun q=>q < w.heap.size) [.slice Av nv cv,.slice Ao no co,.slice Ar nr cr] k) (hc:checkK k=true) (hin:InsAt w Ai ni ci rows) (hni:ni≤100000) :
   Calls Tryz.prog 41 #[.agg #[.slice Av nv cv,.slice Ao no co,.slice Ar nr cr],.slice Ai ni ci] w fun e w'=>e=.returned (.int .i64 (fitsK k.vars rows))∧Below w.heap.size w w':=by
 obtain ⟨W,hW⟩:∃ W,W=w.alloc (.cells #[.slice Av nv cv,.slice Ao no co,.slice Ar nr cr] 25):=⟨_,rfl⟩
 have hb:Below w.heap.size w W:=by rw [hW];exact (Below.refl _ _).alloc (Nat.le_refl _) _
 have hbox:W.heap[w.heap.size]? = some (.cells #[.slice Av nv cv,.slice Ao no co,.slice Ar nr cr] 25 (0,0)):=by rw [hW];exact heap_alloc_new w _
 have hk2:KernAt W (fun k=>k < W.heap.size) [.slice Av nv cv,.slice Ao no co,.slice Ar nr cr] k:=kern_next hk hb
 have hkb:=kbox_of hbox hk2
 have HW:=Lh hW
 have HB:=Lh hb
 have HK:=Lh hkb
 have HNI:=Lh (hin.next hb)
 have HVK:=Lh (checkK_parts hc).1
 have hv256:=(varsK_len (checkK_parts hc).1).2
 have HCK:=Lh (fun (w1:World) (h1:Below W.heap.size W w1)=>rcheck_any Av Ao Ar nv cv no co nr cr k w1 _ (kern_next hk2 h1) (fun k hk=>hk) (by omega))
 rw [show errK k=0 by unfold errK;rw [hc];rfl] at HCK
 have HIN:=Lh (fun (w1:World) (h1:Below W.heap.size W w1)=>In_any Av Ao Ar nv cv no co nr cr k w1 (kern_next hk2 h1) hc)
 have HNV:=Lh hkb.nv.1
 have HNR:=Lh hin.us.len
 have c0:=hkb.c0
 have c1:=hkb.c1
 have c2:=hkb.c2
 clear hW hb hbox hk2 hkb hk hc hin
 go_enter Tryz.func41,Tryz.ntmps41
 go_upto_region 1 with go_in
 rw [←HW.out]
 clear HW
 go_upto_region 4 with (first | ((with_reducible refine (HCK.out _ (Below.refl _ _)).mono ?_);rintro e w1 ⟨rfl,hb1⟩;have HB1:=Lh hb1;clear hb1 c0 c1 c2) | go_in)
 have c0:=(HK.out.next HB1.out).c0
 have c1:=(HK.out.next HB1.out).c1
 have c2:=(HK.out.next HB1.out).c2
 go_upto_region 5 with (first | ((with_reducible refine (HIN.out _ HB1.out).mono ?_);rintro e w2 ⟨Al,nl,cl,rfl,ho2,hn2,hb2⟩;have HO2:=Lh ho2;have HN2:=Lh hn2;have HB2:=Lh (HB1.out.trans (hb2.mono HB1.out.size));clear ho2 hn2 hb2) | go_in)
 clear c0 c1 c2 HCK HIN HB1
 have hnl:nl≤256:=by have:=HN2.out;have:=pickTo_len givenK k.vars k.vars.length;omega
 by_cases hne:nl=ni
 rotate_left
 · have d0:((nl:Int) !=(ni:Int))=true:=by rw [bne_iff_ne];omega
   have HX:=Lh (show fitsK k.vars rows=2 by unfold fitsK;rw [if_pos (by show (pickTo givenK k.vars k.vars.length).length≠_;have:=HN2.out;have:=HNR.out;omega)])
   clear hne
   go_wp2
   go_ret
   exact ⟨by rw [HX.out];rfl,HB.out.trans (HB2.out.mono HB.out.size)⟩
 have d0:((nl:Int) !=(ni:Int))=false:=by rw [hne];simp
 have HNE:=Lh hne
 have HNL:=Lh (show NumsAt w2 (fun q=>q < w2.heap.size) (.slice Al nl cl) (inK k.vars) from by
   have ho:=HO2.out
   rw [HN2.out] at ho
   rw [HN2.out]
   exact Rows.mono (nums_own ho) fun q hq=>(own_lt ho q hq).1)
 clear hne
 go_wp2
 go_loopw [4,7] (fun _ s7 wr=>∃ j:Nat,j≤nl∧s7=.int .i64 j∧(∀ (i:Nat) (p:Int×List Nat),i < j→((inK k.vars).zip rows)[i]? = some p→fitOne k.vars p.1 p.2=true)∧Below w2.heap.size w2 wr) (fun _ s7 _=>nl - (intOf s7).toNat)
 case atStart=>exact ⟨0,Nat.zero_le _,rfl,fun i p h=>absurd h (by omega),Below.refl _ _⟩
 case round =>
   obtain ⟨j,hj,rfl,hall,hbr⟩:=hrel
   have HALL:=Lh hall
   have HBR:=Lh hbr
   have hup:=HB2.out.trans (hbr.mono HB2.out.size)
   have HUP:=Lh hup
   by_cases hlt:j < nl
   · have d1:decide (j < nl)=true:=decide_eq_true hlt
     obtain ⟨r,hr⟩:∃ r,rows[j]? = some r:=⟨_,List.getElem?_eq_getElem (by have:=HNR.out;have:=HNE.out;omega)⟩
     obtain ⟨x,hx⟩:∃ x,(inK k.vars)[j]? = some x:=⟨_,List.getElem?_eq_getElem (by have:=HN2.out;unfold inK;omega)⟩
     have HZ:=Lh (show ((inK k.vars).zip rows)[j]? = some (x,r) by rw [List.getElem?_zip_eq_some];exact ⟨hx,hr⟩)
     obtain ⟨bi,oi,Aj,mj,dj,hAi,hbi,p0,hnum⟩:=(HNI.out.next hup).get hr
     have hnl2:NumsAt wr (fun q=>q < wr.heap.size) (.slice Al nl cl) (inK k.vars):=rows_next HNL.out hbr
     obtain ⟨bl,ol,hAl,hbl,q0⟩:=NumsAt.at_ hnl2 hx
     have hxm:=pickTo_mem (List.mem_of_getElem? hx)
     obtain ⟨px,rfl⟩:∃ p:Nat,x=p:=⟨x.toNat,by omega⟩
     obtain ⟨v,hv⟩:∃ v,k.vars[px]? = some v:=⟨_,List.getElem?_eq_getElem (by omega)⟩
     obtain ⟨l1,l2,l3⟩:=limb_pos HVK.out (x:=(px:Int)) ⟨by omega,by omega⟩
     obtain ⟨L,hL⟩:∃ L,L=limbN k.vars (px:Int):=⟨_,rfl⟩
     rw [←hL] at l2 l3
     have hlimb:v.limbs=(L:Int):=by rw [←l3];unfold limbsF;rw [Int.toNat_natCast,List.getD_eq_getElem?_getD,hv];rfl
     obtain ⟨bv,ov,hAv,hbv,v0,_⟩:=(HK.out.next hup).vars.at_ hv
     rw [hlimb] at v0
     subst hAi;subst hAl;subst hAv
     have HCL:=Lh (show ∀ w_,Below wr.heap.size wr w_→w_.cell? ⟨bi,oi+j,none⟩=some (.slice Aj mj dj)∧w_.cell? ⟨bl,ol+j,none⟩=some (.int .i64 (px:Int))∧w_.cell? ⟨bv,ov+px*3,none⟩=some (.int .i64 (L:Int))∧w_.cell? ⟨w.heap.size,0,none⟩=some (.slice (some ⟨bv,ov,none⟩) nv cv) from fun w_ h=>⟨(h.cell (p:=⟨bi,_,none⟩) hbi).trans p0,(h.cell (p:=⟨bl,_,none⟩) hbl).trans q0,(h.cell (p:=⟨bv,_,none⟩) hbv).trans v0,(HK.out.next (HUP.out.trans (h.mono HUP.out.size))).c0⟩)
     have HT:=Lh (fun (w_:World) (h:Below wr.heap.size wr w_)=>tTrim (hnum.next h))
     have i1:(0:Int)≤(j:Int):=by omega
     have i2:(j:Int) < (nl:Int):=by omega
     have i3:IntKind.i64.wrap (j:Int)=j:=by rw [IntKind.wrap_i64];omega
     have i4:(j:Int) < (ni:Int):=by have:=HNE.out;omega
     have i5:(0:Int)≤(px:Int):=by omega
     have i6:(px:Int) < (nv:Int):=by have:=HNV.out;omega
     have i7:IntKind.i64.wrap (px:Int)=px:=by rw [IntKind.wrap_i64];omega
     have HFO:=Lh (show fitOne k.vars (px:Int) r=decide ((limbsOf (natV r)).length≤L) by unfold fitOne;rw [←hL])
     obtain ⟨T,hT⟩:∃ T,T=(limbsOf (natV r)).length:=⟨_,rfl⟩
     rw [←hT] at HFO
     have HTT:=Lh hT
     clear hnl2 hr hx hbi p0 hnum hbl q0 hxm hv l1 l2 l3 hL hlimb hbv v0 hall hbr hup hT
     by_cases hle:T≤L
     · have d2:decide (L < T)=false:=decide_eq_false (by omega)
       have d3:decide ((T:Int) > (L:Int))=false:=decide_eq_false (by omega)
       have HFO2:=Lh (show fitOne k.vars (px:Int) r=true by rw [HFO.out,decide_eq_true hle])
       clear hle
       go_upto_region 10 with (first | go_in)
       have hS:=(Below.refl wr.heap.size wr).drew
       (refine wp_region_lines (Below wr.heap.size wr) (by kernel_rfl) (by kernel_rfl) ((Below.refl wr.heap.size wr).drew) ?_)
       (try simp only [])
       repeat (first | (refine runL_no (by rfl) ?_;(try simp only [Act.put,List.setIfInBounds_toArray,List.set_cons_zero,List.set_cons_succ])) | (refine runL_val (v:=?_) (by rfl) ?_ ?_;rotate_left;(focus (intro w_ hw_;obtain ⟨f0_,f1_,f2_,f3_⟩:=HCL.out w_ hw_;go_simp;(try with_reducible rfl);done));(try simp only [Act.put,List.setIfInBounds_toArray,List.set_cons_zero,List.set_cons_succ])) | (refine runL_call (f:=?_) (args:=?_) (w1:=?_) (by rfl) (by rfl) ?_ ?_;rotate_left 3;(focus (go_simp;refine ⟨⟨?_,?_⟩,?_⟩ <;> with_reducible rfl));(with_reducible refine (HT.out _ hS).mono ?_);rintro e_ w5 ⟨A5,n5,c5,rfl,h1_,hn_,h3_,hb_⟩;rw [←HTT.out] at hn_;subst hn_;replace hS:=hS.trans (hb_.mono hS.size);clear h1_ h3_ hb_;refine ⟨_,rfl,.inr hS,?_⟩;(try simp only [Act.put,List.setIfInBounds_toArray,List.set_cons_zero,List.set_cons_succ])))
       (refine runL_nil ?_)
       have HS:=Lh hS
       clear hS
       go_wp2
       go_roundw
       case rel =>
         refine ⟨j+1,hlt,by go_num,fun i p h1 h2=>?_,HBR.out.trans (HS.out.mono HBR.out.size)⟩
         rcases Nat.lt_or_ge i j with h3 | h3
         · exact HALL.out i p h3 h2
         · obtain rfl:i=j:=by omega
           rw [HZ.out] at h2;cases h2
           exact HFO2.out
       case measure=>simp [intOf];omega
     · have d2:decide (L < T)=true:=decide_eq_true (by omega)
       have d3:decide ((T:Int) > (L:Int))=true:=decide_eq_true (by omega)
       have HX:=Lh (show fitsK k.vars rows=3 by
         unfold fitsK
         rw [if_neg (by show ¬ (pickTo givenK k.vars k.vars.length).length≠_;have:=HN2.out;have:=HNR.out;have:=HNE.out;omega),if_neg]
         intro h
         have:=List.all_eq_true.1 h _ (List.mem_of_getElem? HZ.out)
         rw [HFO.out,decide_eq_true_eq] at this
         exact hle this)
       clear hle
       go_upto_region 10 with (first | go_in)
       have hS:=(Below.refl wr.heap.size wr).drew
       (refine wp_region_lines (Below wr.heap.size wr) (by kernel_rfl) (by kernel_rfl) ((Below.refl wr.heap.size wr).drew) ?_)
       (try simp only [])
       repeat (first | (refine runL_no (by rfl) ?_;(try simp only [Act.put,List.setIfInBounds_toArray,List.set_cons_zero,List.set_cons_succ])) | (refine runL_val (v:=?_) (by rfl) ?_ ?_;rotate_left;(focus (intro w_ hw_;obtain ⟨f0_,f1_,f2_,f3_⟩:=HCL.out w_ hw_;go_simp;(try with_reducible rfl);done));(try simp only [Act.put,List.setIfInBounds_toArray,List.set_cons_zero,List.set_cons_succ])) | (refine runL_call (f:=?_) (args:=?_) (w1:=?_) (by rfl) (by rfl) ?_ ?_;rotate_left 3;(focus (go_simp;refine ⟨⟨?_,?_⟩,?_⟩ <;> with_reducible rfl));(with_reducible refine (HT.out _ hS).mono ?_);rintro e_ w5 ⟨A5,n5,c5,rfl,h1_,hn_,h3_,hb_⟩;rw [←HTT.out] at hn_;subst hn_;replace hS:=hS.trans (hb_.mono hS.size);clear h1_ h3_ hb_;refine ⟨_,rfl,.inr hS,?_⟩;(try simp only [Act.put,List.setIfInBounds_toArray,List.set_cons_zero,List.set_cons_succ])))
       (refine runL_nil ?_)
       have HS:=Lh hS
       clear hS
       go_wp2
       go_ret
       exact ⟨by rw [HX.out];rfl,HB.out.trans ((HUP.out.trans (HS.out.mono HUP.out.size)).mono HB.out.size)⟩
   · have d1:decide (j < nl)=false:=decide_eq_false hlt
     have HX:=Lh (show fitsK k.vars rows=0 by
       unfold fitsK
       rw [if_neg (by show ¬ (pickTo givenK k.vars k.vars.length).length≠_;have:=HN2.out;have:=HNR.out;have:=HNE.out;omega),if_pos]
       refine List.all_eq_true.2 fun p hp=>?_
       obtain ⟨i,hi,e⟩:=List.getElem_of_mem hp
       refine HALL.out i p ?_ (by rw [←e];exact List.getElem?_eq_getElem hi)
       rw [List.length_zip] at hi
       have:=HN2.out
       unfold inK at hi
       omega)
     clear hall hbr hup
     go_wp2
     go_ret
     exact ⟨by rw [HX.out];rfl,HB.out.trans (HUP.out.mono HB.out.size)⟩
end Go.Proofs.YtjbabpnepjhllaaGreat
namespace Go.Proofs.YtjbabpnepjhllaaGreat
open Go.RowKit
set_option maxRecDepth 100000
def startJ (k:Krn) (rows:List (List Nat)) (j:Nat):List Nat:=(((inK k.vars).zip rows).take j).foldl (fun v p=>v.set p.1.toNat (natV p.2)) (List.replicate k.vars.length 0)
def startV (k:Krn) (rows:List (List Nat)):List Nat:=((inK k.vars).zip rows).foldl (fun v p=>v.set p.1.toNat (natV p.2)) (List.replicate k.vars.length 0)
theorem startJ_next {k:Krn} {rows:List (List Nat)} {j:Nat} {p:Int×List Nat} (h:((inK k.vars).zip rows)[j]? = some p):startJ k rows (j+1)=(startJ k rows j).set p.1.toNat (natV p.2):=by
 unfold startJ
 rw [List.take_add_one,h,List.foldl_append]
 rfl
theorem startJ_all {k:Krn} {rows:List (List Nat)} {j:Nat} (h:((inK k.vars).zip rows).length≤j):startJ k rows j=startV k rows:=by
 unfold startJ startV
 rw [List.take_of_length_le h]
theorem startJ_ok {k:Krn} {rows:List (List Nat)} (hf:fitsK k.vars rows=0):∀ j,ValOk k.vars (startJ k rows j):=by
 have hall:∀ (i:Nat) (p:Int×List Nat),((inK k.vars).zip rows)[i]? = some p→fitOne k.vars p.1 p.2=true:=by
   intro i p hp
   unfold fitsK at hf
   split at hf
   · cases hf
   · split at hf
     · rename_i h
       exact List.all_eq_true.1 h p (List.mem_of_getElem? hp)
     · cases hf
 intro j
 induction j with
 | zero =>
   refine ⟨by simp [startJ],fun x h1 h2=>?_⟩
   have:getV (startJ k rows 0) x=0:=by
     unfold getV startJ
     rw [List.take_zero,List.foldl_nil,List.getD_eq_getElem?_getD,List.getElem?_replicate]
     split <;> rfl
   rw [this]
   exact Nat.pow_pos (by decide)
 | succ j ih =>
   cases hp:((inK k.vars).zip rows)[j]? with
   | none =>
     rw [List.getElem?_eq_none_iff] at hp
     rw [startJ_all (by omega),←startJ_all (j:=j) hp]
     exact ih
   | some p =>
     rw [startJ_next hp]
     have h1:=hall j p hp
     have hx:p.1∈inK k.vars:=(List.of_mem_zip (List.mem_of_getElem? hp)).1
     have hxm:=pickTo_mem hx
     refine ⟨by rw [List.length_set];exact ih.len,fun x h3 h4=>?_⟩
     rw [getV_set ⟨hxm.1,by rw [ih.len];exact hxm.2.1⟩ h3]
     split
     · rename_i e
       subst e
       unfold fitOne at h1
       rw [decide_eq_true_eq] at h1
       exact Nat.lt_of_lt_of_le (limbs_lt _) (Nat.pow_le_pow_right (by decide) h1)
     · exact ih.lt x h3 h4
theorem nums_free_next {w w':World} {g:Nat} {v:Value} {l:List Int} (h:NumsAt w (fun k=>k < w.heap.size∧k≠g) v l) (hb:Below w.heap.size w w'):NumsAt w' (fun k=>k < w'.heap.size∧k≠g) v l :=
 (Rows.keep h (SameOn.of_below hb fun _ hk=>hk.1)).mono fun _ hk=>⟨Nat.lt_of_lt_of_le hk.1 hb.size,hk.2⟩
theorem nums_free_put {w:World} {g p:Nat} {u v:Value} {l:List Int} (h:NumsAt w (fun k=>k < w.heap.size∧k≠g) v l):NumsAt (w.setCell ⟨g,p,none⟩ u) (fun k=>k < (w.setCell ⟨g,p,none⟩ u).heap.size∧k≠g) v l:=by
 refine (Rows.keep h (fun q hq=>?_)).mono fun _ hk=>⟨by simpa using hk.1,hk.2⟩
 exact Below.heap_setCell _ _ _ _ (fun e=>hq.2 e)
theorem infoN:(Tryz.prog.info? 68).map (fun i=>(i.zero,i.size,i.bytes))=some (some (.slice none 0 0),1,24):=by kernel_rfl
theorem make_nats (n:Nat) (hn:n≤100000) (w:World):(Instr.makeSlice 26 (.int .i64 n) (.int .i64 n)).run Tryz.prog w=.ok (.slice (some ⟨w.heap.size,0,none⟩) n n) (w.alloc (.cells (List.replicate n (Value.slice none 0 0)).toArray 68)):=by
 obtain ⟨i0,hi,hz0,hz1,hz2⟩:=info_parts infoN
 have h:=run_make (P:=Tryz.prog) w 26 68 i0 (.slice none 0 0) Tryz.underlying26 hi hz0 .i64 .i64 n n (by omega) (by omega) (by rw [hz2];omega) (by omega)
 rw [hz1] at h
 have e:(Value.slice none 0 0).cells=#[.slice none 0 0]:=rfl
 have e2:madeCells #[.slice none 0 0] n=(List.replicate n (Value.slice none 0 0)).toArray:=by
   refine Array.ext (by simp [size_madeCells]) fun i h1 h2=>?_
   simp [madeCells,Nat.mod_one]
 rw [e] at h
 simp only [Int.toNat_natCast,Nat.mul_one,e2] at h
 exact h
def StartSay (n:Nat) (v:List Nat) (w:World) (e:Ending) (w':World):Prop:=∃ g,e=.returned (.slice (some ⟨g,0,none⟩) n n)∧w.heap.size≤g∧ValsAt w' g n v∧Below w.heap.size w w'
set_option maxHeartbeats 4000000 in
theorem start_any (Av Ao Ar Ai:Option Addr) (nv cv no co nr cr ni ci:Nat) (k:Krn) (rows:List (List Nat)) (w:World) (hk:KernAt w (fun q=>q < w.heap.size) [.slice Av nv cv,.slice Ao no co,.slice Ar nr cr] k) (hc:checkK k=true) (hin:InsAt w Ai ni ci rows) (hni:ni≤100000) (hfit:fitsK k.vars rows=0) :
   Calls Tryz.prog 42 #[.agg #[.slice Av nv cv,.slice Ao no co,.slice Ar nr cr],.slice Ai ni ci] w (StartSay nv (startV k rows) w):=by
 obtain ⟨W,hW⟩:∃ W,W=w.alloc (.cells #[.slice Av nv cv,.slice Ao no co,.slice Ar nr cr] 25):=⟨_,rfl⟩
 have hb:Below w.heap.size w W:=by rw [hW];exact (Below.refl _ _).alloc (Nat.le_refl _) _
 have hbox:W.heap[w.heap.size]? = some (.cells #[.slice Av nv cv,.slice Ao no co,.slice Ar nr cr] 25 (0,0)):=by rw [hW];exact heap_alloc_new w _
 have hk2:KernAt W (fun k=>k < W.heap.size) [.slice Av nv cv,.slice Ao no co,.slice Ar nr cr] k:=kern_next hk hb
 have hkb:=kbox_of hbox hk2
 have HW:=Lh hW
 have HB:=Lh hb
 have HK:=Lh hkb
 have HNI:=Lh (hin.next hb)
 have HVK:=Lh (checkK_parts hc).1
 have hv256:=(varsK_len (checkK_parts hc).1).2
 have HCK:=Lh (fun (w1:World) (h1:Below W.heap.size W w1)=>rcheck_any Av Ao Ar nv cv no co nr cr k w1 _ (kern_next hk2 h1) (fun k hk=>hk) (by omega))
 rw [show errK k=0 by unfold errK;rw [hc];rfl] at HCK
 have HIN:=Lh (fun (w1:World) (h1:Below W.heap.size W w1)=>In_any Av Ao Ar nv cv no co nr cr k w1 (kern_next hk2 h1) hc)
 have HNV:=Lh hkb.nv.1
 have HNR:=Lh hin.us.len
 have c0:=hkb.c0
 have c1:=hkb.c1
 have c2:=hkb.c2
 have HFIT:=Lh hfit
 have HOK:=Lh (startJ_ok hfit)
 have hmk:=make_nats nv (by have:=HNV.out;omega) W
 have hbm:Below W.heap.size W (W.alloc (.cells (List.replicate nv (Value.slice none 0 0)).toArray 68)):=(Below.refl _ _).alloc (Nat.le_refl _) _
 obtain ⟨g,hg⟩:∃ g,g=W.heap.size:=⟨_,rfl⟩
 have HV0:=Lh (show ValsAt (W.alloc (.cells (List.replicate nv (Value.slice none 0 0)).toArray 68)) g nv (startJ k rows 0) from ⟨⟨List.replicate nv (Value.slice none 0 0),by simp,by rw [hg];exact heap_alloc_new W _,fun i c x h1 h2=>by
   have h1:=List.mem_of_getElem? h1
   rw [List.mem_replicate] at h1
   have h2:=List.mem_of_getElem? h2
   unfold startJ at h2
   rw [List.take_zero,List.foldl_nil,List.mem_replicate] at h2
   obtain ⟨_,rfl⟩:=h1
   obtain ⟨_,rfl⟩:=h2
   exact ⟨none,0,0,rfl,NumF.nil _ _⟩⟩,by unfold startJ;rw [List.take_zero,List.foldl_nil,List.length_replicate];exact HNV.out.symm⟩)
 clear hfit hW hb hbox hk2 hkb hk hc hin HCK
 go_enter Tryz.func42,Tryz.ntmps42
 go_upto_region 1 with go_in
 rw [←HW.out]
 clear HW
 go_upto_region 2 with (first | go_in)
 obtain ⟨W1,hW1⟩:∃ W1,W1=W.alloc (.cells (List.replicate nv (Value.slice none 0 0)).toArray 68):=⟨_,rfl⟩
 rw [←hW1] at HV0 hbm
 rw [show W.alloc (.cells (Array.replicate nv (Value.slice none 0 0)) 68)=W1 from by rw [hW1,List.toArray_replicate],←hg]
 have HG:=Lh hg
 have HBM:=Lh hbm
 clear c0 c1 c2 hmk hW1 hg hbm
 have c0:=(HK.out.next HBM.out).c0
 have c1:=(HK.out.next HBM.out).c1
 have c2:=(HK.out.next HBM.out).c2
 go_upto_region 3 with (first | ((with_reducible refine (HIN.out _ HBM.out).mono ?_);rintro e w2 ⟨Al,nl,cl,rfl,ho2,hn2,hb2⟩;have HO2:=Lh ho2;have HN2:=Lh hn2;have HB12:=Lh hb2;have HB2:=Lh (HBM.out.trans (hb2.mono HBM.out.size));clear ho2 hn2 hb2) | go_in)
 clear c0 c1 c2 HIN
 have hnl:nl≤256:=by have:=HN2.out;have:=pickTo_len givenK k.vars k.vars.length;omega
 have HNE:=Lh (show nl=ni by
   have h:=HFIT.out
   have h1:=HN2.out
   have h2:=HNR.out
   unfold fitsK at h
   split at h
   · cases h
   · rename_i h3
     rw [Decidable.not_not] at h3
     unfold inK at h3
     omega)
 have HNL:=Lh (show NumsAt w2 (fun q=>q < w2.heap.size∧q≠g) (.slice Al nl cl) (inK k.vars) from by
   have ho:=HO2.out
   rw [HN2.out] at ho
   rw [HN2.out]
   exact Rows.mono (nums_own ho) fun q hq=>⟨(own_lt ho q hq).1,by have h1:=(own_lt ho q hq).2;have h2:=HV0.out.lt;omega⟩)
 have HV2:=Lh (HV0.out.next HB12.out)
 clear HO2 HV0 HB12
 go_wp2
 go_loopw [7] (fun s7 wr=>∃ j:Nat,j≤nl∧s7=.int .i64 j∧ValsAt wr g nv (startJ k rows j)∧NumsAt wr (fun q=>q < wr.heap.size∧q≠g) (.slice Al nl cl) (inK k.vars)∧Below W.heap.size W wr) (fun s7 _=>nl - (intOf s7).toNat)
 case atStart=>exact ⟨0,Nat.zero_le _,rfl,HV2.out,HNL.out,HB2.out⟩
 case round =>
   obtain ⟨j,hj,rfl,hvj,hnlj,hup⟩:=hrel
   have HVJ:=Lh hvj
   have HNJ:=Lh hnlj
   have HUP:=Lh hup
   by_cases hlt:j < nl
   · have d1:decide (j < nl)=true:=decide_eq_true hlt
     obtain ⟨r,hr⟩:∃ r,rows[j]? = some r:=⟨_,List.getElem?_eq_getElem (by have:=HNR.out;have:=HNE.out;omega)⟩
     obtain ⟨x,hx⟩:∃ x,(inK k.vars)[j]? = some x:=⟨_,List.getElem?_eq_getElem (by have:=HN2.out;unfold inK;omega)⟩
     have HZ:=Lh (show ((inK k.vars).zip rows)[j]? = some (x,r) by rw [List.getElem?_zip_eq_some];exact ⟨hx,hr⟩)
     obtain ⟨bi,oi,Aj,mj,dj,hAi,hbi,p0,hnum⟩:=(HNI.out.next hup).get hr
     obtain ⟨bl,ol,hAl,hbl,q0⟩:=NumsAt.at_ hnlj hx
     have hxm:=pickTo_mem (List.mem_of_getElem? hx)
     obtain ⟨px,rfl⟩:∃ p:Nat,x=p:=⟨x.toNat,by omega⟩
     have HS1:=Lh (startJ_next HZ.out)
     have hle:(limbsOf (natV r)).length≤600:=by
       have h1:=(HOK.out (j+1)).lt (px:Int) (by omega) hxm.2.1
       rw [HS1.out] at h1
       rw [show getV ((startJ k rows j).set (px:Int).toNat (natV r)) (px:Int)=natV r from by rw [getV_set ⟨by omega,by rw [(HOK.out j).len];exact hxm.2.1⟩ (by omega),if_pos rfl]] at h1
       have h2:=(limb_pos HVK.out (x:=(px:Int)) ⟨by omega,by omega⟩).2.1
       exact Nat.le_trans (limbs_len_le h1) (by omega)
     have HLE:=Lh hle
     subst hAi;subst hAl
     obtain ⟨y,hy⟩:∃ y,(startJ k rows j)[px]? = some y:=⟨_,List.getElem?_eq_getElem (by rw [(HOK.out j).len];omega)⟩
     have HY:=Lh hy
     have HCL:=Lh (show ∀ w_,Below wr.heap.size wr w_→w_.cell? ⟨bi,oi+j,none⟩=some (.slice Aj mj dj)∧w_.cell? ⟨bl,ol+j,none⟩=some (.int .i64 (px:Int)) from fun w_ h=>⟨(h.cell (p:=⟨bi,_,none⟩) hbi).trans p0,(h.cell (p:=⟨bl,_,none⟩) hbl.1).trans q0⟩)
     have HT:=Lh (fun (w_:World) (h:Below wr.heap.size wr w_)=>tTrim (hnum.next h))
     have HGT:=Lh hvj.lt
     have i1:(0:Int)≤(j:Int):=by omega
     have i2:(j:Int) < (nl:Int):=by omega
     have i3:IntKind.i64.wrap (j:Int)=j:=by rw [IntKind.wrap_i64];omega
     have i4:(j:Int) < (ni:Int):=by have:=HNE.out;omega
     have i5:(0:Int)≤(px:Int):=by omega
     have i6:(px:Int) < (nv:Int):=by have:=HNV.out;omega
     have i7:IntKind.i64.wrap (px:Int)=px:=by rw [IntKind.wrap_i64];omega
     clear hr hx hbi p0 hnum hbl q0 hxm hvj hnlj hup hle hy
     go_upto_region 6 with (first | go_in)
     have hS:=(Below.refl wr.heap.size wr).drew
     (refine wp_region_lines (Below wr.heap.size wr) (by kernel_rfl) (by kernel_rfl) ((Below.refl wr.heap.size wr).drew) ?_)
     (try simp only [])
     repeat (first | (refine runL_no (by rfl) ?_;(try simp only [Act.put,List.setIfInBounds_toArray,List.set_cons_zero,List.set_cons_succ])) | (refine runL_val (v:=?_) (by rfl) ?_ ?_;rotate_left;(focus (intro w_ hw_;obtain ⟨f0_,f1_⟩:=HCL.out w_ hw_;go_simp;(try with_reducible rfl);done));(try simp only [Act.put,List.setIfInBounds_toArray,List.set_cons_zero,List.set_cons_succ])) | (refine runL_call (f:=?_) (args:=?_) (w1:=?_) (by rfl) (by rfl) ?_ ?_;rotate_left 3;(focus (go_simp;refine ⟨⟨?_,?_⟩,?_⟩ <;> with_reducible rfl));(with_reducible refine (HT.out _ hS).mono ?_);rintro e_ w9 ⟨A9,n9,c9,rfl,h9_,hn9_,ho9_,hb9_⟩;have HF9:=Lh (NumF.told ho9_ hn9_ (Nat.lt_of_lt_of_le HGT.out hS.size) HLE.out);replace hS:=hS.trans (hb9_.mono hS.size);clear h9_ hn9_ ho9_ hb9_;refine ⟨_,rfl,.inr hS,?_⟩;(try simp only [Act.put,List.setIfInBounds_toArray,List.set_cons_zero,List.set_cons_succ])) | (refine runL_skip (w1:=w9.setCell ⟨g,px,none⟩ (.slice A9 n9 c9)) (by rfl) (by rfl) (exec_store1 68 _ _ rfl g px (.slice A9 n9 c9) rfl rfl (by kernel_rfl) (by obtain ⟨A_,m_,d_,h1_,h2_,_⟩:=(HVJ.out.next hS).get HY.out;rw [h1_];rfl) (by obtain ⟨A_,m_,d_,h1_,h2_,_⟩:=(HVJ.out.next hS).get HY.out;exact h2_) rfl) (.inl ⟨rfl,by kernel_rfl⟩) ?_;(try simp only [Act.put])))
     (refine runL_nil ?_)
     have HV9:=Lh (show ValsAt (w9.setCell ⟨g,px,none⟩ (.slice A9 n9 c9)) g nv (startJ k rows (j+1)) from by rw [HS1.out];exact (HVJ.out.next hS).set HF9.out px)
     have HN9:=Lh (show NumsAt (w9.setCell ⟨g,px,none⟩ (.slice A9 n9 c9)) (fun q=>q < (w9.setCell ⟨g,px,none⟩ (.slice A9 n9 c9)).heap.size∧q≠g) (.slice (some ⟨bl,ol,none⟩) nl cl) (inK k.vars) from nums_free_put (nums_free_next HNJ.out hS))
     have HB9:=Lh (show Below W.heap.size W (w9.setCell ⟨g,px,none⟩ (.slice A9 n9 c9)) from Below.setCell (HUP.out.trans (hS.mono HUP.out.size)) (Nat.le_of_eq HG.out.symm) _)
     clear hS HF9
     generalize w9.setCell ⟨g,px,none⟩ (.slice A9 n9 c9)=W9 at *
     go_wp2
     go_roundw
     case rel=>exact ⟨j+1,hlt,by go_num,HV9.out,HN9.out,HB9.out⟩
     case measure=>simp [intOf];omega
   · have d1:decide (j < nl)=false:=decide_eq_false hlt
     have HX:=Lh (show startJ k rows j=startV k rows from startJ_all (by rw [List.length_zip];have:=HN2.out;unfold inK;omega))
     clear hvj hnlj hup
     go_wp2
     go_ret
     exact ⟨g,rfl,by have:=HB.out.size;have:=HG.out;omega,by rw [←HX.out];exact HVJ.out,HB.out.trans (HUP.out.mono HB.out.size)⟩
end Go.Proofs.YtjbabpnepjhllaaGreat
namespace Go.Proofs.YtjbabpnepjhllaaGreat
open Go.RowKit
def metK (k:Krn) (rows:List (List Nat)):Bool:=decide (fitsK k.vars rows=0) && k.reqs.all (fun o=>(needsF o).all (holdsF (startV k rows)))
theorem startV_ok {k:Krn} {rows:List (List Nat)} (hf:fitsK k.vars rows=0):ValOk k.vars (startV k rows):=by
 rw [←startJ_all (Nat.le_refl _)]
 exact startJ_ok hf _
theorem req_one {k:Krn} (hc:checkK k=true) {o:KOp} (ho:o∈k.reqs):∃ f,needsF o=[f]∧wellF k.vars.length f:=by
 have h:=(checkK_parts hc).2.2.2.1 o ho
 unfold reqK at h
 simp only [Bool.and_eq_true,beq_iff_eq] at h
 have hw:=well_needs (vs:=k.vars) (o:=o) (by unfold oneK;rw [if_pos h.1];exact h.2.1)
 unfold needK at h
 simp only [Bool.and_eq_true,beq_iff_eq] at h
 obtain ⟨h17,⟨_,_,_,_,h5⟩,_⟩:=h
 have key:∃ f,needsF o=[f]:=by
   unfold needsF
   rw [h17]
   by_cases h2:o.imm=2
   · exact ⟨lessF o.a o.b,by simp [h2]⟩
   · by_cases h1:o.imm=1
     · exact ⟨aloneF 1 o.a,by simp [h1]⟩
     · by_cases h3:o.imm=3
       · exact ⟨aloneF 3 o.a,by simp [h3]⟩
       · simp [h1,h2,h3] at h5
 obtain ⟨f,hf⟩:=key
 exact ⟨f,hf,hw f (by rw [hf];exact List.mem_singleton.2 rfl)⟩
theorem met_sat {k:Krn} {rows:List (List Nat)} (hc:checkK k=true) (hm:metK k rows=true):SatV (startV k rows) (startF k):=by
 intro f hf
 unfold startF at hf
 rw [if_pos hc,mem_sortF] at hf
 obtain ⟨l,hl,hfl⟩:=List.mem_flatten.1 hf.1
 obtain ⟨o,ho,rfl⟩:=List.mem_map.1 hl
 unfold metK at hm
 rw [Bool.and_eq_true] at hm
 exact List.all_eq_true.1 (List.all_eq_true.1 hm.2 o ho) f hfl
end Go.Proofs.YtjbabpnepjhllaaGreat
namespace Go.Proofs.YtjbabpnepjhllaaGreat
open Go.RowKit
def capS:Nat:=1099511627776
def stF (ops:List KOp) (E:Nat→Nat):Nat→Nat→Nat→Nat→Nat
 | 0,_,_,n=>n
 | fu+1,i,till,n =>
   if till≤i then n else
   let o:=ops.getD i ⟨0,0,0,0,0,0,0⟩
   if o.kind=15 then stF ops E fu (E i+1) till (min (n+o.imm*(1+stF ops E fu (i+1) (E i) 0)) capS)
   else stF ops E fu (i+1) till (min (n+1) capS)
theorem stF_le (ops:List KOp) (E:Nat→Nat):∀ fu i till n,n≤capS→stF ops E fu i till n≤capS:=by
 intro fu
 induction fu with
 | zero=>intro i till n h;exact h
 | succ fu ih =>
   intro i till n h
   unfold stF
   split
   · exact h
   · dsimp only
     split
     · exact ih _ _ _ (Nat.min_le_right _ _)
     · exact ih _ _ _ (Nat.min_le_right _ _)
theorem stF_end {ops:List KOp} {E:Nat→Nat} {fu i till n:Nat} (h:till≤i):stF ops E fu i till n=n:=by
 cases fu with
 | zero=>rfl
 | succ fu=>unfold stF;rw [if_pos h]
def loopAt (ops:List KOp) (j:Nat):Prop:=(ops.getD j ⟨0,0,0,0,0,0,0⟩).kind=15
theorem stF_loop {ops:List KOp} {E:Nat→Nat} {fu i till n:Nat} (h:i < till) (h15:loopAt ops i):stF ops E (fu+1) i till n=stF ops E fu (E i+1) till (min (n+(ops.getD i ⟨0,0,0,0,0,0,0⟩).imm*(1+stF ops E fu (i+1) (E i) 0)) capS):=by
 rw [stF,if_neg (by omega)]
 dsimp only
 exact if_pos h15
theorem stF_one {ops:List KOp} {E:Nat→Nat} {fu i till n:Nat} (h:i < till) (h15:¬ loopAt ops i):stF ops E (fu+1) i till n=stF ops E fu (i+1) till (min (n+1) capS):=by
 rw [stF,if_neg (by omega)]
 dsimp only
 exact if_neg h15
def endN (ops:List KOp) (j:Nat):Nat:=((kEnds ops).getD j 0).toNat
def stepsK (k:Krn):Nat:=if checkK k then stF k.ops (endN k.ops) k.ops.length 0 k.ops.length 0 else 0
end Go.Proofs.YtjbabpnepjhllaaGreat
namespace Go.Proofs.YtjbabpnepjhllaaGreat
open Go.RowKit
set_option maxRecDepth 100000
set_option maxHeartbeats 8000000 in
theorem steps_any (Av Ao Ar Ae:Option Addr) (nv cv no co nr cr ne ce:Nat) (k:Krn) (HK0:DoK k):∀ (m i0 t fu:Nat) (w:World),t - i0≤m→m≤fu→LiveK k.ops i0 t→KernAt w (fun q=>q < w.heap.size) [.slice Av nv cv,.slice Ao no co,.slice Ar nr cr] k→NumsAt w (fun q=>q < w.heap.size) (.slice Ae ne ce) (kEnds k.ops) →
   Calls Tryz.prog 36 #[.agg #[.slice Av nv cv,.slice Ao no co,.slice Ar nr cr],.slice Ae ne ce,.int .i64 i0,.int .i64 t] w fun e w'=>e=.returned (.int .i64 (stF k.ops (endN k.ops) fu i0 t 0:Nat))∧Below w.heap.size w w':=by
 intro m
 induction m using Nat.strongRecOn with
 | ind m ih =>
   intro i0 t fu w hm hfu hL hk hends
   obtain ⟨W,hW⟩:∃ W,W=w.alloc (.cells #[.slice Av nv cv,.slice Ao no co,.slice Ar nr cr] 25):=⟨_,rfl⟩
   have hb:Below w.heap.size w W:=by rw [hW];exact (Below.refl _ _).alloc (Nat.le_refl _) _
   have hbox:W.heap[w.heap.size]? = some (.cells #[.slice Av nv cv,.slice Ao no co,.slice Ar nr cr] 25 (0,0)):=by rw [hW];exact heap_alloc_new w _
   have hk2:KernAt W (fun k=>k < W.heap.size) [.slice Av nv cv,.slice Ao no co,.slice Ar nr cr] k:=kern_next hk hb
   have hkb:=kbox_of hbox hk2
   have HW:=Lh hW
   have HB:=Lh hb
   have HK:=Lh hkb
   have HE:=Lh (show NumsAt W (fun q=>q < W.heap.size) (.slice Ae ne ce) (kEnds k.ops) from rows_next hends hb)
   have HL:=Lh hL
   have HM:=Lh (And.intro hm hfu)
   have HIH:=Lh ih
   have HK1:=Lh HK0
   have HNO:=Lh hkb.nv.2.1
   have HK2:=Lh hk2
   have hi0:i0≤4096:=by have:=hL.le;have:=hL.len;have:=HK0.len;omega
   have ht0:t≤4096:=by have:=hL.len;have:=HK0.len;omega
   clear hW hb hbox hk2 hkb hk hends hL hm hfu ih HK0
   go_enter Tryz.func36,Tryz.ntmps36
   go_upto_region 1 with go_in
   rw [←HW.out]
   clear HW
   go_wp2
   go_loopw [9,10] (fun s9 s10 wr=>∃ (i n f1:Nat),i0≤i∧i≤4097∧s10=.int .i64 i∧s9=.int .i64 n∧n≤capS∧t - i≤f1∧stF k.ops (endN k.ops) f1 i t n=stF k.ops (endN k.ops) fu i0 t 0∧LiveK k.ops i t∧Below W.heap.size W wr) (fun _ s10 _=>t - (intOf s10).toNat)
   case atStart=>exact ⟨i0,0,fu,Nat.le_refl _,by omega,rfl,rfl,by decide,by have:=HM.out;omega,rfl,HL.out,Below.refl _ _⟩
   case round =>
     obtain ⟨i,n,f1,hi1,hi2,rfl,rfl,hn,hf1,hst,hL1,hup⟩:=hrel
     have HN:=Lh (And.intro hn (And.intro hf1 hst))
     have HI:=Lh (And.intro hi1 hi2)
     have HL1:=Lh hL1
     have HUP:=Lh hup
     have c0:=(HK.out.next hup).c0
     have c1:=(HK.out.next hup).c1
     have c2:=(HK.out.next hup).c2
     by_cases hlt:i < t
     rotate_left
     · have d1:decide (i < t)=false:=decide_eq_false hlt
       have HX:=Lh (show stF k.ops (endN k.ops) fu i0 t 0=n by rw [←hst,stF_end (by omega)])
       clear hi1 hi2 hn hf1 hst hL1 hup hlt
       go_wp2
       go_ret
       exact ⟨by rw [HX.out];rfl,HB.out.trans (HUP.out.mono HB.out.size)⟩
     have d1:decide (i < t)=true:=decide_eq_true hlt
     obtain ⟨o,ho⟩:∃ o,k.ops[i]? = some o:=⟨_,List.getElem?_eq_getElem (by have:=hL1.len;omega)⟩
     have hd:k.ops.getD i ⟨0,0,0,0,0,0,0⟩=o:=by rw [List.getD_eq_getElem?_getD,ho];rfl
     obtain ⟨gg,off,hA,hgg,x0,x1_,x2,x3,x4,x5,x6⟩:=KOpsAt.at_ (HK.out.next hup).ops ho
     subst hA
     have j1:(0:Int)≤(i:Int):=by omega
     have j2:(i:Int) < (no:Int):=by have:=HNO.out;have:=(List.getElem?_eq_some_iff.1 ho).1;omega
     have j3:IntKind.i64.wrap (i:Int)=i:=by rw [IntKind.wrap_i64];omega
     obtain ⟨f2,rfl⟩:∃ f2,f1=f2+1:=⟨f1 - 1,by omega⟩
     by_cases h15:o.kind=15
     · have e15:(o.kind == 15)=true:=beq_iff_eq.2 h15
       obtain ⟨e,he,hie,het,hLb,hLe,_⟩:=hL1.loop HK1.out.bal hlt ho h15
       have him:o.imm≤4096:=by
         have h1:=HK1.out.one i o ho
         unfold oneK at h1
         rw [if_neg (by omega)] at h1
         simp only [Bool.and_eq_true] at h1
         have h2:=h1.2.2.1
         unfold numK at h2
         rw [if_neg (by omega),if_neg (by omega),if_pos h15] at h2
         simp only [Bool.and_eq_true,decide_eq_true_eq] at h2
         exact h2.2
       have hen:endN k.ops i=e:=by unfold endN;rw [he];rfl
       obtain ⟨x,hx⟩:∃ x,x=stF k.ops (endN k.ops) f2 (i+1) e 0:=⟨_,rfl⟩
       have hxl:x≤1099511627776:=by rw [hx];exact stF_le _ _ _ _ _ _ (by decide)
       have HS:=Lh (show stF k.ops (endN k.ops) f2 (e+1) t (min (n+o.imm*(1+x)) capS)=stF k.ops (endN k.ops) fu i0 t 0 by rw [←hst,stF_loop hlt (by unfold loopAt;rw [hd];exact h15),hd,hen,←hx])
       have HXE:=Lh hx
       have hget:(kEnds k.ops)[i]? = some (e:Int):=by
         have hl:i < (kEnds k.ops).length:=by unfold kEnds;rw [kTo_len];exact (List.getElem?_eq_some_iff.1 ho).1
         rw [List.getD_eq_getElem?_getD,List.getElem?_eq_getElem hl] at he
         rw [List.getElem?_eq_getElem hl]
         simpa using he
       have hends:=rows_next HE.out hup
       have hne:=(rows_len hends).1
       obtain ⟨ge,oe,hAe,hge,y0⟩:=NumsAt.at_ hends hget
       subst hAe
       have hie2:(i:Int) < (ne:Int):=by have:=(List.getElem?_eq_some_iff.1 hget).1;omega
       obtain ⟨iq,hp1⟩:∃ iq,iq=i+1:=⟨_,rfl⟩
       have i4:IntKind.i64.wrap ((i:Int)+1)=(iq:Int):=by rw [IntKind.wrap_i64];omega
       have i5:IntKind.i64.wrap ((e:Int)+1)=((e+1:Nat):Int):=by rw [IntKind.wrap_i64];omega
       have i6:IntKind.i64.wrap (o.imm:Int)=(o.imm:Int):=by rw [IntKind.wrap_i64];omega
       obtain ⟨x1,hx1⟩:∃ x1,x1=1+x:=⟨_,rfl⟩
       have i7:IntKind.i64.wrap (1+(x:Int))=(x1:Int):=by rw [IntKind.wrap_i64];omega
       rw [←hx1] at HS
       have hx1l:x1≤1099511627777:=by omega
       obtain ⟨y,hy⟩:∃ y,y=o.imm*x1:=⟨_,rfl⟩
       have hyl:y≤4096*1099511627777:=by rw [hy];exact Nat.mul_le_mul him hx1l
       have i8:IntKind.i64.wrap ((o.imm:Int)*(x1:Int))=(y:Int):=by rw [←Int.natCast_mul,←hy,IntKind.wrap_i64];omega
       rw [←hy] at HS
       have hn2:n≤1099511627776:=hn
       obtain ⟨z,hz⟩:∃ z,z=n+y:=⟨_,rfl⟩
       have i9:IntKind.i64.wrap ((n:Int)+(y:Int))=(z:Int):=by rw [IntKind.wrap_i64];omega
       rw [←hz] at HS
       have HMN:=Lh (show min (z:Int) 1099511627776=((min z capS:Nat):Int) by unfold capS;omega)
       have HCALL:=Lh (fun (w_:World) (h:Below wr.heap.size wr w_)=>show Calls Tryz.prog 36 #[.agg #[.slice Av nv cv,.slice (some ⟨gg,off,none⟩) no co,.slice Ar nr cr],.slice (some ⟨ge,oe,none⟩) ne ce,.int .i64 iq,.int .i64 e] w_ fun e w'=>e=.returned (.int .i64 (x:Nat))∧Below w_.heap.size w_ w' from by
         have hu:=HUP.out.trans (h.mono HUP.out.size)
         have:=HIH.out (e - iq) (by have:=HM.out;have:=HI.out;omega) iq e f2 w_ (Nat.le_refl _) (by have:=HN.out;omega) (by rw [hp1];exact hLb) (kern_next HK2.out hu) (rows_next HE.out hu)
         rw [hp1,←HXE.out] at this
         rw [hp1]
         exact this)
       have HCL:=Lh (show ∀ w_,Below wr.heap.size wr w_→(w_.cell? ⟨w.heap.size,0,none⟩=some (.slice Av nv cv)∧w_.cell? ⟨w.heap.size,1,none⟩=some (.slice (some ⟨gg,off,none⟩) no co)∧w_.cell? ⟨w.heap.size,2,none⟩=some (.slice Ar nr cr))∧w_.cell? ⟨gg,off+i*7+6,none⟩=some (.int .u64 o.imm)∧w_.cell? ⟨ge,oe+i,none⟩=some (.int .i64 (e:Int)) from fun w_ h=>by
         have h1:=HK.out.next (HUP.out.trans (h.mono HUP.out.size))
         exact ⟨⟨h1.c0,h1.c1,h1.c2⟩,(h.cell (p:=⟨gg,_,none⟩) hgg).trans x6,(h.cell (p:=⟨ge,_,none⟩) hge).trans y0⟩)
       have HLB:=Lh (And.intro hLe (And.intro hie het))
       clear hd h15 he hLb hLe him hen hx hxl hget hends hne hge hx1 hx1l hy hyl hn2 hz hi1 hi2 hn hf1 hst hL1 hup ho hgg hp1 hie het
       go_upto_region 6 with (first | go_in)
       clear c0 c1 c2 x0 x1_ x2 x3 x4 x5 x6 y0
       have hS:=(Below.refl wr.heap.size wr).drew
       (refine wp_region_lines (Below wr.heap.size wr) (by kernel_rfl) (by kernel_rfl) ((Below.refl wr.heap.size wr).drew) ?_)
       (try simp only [])
       repeat (first | (refine runL_no (by rfl) ?_;(try simp only [Act.put,List.setIfInBounds_toArray,List.set_cons_zero,List.set_cons_succ])) | (refine runL_val (v:=?_) (by rfl) ?_ ?_;rotate_left;(focus (intro w_ hw_;obtain ⟨⟨f0_,f1_,f2_⟩,f3_,f4_⟩:=HCL.out w_ hw_;go_simp;(try with_reducible rfl);done));(try simp only [Act.put,List.setIfInBounds_toArray,List.set_cons_zero,List.set_cons_succ])) | (refine runL_call (f:=?_) (args:=?_) (w1:=?_) (by rfl) (by rfl) ?_ ?_;rotate_left 3;(focus (go_simp;refine ⟨⟨?_,?_⟩,?_⟩ <;> with_reducible rfl));(with_reducible refine (HCALL.out _ hS).mono ?_);rintro e_ w5 ⟨rfl,hb5⟩;replace hS:=hS.trans (hb5.mono hS.size);clear hb5;refine ⟨_,rfl,.inr hS,?_⟩;(try simp only [Act.put,List.setIfInBounds_toArray,List.set_cons_zero,List.set_cons_succ])))
       (refine runL_nil ?_)
       have HSB:=Lh hS
       clear hS
       have y0:=(HCL.out _ HSB.out).2.2
       go_wp2
       go_roundw
       case rel=>exact ⟨e+1,min z capS,f2,by have:=HI.out;have:=HLB.out.2;omega,by have:=HLB.out.2;omega,by go_num,by rw [←HMN.out],Nat.min_le_right _ _,by have:=HN.out;have:=HLB.out.2;omega,HS.out,HLB.out.1,HUP.out.trans (HSB.out.mono HUP.out.size)⟩
       case measure=>simp [intOf];have:=HLB.out.2;omega
     have e15:(o.kind == 15)=false:=beq_eq_false_iff_ne.2 h15
     have HLX:=Lh (hL1.op HK1.out.bal hlt ho h15).2
     have HS:=Lh (show stF k.ops (endN k.ops) f2 (i+1) t (min (n+1) capS)=stF k.ops (endN k.ops) fu i0 t 0 by rw [←hst,stF_one hlt (by unfold loopAt;rw [hd];exact h15)])
     have hn2:n≤1099511627776:=hn
     have i4:IntKind.i64.wrap ((n:Int)+1)=((n+1:Nat):Int):=by rw [IntKind.wrap_i64];omega
     have i5:IntKind.i64.wrap ((i:Int)+1)=((i+1:Nat):Int):=by rw [IntKind.wrap_i64];omega
     obtain ⟨n2,hn3⟩:∃ n2,n2=n+1:=⟨_,rfl⟩
     rw [←hn3] at HS i4
     have HN3:=Lh hn3
     clear hi1 hi2 hn hf1 hst hL1 hup ho hd hgg h15 hn2 hn3
     have HMN:=Lh (show min (n2:Int) 1099511627776=((min n2 capS:Nat):Int) by unfold capS;omega)
     go_wp2
     go_roundw
     case rel=>exact ⟨i+1,min n2 capS,f2,by have:=HI.out;omega,by omega,by go_num,by rw [←HMN.out],Nat.min_le_right _ _,by have:=HN.out;omega,HS.out,HLX.out,HUP.out⟩
     case measure=>simp [intOf];omega
end Go.Proofs.YtjbabpnepjhllaaGreat
namespace Go.Proofs.YtjbabpnepjhllaaGreat
open Go.RowKit
set_option maxRecDepth 100000
theorem doK_of {k:Krn} (hc:checkK k=true) (hok:∀ o∈k.ops,KOpOk o):DoK k:=⟨check_bal hc,(checkK_parts hc).1,fun _ _ ho=>opsK_one (checkK_parts hc).2.2.2.2 ho,hok,(checkK_parts hc).2.1⟩
set_option maxHeartbeats 4000000 in
theorem Steps_any (Av Ao Ar:Option Addr) (nv cv no co nr cr:Nat) (k:Krn) (w:World) (hk:KernAt w (fun q=>q < w.heap.size) [.slice Av nv cv,.slice Ao no co,.slice Ar nr cr] k) (hc:checkK k=true) (hok:∀ o∈k.ops,KOpOk o) :
   Calls Tryz.prog 12 #[.agg #[.slice Av nv cv,.slice Ao no co,.slice Ar nr cr]] w fun e w'=>e=.returned (.int .i64 (stepsK k:Nat))∧Below w.heap.size w w':=by
 obtain ⟨W,hW⟩:∃ W,W=w.alloc (.cells #[.slice Av nv cv,.slice Ao no co,.slice Ar nr cr] 25):=⟨_,rfl⟩
 have hb:Below w.heap.size w W:=by rw [hW];exact (Below.refl _ _).alloc (Nat.le_refl _) _
 have hbox:W.heap[w.heap.size]? = some (.cells #[.slice Av nv cv,.slice Ao no co,.slice Ar nr cr] 25 (0,0)):=by rw [hW];exact heap_alloc_new w _
 have hk2:KernAt W (fun k=>k < W.heap.size) [.slice Av nv cv,.slice Ao no co,.slice Ar nr cr] k:=kern_next hk hb
 have hkb:=kbox_of hbox hk2
 have hv256:=(varsK_len (checkK_parts hc).1).2
 have hno:=hkb.nv.2.1
 obtain ⟨X,hX⟩:∃ X,X=stepsK k:=⟨_,rfl⟩
 have hXe:stF k.ops (endN k.ops) no 0 no 0=X:=by
   rw [hX,hno]
   unfold stepsK
   rw [if_pos hc]
 have HCK:=Lh (fun (w1:World) (h1:Below W.heap.size W w1)=>rcheck_any Av Ao Ar nv cv no co nr cr k w1 _ (kern_next hk2 h1) (fun k hk=>hk) (by omega))
 rw [show errK k=0 by unfold errK;rw [hc];rfl] at HCK
 have HEN:=Lh (fun (w1:World) (h1:Below W.heap.size W w1)=>rends_any Av Ao Ar nv cv no co nr cr k w1 _ (kern_next hk2 h1) (fun k hk=>hk) (by omega) hc)
 have HST:=Lh (fun (w1:World) (h1:Below W.heap.size W w1) (Ae:Option Addr) (ne ce:Nat) (he:NumsAt w1 (fun q=>q < w1.heap.size) (.slice Ae ne ce) (kEnds k.ops))=>show Calls Tryz.prog 36 #[.agg #[.slice Av nv cv,.slice Ao no co,.slice Ar nr cr],.slice Ae ne ce,.int .i64 0,.int .i64 no] w1 fun e w'=>e=.returned (.int .i64 (X:Nat))∧Below w1.heap.size w1 w' from by
   have h:=steps_any Av Ao Ar Ae nv cv no co nr cr ne ce k (doK_of hc hok) no 0 no no w1 (by omega) (Nat.le_refl _) (by rw [hno];exact live_all k) (kern_next hk2 h1) he
   rw [hXe] at h
   exact h)
 have HW:=Lh hW
 have HB:=Lh hb
 have HK:=Lh hkb
 have c0:=hkb.c0
 have c1:=hkb.c1
 have c2:=hkb.c2
 have HX:=Lh hX
 clear hW hb hbox hk2 hkb hk hc hok hv256 hno hXe hX
 go_enter Tryz.func12,Tryz.ntmps12
 go_upto_region 1 with go_in
 rw [←HW.out]
 clear HW
 go_upto_region 3 with (first | ((with_reducible refine (HCK.out _ (Below.refl _ _)).mono ?_);rintro e w1 ⟨rfl,hb1⟩;have HB1:=Lh hb1;clear hb1 c0 c1 c2) | go_in)
 have hS:Below W.heap.size W w1.drew:=HB1.out.drew
 (refine wp_region_lines (Below W.heap.size W) (by kernel_rfl) (by kernel_rfl) (HB1.out.drew) ?_)
 (try simp only [])
 repeat (first | (refine runL_no (by rfl) ?_;(try simp only [Act.put,List.setIfInBounds_toArray,List.set_cons_zero,List.set_cons_succ])) | (refine runL_val (v:=?_) (by rfl) ?_ ?_;rotate_left;(focus (intro w_ hw_;obtain ⟨f0_,f1_,f2_⟩:=(And.intro (HK.out.next hw_).c0 (And.intro (HK.out.next hw_).c1 (HK.out.next hw_).c2));go_simp;(try with_reducible rfl);done));(try simp only [Act.put,List.setIfInBounds_toArray,List.set_cons_zero,List.set_cons_succ])) | (refine runL_call (f:=?_) (args:=?_) (w1:=?_) (by rfl) (by rfl) ?_ ?_;rotate_left 3;(focus (go_simp;refine ⟨⟨?_,?_⟩,?_⟩ <;> with_reducible rfl));(with_reducible refine (HEN.out _ hS).mono ?_);rintro e_ w5 ⟨Ae,ne,ce,rfl,he5,hb5⟩;have HE5:=Lh he5;replace hS:=hS.trans (hb5.mono hS.size);clear he5 hb5;refine ⟨_,rfl,.inr hS,?_⟩;(try simp only [Act.put,List.setIfInBounds_toArray,List.set_cons_zero,List.set_cons_succ])) | (refine runL_call (f:=?_) (args:=?_) (w1:=?_) (by rfl) (by rfl) ?_ ?_;rotate_left 3;(focus (go_simp;refine ⟨⟨?_,?_⟩,?_⟩ <;> with_reducible rfl));(with_reducible refine (HST.out _ hS Ae ne ce HE5.out).mono ?_);rintro e_ w6 ⟨rfl,hb6⟩;replace hS:=hS.trans (hb6.mono hS.size);clear hb6;refine ⟨_,rfl,.inr hS,?_⟩;(try simp only [Act.put,List.setIfInBounds_toArray,List.set_cons_zero,List.set_cons_succ])))
 (refine runL_nil ?_)
 have HS:=Lh hS
 clear hS
 go_wp2
 go_ret
 exact ⟨by rw [HX.out];rfl,HB.out.trans (HS.out.mono HB.out.size)⟩
end Go.Proofs.YtjbabpnepjhllaaGreat
namespace Go.Proofs.YtjbabpnepjhllaaGreat
open Go.RowKit
set_option maxRecDepth 100000
set_option maxHeartbeats 4000000 in
theorem Met_any (Av Ao Ar Ai:Option Addr) (nv cv no co nr cr ni ci:Nat) (k:Krn) (rows:List (List Nat)) (w:World) (hk:KernAt w (fun q=>q < w.heap.size) [.slice Av nv cv,.slice Ao no co,.slice Ar nr cr] k) (hc:checkK k=true) (hin:InsAt w Ai ni ci rows) (hni:ni≤100000) :
   Calls Tryz.prog 15 #[.agg #[.slice Av nv cv,.slice Ao no co,.slice Ar nr cr],.slice Ai ni ci] w fun e w'=>e=.returned (.bool (metK k rows))∧Below w.heap.size w w':=by
 obtain ⟨W,hW⟩:∃ W,W=w.alloc (.cells #[.slice Av nv cv,.slice Ao no co,.slice Ar nr cr] 25):=⟨_,rfl⟩
 have hb:Below w.heap.size w W:=by rw [hW];exact (Below.refl _ _).alloc (Nat.le_refl _) _
 have hbox:W.heap[w.heap.size]? = some (.cells #[.slice Av nv cv,.slice Ao no co,.slice Ar nr cr] 25 (0,0)):=by rw [hW];exact heap_alloc_new w _
 have hk2:KernAt W (fun k=>k < W.heap.size) [.slice Av nv cv,.slice Ao no co,.slice Ar nr cr] k:=kern_next hk hb
 have hkb:=kbox_of hbox hk2
 have HW:=Lh hW
 have HB:=Lh hb
 have HK:=Lh hkb
 have HNI:=Lh (hin.next hb)
 have HVK:=Lh (checkK_parts hc).1
 have hv256:=(varsK_len (checkK_parts hc).1).2
 have HCK:=Lh (fun (w1:World) (h1:Below W.heap.size W w1)=>rcheck_any Av Ao Ar nv cv no co nr cr k w1 _ (kern_next hk2 h1) (fun k hk=>hk) (by omega))
 rw [show errK k=0 by unfold errK;rw [hc];rfl] at HCK
 have HIN:=Lh (fun (w1:World) (h1:Below W.heap.size W w1)=>In_any Av Ao Ar nv cv no co nr cr k w1 (kern_next hk2 h1) hc)
 have HNV:=Lh hkb.nv.1
 have HNR:=Lh hin.us.len
 have c0:=hkb.c0
 have c1:=hkb.c1
 have c2:=hkb.c2
 have HFT:=Lh (Fits_any Av Ao Ar Ai nv cv no co nr cr ni ci k rows W hk2 hc (hin.next hb) hni)
 have HST:=Lh (fun (w1:World) (h1:Below W.heap.size W w1) (hf:fitsK k.vars rows=0)=>start_any Av Ao Ar Ai nv cv no co nr cr ni ci k rows w1 (kern_next hk2 h1) hc ((hin.next hb).next h1) hni hf)
 have HNRR:=Lh hkb.nv.2.2
 have HCC:=Lh hc
 obtain ⟨ft,hft⟩:∃ ft,ft=fitsK k.vars rows:=⟨_,rfl⟩
 rw [←hft] at HFT
 have HFE:=Lh hft
 clear hW hb hbox hk2 hkb hk hc hin HCK HIN hft
 go_enter Tryz.func15,Tryz.ntmps15
 go_upto_region 1 with go_in
 rw [←HW.out]
 clear HW
 by_cases hz:ft=0
 rotate_left
 · have d0:(ft != 0)=true:=by rw [bne_iff_ne];exact hz
   have HX:=Lh (show metK k rows=false by unfold metK;rw [decide_eq_false (by rw [←HFE.out];exact hz)];rfl)
   clear hz
   go_wp2_with (first | ((with_reducible refine HFT.out.mono ?_);rintro e w1 ⟨rfl,hb1⟩;have HB1:=Lh hb1;clear hb1) | go_in)
   go_ret
   exact ⟨by rw [HX.out];rfl,HB.out.trans (HB1.out.mono HB.out.size)⟩
 subst hz
 have HF0:=Lh (HFE.out.symm)
 clear HFE
 go_upto_region 3 with (first | ((with_reducible refine HFT.out.mono ?_);rintro e w1 ⟨rfl,hb1⟩;have HB1:=Lh hb1;clear hb1 c0 c1 c2) | go_in)
 have c0:=(HK.out.next HB1.out).c0
 have c1:=(HK.out.next HB1.out).c1
 have c2:=(HK.out.next HB1.out).c2
 go_upto_region 4 with (first | ((with_reducible refine (HST.out _ HB1.out HF0.out).mono ?_);rintro e w2 ⟨g,rfl,hg,hv2,hb2⟩;have HV2:=Lh hv2;have HB2:=Lh (HB1.out.trans (hb2.mono HB1.out.size));clear hg hv2 hb2) | go_in)
 clear c0 c1 c2 HFT HST HB1
 go_wp2
 go_loopw [6] (fun s6 wr=>∃ j:Nat,j≤nr∧s6=.int .i64 j∧(∀ (i:Nat) (o:KOp),i < j→k.reqs[i]? = some o→(needsF o).all (holdsF (startV k rows))=true)∧Below w2.heap.size w2 wr) (fun s6 _=>nr - (intOf s6).toNat)
 case atStart=>exact ⟨0,Nat.zero_le _,rfl,fun i p h=>absurd h (by omega),Below.refl _ _⟩
 case round =>
   obtain ⟨j,hj,rfl,hall,hbr⟩:=hrel
   have HALL:=Lh hall
   have HBR:=Lh hbr
   have hup:=HB2.out.trans (hbr.mono HB2.out.size)
   have HUP:=Lh hup
   have c0:=(HK.out.next hup).c0
   have c1:=(HK.out.next hup).c1
   have c2:=(HK.out.next hup).c2
   have hnr2:nr≤4096:=by have:=HNRR.out;have:=(checkK_parts HCC.out).2.2.1;omega
   by_cases hlt:j < nr
   · have d1:decide (j < nr)=true:=decide_eq_true hlt
     obtain ⟨o,ho⟩:∃ o,k.reqs[j]? = some o:=⟨_,List.getElem?_eq_getElem (by have:=HNRR.out;omega)⟩
     have HO:=Lh ho
     obtain ⟨f,hf1,hfw⟩:=req_one HCC.out (List.mem_of_getElem? ho)
     obtain ⟨gg,off,hA,hgg,x0,x1,x2,x3,x4,x5,x6⟩:=KOpsAt.at_ (HK.out.next hup).reqs ho
     subst hA
     have HF1:=Lh hf1
     have HRN:=Lh (fun w_=>show Calls Tryz.prog 16 #[.agg #[.int .i64 o.kind,.int .i64 o.d,.int .i64 o.e,.int .i64 o.a,.int .i64 o.b,.int .i64 o.c,.int .u64 o.imm]] w_ (SortedSays w_.heap.size [f] w_) from hf1▸RNeeds_any o w_)
     have HVR:=Lh (HV2.out.next hbr)
     have HHO:=Lh (fun (w_:World) (h:Below wr.heap.size wr w_)=>Holds_any f g nv (startV k rows) w_ (HVR.out.next h) (by rw [HNV.out];exact hfw) (by have:=HNV.out;omega))
     have i1:(0:Int)≤(j:Int):=by omega
     have i2:(j:Int) < (nr:Int):=by omega
     have i3:IntKind.i64.wrap (j:Int)=j:=by rw [IntKind.wrap_i64];omega
     clear ho hf1 hfw hgg hall hbr hup
     cases hh:holdsF (startV k rows) f
     · rw [hh] at HHO
       have HX:=Lh (show metK k rows=false by
         unfold metK
         rw [Bool.and_eq_false_iff]
         refine .inr ?_
         cases h:k.reqs.all (fun o=>(needsF o).all (holdsF (startV k rows)))
         · rfl
         · have:=List.all_eq_true.1 h o (List.mem_of_getElem? HO.out)
           rw [HF1.out] at this
           simp only [List.all_cons,List.all_nil,Bool.and_true] at this
           rw [hh] at this;cases this)
       clear hh
       go_wp2_with (first | ((with_reducible refine (HRN.out _).mono ?_);rintro e_ w4 ⟨jT,rfl,ho4,hb4⟩;obtain ⟨An,cn,rfl⟩:=own_form ho4;obtain ⟨bn,on,hAn,_,z0,z1,z2⟩:=FactsAt.at_ (k:=0) (x:=f) (facts_own ho4) rfl;subst hAn;rw [Nat.zero_mul,Nat.add_zero] at z0 z1 z2;have HB4:=Lh hb4;clear ho4 hb4 c0 c1 c2) | ((with_reducible refine (HHO.out _ HB4.out).mono ?_);rintro e_ w5 ⟨rfl,hb5⟩;have HB5:=Lh (HB4.out.trans (hb5.mono HB4.out.size));clear hb5) | go_in)
       go_ret
       exact ⟨by rw [HX.out];rfl,HB.out.trans ((HUP.out.trans (HB5.out.mono HUP.out.size)).mono HB.out.size)⟩
     · rw [hh] at HHO
       have HHH:=Lh hh
       clear hh
       go_wp2_with (first | ((with_reducible refine (HRN.out _).mono ?_);rintro e_ w4 ⟨jT,rfl,ho4,hb4⟩;obtain ⟨An,cn,rfl⟩:=own_form ho4;obtain ⟨bn,on,hAn,_,z0,z1,z2⟩:=FactsAt.at_ (k:=0) (x:=f) (facts_own ho4) rfl;subst hAn;rw [Nat.zero_mul,Nat.add_zero] at z0 z1 z2;have HB4:=Lh hb4;clear ho4 hb4 c0 c1 c2) | ((with_reducible refine (HHO.out _ HB4.out).mono ?_);rintro e_ w5 ⟨rfl,hb5⟩;have HB5:=Lh (HB4.out.trans (hb5.mono HB4.out.size));clear hb5) | go_in)
       go_roundw
       case rel =>
         refine ⟨j+1,hlt,by go_num,fun i p h1 h2=>?_,HBR.out.trans (HB5.out.mono HBR.out.size)⟩
         rcases Nat.lt_or_ge i j with h3 | h3
         · exact HALL.out i p h3 h2
         · obtain rfl:i=j:=by omega
           rw [HO.out] at h2;cases h2
           rw [HF1.out]
           simp only [List.all_cons,List.all_nil,Bool.and_true]
           exact HHH.out
       case measure=>simp [intOf];omega
   · have d1:decide (j < nr)=false:=decide_eq_false hlt
     have HX:=Lh (show metK k rows=true by
       unfold metK
       rw [decide_eq_true HF0.out,Bool.true_and]
       refine List.all_eq_true.2 fun o ho=>?_
       obtain ⟨i,hi,e⟩:=List.getElem_of_mem ho
       exact HALL.out i o (by have:=HNRR.out;omega) (by rw [←e];exact List.getElem?_eq_getElem hi))
     clear hall hbr hup
     go_wp2
     go_ret
     exact ⟨by rw [HX.out];rfl,HB.out.trans (HUP.out.mono HB.out.size)⟩
end Go.Proofs.YtjbabpnepjhllaaGreat
