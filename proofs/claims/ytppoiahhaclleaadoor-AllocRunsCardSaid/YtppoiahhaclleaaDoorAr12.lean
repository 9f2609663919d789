/- Part 12 of a claim; what it proves stands in its last text. -/
import Derived.Test.YtppoiahhaclleaaDoorAr11
import Derived.Shelf.RegionOpenPlain
import Derived.Shelf.Spec.TrailingZeros
import Derived.Deep.LoopGhost
namespace Go.Proofs.YtppoiahhaclleaaDoor
open Go.RowKit
set_option maxRecDepth 100000
variable {kV aC aD kX kY kZ lB lC aE aF aG aH aI aJ aK aL aM aN aO aP aQ aR aS aT aU aV aW aX aY aZ a8 bA bB bC bD bE bF bG bH bI bJ bK bL bM bN bO bP bQ bS : Value}
theorem lt_cell {w:World} {p:Addr} {v:Value} (h:w.cell? p=some v):p.block < w.heap.size:=by
 rcases Nat.lt_or_ge p.block w.heap.size with h' | h'
 · exact h'
 · simp [World.cell?,Array.getElem?_eq_none h'] at h
def keyF (sp:List (Int×Int)) (x:Int):Int:=(sp.getD x.toNat (-1,-1)).1
structure KeysAt (w:World) (gb gs n:Nat) (sp:List (Int×Int)):Prop where
 box:w.cell? ⟨gb,0,none⟩=some (.slice (some ⟨gs,0,none⟩) n n)
 row:SpansAt w gs sp
 len:sp.length=n
theorem KeysAt.next {w w':World} {gb gs n:Nat} {sp:List (Int×Int)} (h:KeysAt w gb gs n sp) (hb:Below w.heap.size w w'):KeysAt w' gb gs n sp :=
 ⟨(hb.cell (p:=⟨gb,0,none⟩) (lt_cell h.box)).trans h.box,h.row.next hb,h.len⟩
theorem KeysAt.chg {F:Nat→Prop} {w w':World} {gb gs n:Nat} {sp:List (Int×Int)} (h:KeysAt w gb gs n sp) (hb:Chg F w w') (h1:¬ F gb) (h2:¬ F gs):KeysAt w' gb gs n sp:=by
 refine ⟨?_,(hb.block gs (lt_of_block h.row) h2).trans h.row,h.len⟩
 have hlt:=lt_cell h.box
 have hbl:=hb.block gb hlt h1
 have:=h.box
 simp only [World.cell?,hbl] at this ⊢
 exact this
theorem KeysAt.cell {w:World} {gb gs n:Nat} {sp:List (Int×Int)} (h:KeysAt w gb gs n sp) {x:Int} (h0:0≤x) (h1:x < n):w.cell? ⟨gs,x.toNat*2,none⟩=some (.int .i64 (keyF sp x)):=by
 obtain ⟨s,hs⟩:∃ s,sp[x.toNat]? = some s:=⟨_,List.getElem?_eq_getElem (by have:=h.len;omega)⟩
 have:=(h.row.cells hs).1
 rw [this]
 unfold keyF
 rw [List.getD_eq_getElem?_getD,hs]
 rfl
theorem cmp_lt (a b:Int):decide (Lib.compareInt a b < 0)=decide (a < b):=by
 unfold Lib.compareInt
 (repeat' split) <;> simp <;> omega
set_option maxHeartbeats 4000000 in
theorem cmp_any {gb gs n:Nat} {sp:List (Int×Int)} (x y:Int) (w:World) (hk:KeysAt w gb gs n sp) (hn:n≤1000) (hx0:0≤x) (hx1:x < n) (hy0:0≤y) (hy1:y < n) :
   Calls Tryd.prog 35 #[.int .i64 x,.int .i64 y,.pointer (some ⟨gb,0,none⟩)] w fun e w'=>e=.returned (.int .i64 (Lib.compareInt (keyF sp x) (keyF sp y)))∧Below w.heap.size w w':=by
 obtain ⟨a,ha⟩:∃ a:Nat,a=x.toNat:=⟨_,rfl⟩
 obtain ⟨b,hb⟩:∃ a:Nat,a=y.toNat:=⟨_,rfl⟩
 obtain rfl:x=(a:Int):=by omega
 obtain rfl:y=(b:Int):=by omega
 have HK:=Lh hk
 have hca:∀ w_,KeysAt w_ gb gs n sp→w_.cell? ⟨gs,a*2,none⟩=some (.int .i64 (keyF sp a)):=fun w_ h=>h.cell (x:=(a:Int)) hx0 hx1
 have hcb:∀ w_,KeysAt w_ gb gs n sp→w_.cell? ⟨gs,b*2,none⟩=some (.int .i64 (keyF sp b)):=fun w_ h=>h.cell (x:=(b:Int)) hy0 hy1
 have HX:=Lh (And.intro hca hcb)
 obtain ⟨u,hu⟩:∃ u,keyF sp a=u:=⟨_,rfl⟩
 obtain ⟨v,hv⟩:∃ u,keyF sp b=u:=⟨_,rfl⟩
 rw [hu,hv] at HX ⊢
 have HM:=Lh (Tryd.cmp_Compare_int u v w.drew)
 have q1:IntKind.i64.wrap (a:Int)=a:=by simp [IntKind.wrap,IntKind.bits,IntKind.signed];omega
 have q2:IntKind.i64.wrap (b:Int)=b:=by simp [IntKind.wrap,IntKind.bits,IntKind.signed];omega
 clear hk hn hca hcb hu hv ha hb
 go_enter Tryd.func35,Tryd.ntmps35
 go_wp2
 (refine wp_region_lines (fun w_=>KeysAt w_ gb gs n sp) (by kernel_rfl) (by kernel_rfl) (HK.out.next (Below.refl _ _).drew) ?_)
 (try simp only [])
 repeat (first | (refine runL_no (by rfl) ?_;(try simp only [Act.put,List.setIfInBounds_toArray,List.set_cons_zero,List.set_cons_succ])) | (refine runL_val (v:=?_) (by rfl) ?_ ?_;rotate_left;(focus (intro w_ hw_;have f1_:=hw_.box;have f2_:=HX.out.1 _ hw_;have f3_:=HX.out.2 _ hw_;go_simp;(try with_reducible rfl);done));(try simp only [Act.put,List.setIfInBounds_toArray,List.set_cons_zero,List.set_cons_succ])) | (refine runL_call (f:=?_) (args:=?_) (w1:=?_) (by rfl) (by rfl) ?_ ?_;rotate_left 3;(focus (go_simp;refine ⟨⟨?_,?_⟩,?_⟩ <;> with_reducible rfl));(with_reducible refine (HM.out).mono ?_);rintro e w1 ⟨rfl,rfl⟩;refine ⟨_,rfl,.inr (HK.out.next (Below.refl _ _).drew),?_⟩;(try simp only [Act.put,List.setIfInBounds_toArray,List.set_cons_zero,List.set_cons_succ])))
 (refine runL_nil ?_)
 go_wp2
 go_ret
 exact ⟨rfl,(Below.refl _ _).drew⟩
def swapL (l:List Int) (i j:Nat):List Int:=(l.set i (l.getD j 0)).set j (l.getD i 0)
theorem swapL_len (l:List Int) (i j:Nat):(swapL l i j).length=l.length:=by simp [swapL]
theorem swapL_perm {l:List Int} {i j:Nat} (hi:i < l.length) (hj:j < l.length):(swapL l i j).Perm l:=by
 unfold swapL
 rw [List.getD_eq_getElem?_getD,List.getD_eq_getElem?_getD,List.getElem?_eq_getElem hi,List.getElem?_eq_getElem hj]
 exact List.set_set_perm hi hj
def siftF (key:Int→Int) (a:Nat) (l:List Int):Nat→List Int
 | 0=>l
 | j+1=>if a < j+1∧key (l.getD (j+1) 0) < key (l.getD j 0) then siftF key a (swapL l (j+1) j) j else l
def insF (key:Int→Int) (a:Nat):Nat→Nat→List Int→List Int
 | 0,_,l=>l
 | m+1,i,l=>insF key a m (i+1) (siftF key a l i)
theorem siftF_go {key:Int→Int} {a j:Nat} {l:List Int} {x y:Int} (h:a < j+1) (hx:l[j+1]? = some x) (hy:l[j]? = some y) (hk:key x < key y):siftF key a l (j+1)=siftF key a (swapL l (j+1) j) j:=by
 rw [siftF,if_pos ⟨h,by rw [List.getD_eq_getElem?_getD,List.getD_eq_getElem?_getD,hx,hy];exact hk⟩]
theorem siftF_no {key:Int→Int} {a j:Nat} {l:List Int} {x y:Int} (hx:l[j+1]? = some x) (hy:l[j]? = some y) (hk:¬ key x < key y):siftF key a l (j+1)=l:=by
 rw [siftF,if_neg (fun h=>hk (by have:=h.2;rw [List.getD_eq_getElem?_getD,List.getD_eq_getElem?_getD,hx,hy] at this;exact this))]
theorem siftF_end {key:Int→Int} {a j:Nat} {l:List Int} (h:¬ a < j):siftF key a l j=l:=by
 cases j with
 | zero=>rfl
 | succ j=>rw [siftF,if_neg (fun h'=>h h'.1)]
def OrdAt (w:World) (g:Nat) (l:List Int) (rest:List Value):Prop:=w.heap[g]? = some (.cells (intV l++rest).toArray 3 (0,0))
theorem OrdAt.cell {w:World} {g:Nat} {l:List Int} {rest:List Value} (h:OrdAt w g l rest) {k:Nat} {x:Int} (hx:l[k]? = some x):w.cell? ⟨g,k,none⟩=some (.int .i64 x) :=
 cell_row h (by rw [List.getElem?_append_left (by rw [intV_len];exact (List.getElem?_eq_some_iff.1 hx).1)];exact intV_get hx)
theorem OrdAt.set {w:World} {g:Nat} {l:List Int} {rest:List Value} (h:OrdAt w g l rest) {k:Nat} (x:Int) (hk:k < l.length):OrdAt (w.setCell ⟨g,k,none⟩ (.int .i64 x)) g (l.set k x) rest:=by
 have:=setCell_row h k (.int .i64 x)
 rw [List.set_append_left _ _ (by rw [intV_len];exact hk)] at this
 unfold OrdAt
 rw [this]
 unfold intV
 rw [List.map_set]
theorem OrdAt.next {w w':World} {g:Nat} {l:List Int} {rest:List Value} (h:OrdAt w g l rest) (hb:Below w.heap.size w w'):OrdAt w' g l rest:=(hb.block g (lt_of_block h)).trans h
theorem OrdAt.swap {w:World} {g:Nat} {l:List Int} {rest:List Value} (h:OrdAt w g l rest) {i j:Nat} {x y:Int} (hx:l[i]? = some x) (hy:l[j]? = some y):OrdAt ((w.setCell ⟨g,i,none⟩ (.int .i64 y)).setCell ⟨g,j,none⟩ (.int .i64 x)) g (swapL l i j) rest:=by
 have:=(h.set (k:=i) y (List.getElem?_eq_some_iff.1 hx).1).set (k:=j) x (by rw [List.length_set];exact (List.getElem?_eq_some_iff.1 hy).1)
 unfold swapL
 rw [List.getD_eq_getElem?_getD,List.getD_eq_getElem?_getD,hx,hy]
 exact this
set_option maxHeartbeats 4000000 in
theorem isort_l2 {g n c gb gs m a i:Nat} {sp:List (Int×Int)} {l:List Int} {rest:List Value} (w:World) (Q:Exit→Act→World→Prop) (hr:OrdAt w g l rest) (hl:l.length=n) (hk:KeysAt w gb gs m sp) (hm:m≤1000) (hn:n≤1000) (hmem:∀ x∈l,0≤x∧x < (m:Int)) (hg:gb≠g∧gs≠g) (hai:a≤i) (hin:i < n)
   (k1:∀ (mM pE pF pG pH pI pJ pK pL pM pN pO mQ mR mS mT mU mV mW mX lD lE lF lG lH lI lJ lK lL lM lN lO lP lQ lR lS:Value) (w':World),OrdAt w' g (siftF (keyF sp) a l i) rest∧Chg (fun k=>k=g) w w'→Q (.exit 2) ⟨#[.slice (some ⟨g,0,none⟩) n c,.int .i64 a,kV,.func (.func 35) #[] #[.pointer (some ⟨gb,0,none⟩)],aC,aD,kX,kY,kZ,mM,lB,lC,aE,aF,aG,aH,aI,aJ,pE,pF,pG,pH,pI,pJ,pK,pL,pM,pN,pO,mQ,mR,mS,mT,mU,mV,mW,mX,lD,lE,lF,lG,lH,lI,lJ,lK,lL,lM,lN,lO,lP,lQ,lR,lS],[]⟩ w'):(partL Tryd.f72 2).wp Tryd.prog Q ⟨#[.slice (some ⟨g,0,none⟩) n c,.int .i64 a,kV,.func (.func 35) #[] #[.pointer (some ⟨gb,0,none⟩)],aC,aD,kX,kY,kZ,.int .i64 i,lB,lC,aE,aF,aG,aH,aI,aJ,aK,aL,aM,aN,aO,aP,aQ,aR,aS,aT,aU,aV,aW,aX,aY,aZ,a8,bA,bB,bC,bD,bE,bF,bG,bH,bI,bJ,bK,bL,bM,bN,bO,bP,bQ,bS],[]⟩ w:=by
 have HI:=Lh hr
 have HL:=Lh hl
 have HK:=Lh hk
 have HM:=Lh hmem
 have HG:=Lh hg
 have K1:=Lh k1
 clear hr hl hk hmem hg k1
 conv=>arg 2;whnf
 go_wp2
 go_loopw [9] (fun vj wr=>∃ (j:Nat) (lj:List Int),vj=.int .i64 j∧a≤j∧j≤i∧Hid (lj.length=n∧OrdAt wr g lj rest∧Chg (fun k=>k=g) w wr∧(∀ x∈lj,0≤x∧x < (m:Int))∧siftF (keyF sp) a lj j=siftF (keyF sp) a l i)) (fun vj _=>(intOf vj).toNat)
 case atStart=>exact ⟨i,l,rfl,hai,Nat.le_refl _,Lh ⟨HL.out,HI.out,Chg.refl _ _,HM.out,rfl⟩⟩
 case round =>
   clear HI HM
   obtain ⟨j,lj,rfl,haj,hji,HJ⟩:=hrel
   by_cases hja:a < j
   · obtain ⟨jp,hjp⟩:∃ q,q+1=j:=⟨j - 1,by omega⟩
     obtain ⟨x,hx⟩:∃ s,lj[j]? = some s:=⟨_,List.getElem?_eq_getElem (by have:=HJ.out.1;omega)⟩
     obtain ⟨y,hy⟩:∃ s,lj[jp]? = some s:=⟨_,List.getElem?_eq_getElem (by have:=HJ.out.1;omega)⟩
     have mx:=HJ.out.2.2.2.1 x (List.mem_of_getElem? hx)
     have my:=HJ.out.2.2.2.1 y (List.mem_of_getElem? hy)
     have HKw:=Lh (KeysAt.chg HK.out HJ.out.2.2.1 HG.out.1 HG.out.2)
     have HC:=cmp_any x y wr.drew (HKw.out.next (Below.refl _ _).drew) hm mx.1 mx.2 my.1 my.2
     have HX:=Lh (And.intro hx hy)
     obtain ⟨q,hq⟩:∃ q,Lib.compareInt (keyF sp x) (keyF sp y)=q:=⟨_,rfl⟩
     have hlt:decide (q < 0)=decide (keyF sp x < keyF sp y):=by rw [←hq];exact cmp_lt _ _
     rw [hq] at HC
     have HCM:=Lh HC
     clear HC mx my hq hx hy
     have zjp:(j:Int)=(jp:Int)+1:=by omega
     obtain ⟨iN,hiN⟩:∃ q,q=j:=⟨_,rfl⟩
     obtain ⟨jN,hjN⟩:∃ q,q=jp:=⟨_,rfl⟩
     have hjad:decide ((jp:Int)+1 > (a:Int))=true:=decide_eq_true (by omega)
     have ea:((jp:Int)+1).toNat=iN:=by omega
     have pa:(0:Int)≤(jp:Int)+1:=by omega
     have ba:(jp:Int)+1 < (n:Int):=by omega
     have ra:IntKind.i64.wrap ((jp:Int)+1)=(jp:Int)+1:=by rw [IntKind.wrap_i64];omega
     have ec:((jp:Int)).toNat=jN:=by omega
     have pc:(0:Int)≤(jp:Int):=by omega
     have bc:(jp:Int) < (n:Int):=by omega
     have rc:IntKind.i64.wrap ((jp:Int))=(jp:Int):=by rw [IntKind.wrap_i64];omega
     have HXi:=HX
     rw [←hiN,←hjN] at HXi
     have HIJ:=Lh (And.intro hiN hjN)
     have HJP:=Lh hjp
     clear hiN hjN hjp
     go_wp2_with fail
     cases hd:decide (q < 0)
     · rw [hd] at hlt
       have HLT:=Lh hlt
       clear hlt
       (refine wp_region_lines (fun w_=>OrdAt w_ g lj rest) (by kernel_rfl) (by kernel_rfl) (HJ.out.2.1.next (Below.refl _ _).drew) ?_)
       (try simp only [])
       repeat (first | (refine runL_no (by rfl) ?_;(try simp only [Act.put,List.setIfInBounds_toArray,List.set_cons_zero,List.set_cons_succ])) | (refine runL_val (v:=?_) (by rfl) ?_ ?_;rotate_left;(focus (intro w_ hw_;have f1_:=hw_.cell HXi.out.1;have f2_:=hw_.cell HXi.out.2;go_simp;(try with_reducible rfl);done));(try simp only [Act.put,List.setIfInBounds_toArray,List.set_cons_zero,List.set_cons_succ])) | (refine runL_call (f:=?_) (args:=?_) (w1:=?_) (by rfl) (by rfl) ?_ ?_;rotate_left 3;(focus (go_simp;refine ⟨⟨?_,?_⟩,?_⟩ <;> with_reducible rfl));(with_reducible refine (HCM.out).mono ?_);rintro e w1 ⟨rfl,hb⟩;have HB6:=Lh ((Below.refl wr.heap.size wr).drew.trans hb);clear hb;refine ⟨_,rfl,.inr (HJ.out.2.1.next HB6.out),?_⟩;(try simp only [Act.put,List.setIfInBounds_toArray,List.set_cons_zero,List.set_cons_succ])))
       (refine runL_nil ?_)
       go_wp2
       have hend:siftF (keyF sp) a l i=lj:=by
         rw [←HJ.out.2.2.2.2,←HJP.out]
         exact siftF_no (by rw [HJP.out];exact HX.out.1) HX.out.2 (of_decide_eq_false HLT.out.symm)
       exact K1.out _ _ _ _ _ _ _ _ _ _ _ _ _ _ _ _ _ _ _ _ _ _ _ _ _ _ _ _ _ _ _ _ _ _ _ _ _ ⟨by rw [hend];exact HJ.out.2.1.next HB6.out,HJ.out.2.2.1.trans (.of_below HB6.out)⟩
     · rw [hd] at hlt
       have HLT:=Lh hlt
       clear hlt
       (refine wp_region_lines (fun w_=>OrdAt w_ g lj rest) (by kernel_rfl) (by kernel_rfl) (HJ.out.2.1.next (Below.refl _ _).drew) ?_)
       (try simp only [])
       repeat (first | (refine runL_no (by rfl) ?_;(try simp only [Act.put,List.setIfInBounds_toArray,List.set_cons_zero,List.set_cons_succ])) | (refine runL_val (v:=?_) (by rfl) ?_ ?_;rotate_left;(focus (intro w_ hw_;have f1_:=hw_.cell HXi.out.1;have f2_:=hw_.cell HXi.out.2;go_simp;(try with_reducible rfl);done));(try simp only [Act.put,List.setIfInBounds_toArray,List.set_cons_zero,List.set_cons_succ])) | (refine runL_call (f:=?_) (args:=?_) (w1:=?_) (by rfl) (by rfl) ?_ ?_;rotate_left 3;(focus (go_simp;refine ⟨⟨?_,?_⟩,?_⟩ <;> with_reducible rfl));(with_reducible refine (HCM.out).mono ?_);rintro e w1 ⟨rfl,hb⟩;have HB6:=Lh ((Below.refl wr.heap.size wr).drew.trans hb);clear hb;refine ⟨_,rfl,.inr (HJ.out.2.1.next HB6.out),?_⟩;(try simp only [Act.put,List.setIfInBounds_toArray,List.set_cons_zero,List.set_cons_succ])))
       (refine runL_nil ?_)
       have HO:=Lh (HJ.out.2.1.next HB6.out)
       have S3:=Lh (And.intro (HO.out.swap HXi.out.1 HXi.out.2) (((HJ.out.2.2.1.trans (.of_below HB6.out)).setCell (p:=⟨g,iN,none⟩) (.inl rfl) (.int .i64 y)).setCell (p:=⟨g,jN,none⟩) (.inl rfl) (.int .i64 x)))
       have HS2:=Lh (HO.out.set (k:=iN) y (List.getElem?_eq_some_iff.1 HXi.out.1).1)
       have HC2:=Lh (HS2.out.cell (k:=jN) (x:=y) (by rw [List.getElem?_set_ne (by have:=HIJ.out.1;have:=HIJ.out.2;have:=HJP.out;omega)];exact HXi.out.2))
       go_wp2_with fail
       (refine wp_region_stages (fun k_ w_=>((fun k=>k == 9 || k == 13) k_=true→(fun w_=>OrdAt w_ g lj rest) w_)∧(fun _=>True) w_) (by kernel_rfl) (by kernel_rfl) (fun _=>⟨fun _=>((And.intro (HO.out.next (Below.refl _ _).drew) trivial)).1,((And.intro (HO.out.next (Below.refl _ _).drew) trivial)).2⟩) ?_)
       (try simp only [])
       repeat (first | (refine runK_no (by rfl) ?_;(try simp only [Act.put,List.setIfInBounds_toArray,List.set_cons_zero,List.set_cons_succ])) | (refine runK_val (v:=?_) (by rfl) ?_ ?_;rotate_left;(focus (intro w_ hw_;obtain ⟨hE_,f2_⟩:=hw_;(try (replace hE_:=hE_ (by decide);have f1_:=hE_.cell HXi.out.1;have f2_:=hE_.cell HXi.out.2));go_simp;(try with_reducible rfl);done));(try simp only [Act.put,List.setIfInBounds_toArray,List.set_cons_zero,List.set_cons_succ])) | (refine runK_skip (w1:=w1.drew.setCell ⟨g,iN,none⟩ (.int .i64 y)) (by rfl) (by rfl) (exec_store1 3 _ _ rfl g iN _ rfl rfl (by kernel_rfl) (by show (World.cell? w1 _).isSome=true;rw [HO.out.cell HXi.out.1];rfl) (frozen_row HO.out _) rfl) (fun k_ hk_=>⟨fun hc_=>(free_crit (C:=(fun k=>k == 9 || k == 13)) (by kernel_rfl) k_ hk_ hc_).elim,trivial⟩) ?_;(try simp only [Act.put])) | (refine runK_skip (w1:=(w1.drew.setCell ⟨g,iN,none⟩ (.int .i64 y)).setCell ⟨g,jN,none⟩ (.int .i64 x)) (by rfl) (by rfl) (exec_store1 3 _ _ rfl g jN _ rfl rfl (by kernel_rfl) (by show (World.cell? (w1.setCell _ _) _).isSome=true;rw [HC2.out];rfl) (frozen_row HS2.out _) rfl) (fun k_ hk_=>⟨fun hc_=>(free_crit (C:=(fun k=>k == 9 || k == 13)) (by kernel_rfl) k_ hk_ hc_).elim,trivial⟩) ?_;(try simp only [Act.put])))
       (refine runK_nil ?_)
       go_wp2
       go_roundw
       case rel=>exact ⟨jp,swapL lj j jp,by first | rfl | go_num | (congr 1;omega),by omega,by omega,Lh ⟨by rw [swapL_len];exact HJ.out.1,by rw [←HIJ.out.1,←HIJ.out.2];exact S3.out.1,S3.out.2.drew,fun z hz=>HJ.out.2.2.2.1 z ((swapL_perm (by have:=HJ.out.1;have:=HJP.out;omega) (by have:=HJ.out.1;have:=HJP.out;omega)).mem_iff.1 hz),by
         rw [←HJ.out.2.2.2.2,←HJP.out]
         exact (siftF_go (by have:=HJP.out;omega) (by rw [HJP.out];exact HX.out.1) HX.out.2 (of_decide_eq_true HLT.out.symm)).symm⟩⟩
       case measure=>simp [intOf];omega
   · have hjad:decide ((j:Int) > (a:Int))=false:=decide_eq_false (by omega)
     have hjab:decide (a < j)=false:=decide_eq_false hja
     have HJA:=Lh hja
     clear hja
     go_wp2_with fail
     (refine wp_region_lines (fun w_=>OrdAt w_ g lj rest) (by kernel_rfl) (by kernel_rfl) (HJ.out.2.1.next (Below.refl _ _).drew) ?_)
     (try simp only [])
     repeat (first | (refine runL_no (by rfl) ?_;(try simp only [Act.put,List.setIfInBounds_toArray,List.set_cons_zero,List.set_cons_succ])) | (refine runL_val (v:=?_) (by rfl) ?_ ?_;rotate_left;(focus (intro w_ hw_;skip;go_simp;(try with_reducible rfl);done));(try simp only [Act.put,List.setIfInBounds_toArray,List.set_cons_zero,List.set_cons_succ])))
     (refine runL_nil ?_)
     go_wp2
     have hend:siftF (keyF sp) a l i=lj:=by
       rw [←HJ.out.2.2.2.2]
       exact siftF_end HJA.out
     exact K1.out _ _ _ _ _ _ _ _ _ _ _ _ _ _ _ _ _ _ _ _ _ _ _ _ _ _ _ _ _ _ _ _ _ _ _ _ _ ⟨by rw [hend];exact HJ.out.2.1.next (Below.refl _ _).drew,HJ.out.2.2.1.drew⟩
end Go.Proofs.YtppoiahhaclleaaDoor
namespace Go.Proofs.YtppoiahhaclleaaDoor
open Go.RowKit
set_option maxRecDepth 100000
theorem siftF_perm {key:Int→Int} {a:Nat} {l:List Int} {j:Nat} (h:j < l.length):(siftF key a l j).Perm l:=by
 induction j generalizing l with
 | zero=>exact List.Perm.refl _
 | succ j ih =>
   rw [siftF]
   split
   · exact (ih (by rw [swapL_len];omega)).trans (swapL_perm h (by omega))
   · exact List.Perm.refl _
theorem siftF_len {key:Int→Int} {a:Nat} {l:List Int} {j:Nat}:(siftF key a l j).length=l.length:=by
 induction j generalizing l with
 | zero=>rfl
 | succ j ih =>
   rw [siftF]
   split
   · rw [ih,swapL_len]
   · rfl
theorem insF_len {key:Int→Int} {a m i:Nat} {l:List Int}:(insF key a m i l).length=l.length:=by
 induction m generalizing i l with
 | zero=>rfl
 | succ m ih=>rw [insF,ih,siftF_len]
theorem insF_perm {key:Int→Int} {a m i:Nat} {l:List Int} (h:i+m≤l.length):(insF key a m i l).Perm l:=by
 induction m generalizing i l with
 | zero=>exact List.Perm.refl _
 | succ m ih=>rw [insF];exact (ih (by rw [siftF_len];omega)).trans (siftF_perm (by omega))
set_option maxHeartbeats 4000000 in
theorem isort_any {g n c gb gs m a b:Nat} {sp:List (Int×Int)} {l:List Int} {rest:List Value} (w:World) (hr:OrdAt w g l rest) (hl:l.length=n) (hk:KeysAt w gb gs m sp) (hm:m≤1000) (hn:n≤1000) (hmem:∀ x∈l,0≤x∧x < (m:Int)) (hg:gb≠g∧gs≠g) (hab:a≤b) (hbn:b≤n) :
   Calls Tryd.prog 72 #[.slice (some ⟨g,0,none⟩) n c,.int .i64 a,.int .i64 b,.func (.func 35) #[] #[.pointer (some ⟨gb,0,none⟩)]] w fun e w'=>e=.returned (.tuple #[])∧OrdAt w' g (insF (keyF sp) a (b - (a+1)) (a+1) l) rest∧Chg (fun k=>k=g) w w':=by
 have HI:=Lh hr
 have HL:=Lh hl
 have HK:=Lh hk
 have HM:=Lh hmem
 have HG:=Lh hg
 clear hr hl hk hmem hg
 go_enter Tryd.func72,Tryd.ntmps72
 go_wp2
 go_loopw [8] (fun vi wr=>∃ (i:Nat) (li:List Int),vi=.int .i64 i∧a < i∧i≤b+1∧Hid (li.length=n∧OrdAt wr g li rest∧Chg (fun k=>k=g) w wr∧(∀ x∈li,0≤x∧x < (m:Int))∧insF (keyF sp) a (b - i) i li=insF (keyF sp) a (b - (a+1)) (a+1) l)) (fun vi _=>b+1 - (intOf vi).toNat)
 case atStart=>exact ⟨a+1,l,by first | rfl | go_num,by omega,by omega,Lh ⟨HL.out,HI.out,Chg.refl _ _,HM.out,rfl⟩⟩
 case round =>
   clear HI HM
   obtain ⟨i,li,rfl,hai,hib,HJ⟩:=hrel
   by_cases hlt:i < b
   · have hltz:(i:Int) < (b:Int):=by omega
     have HLT:=Lh hlt
     have HAI:=Lh hai
     have HIB:=Lh hib
     clear hib
     go_wp2
     refine wp_code (c:=partL Tryd.f72 2) (by kernel_rfl) ?_
     refine isort_l2 (l:=li) (rest:=rest) (m:=m) (gb:=gb) (gs:=gs) (sp:=sp) _ _ HJ.out.2.1 HJ.out.1 (KeysAt.chg HK.out HJ.out.2.2.1 HG.out.1 HG.out.2) hm hn HJ.out.2.2.2.1 HG.out (Nat.le_of_lt hai) (by omega) ?_
     intro mM pE pF pG pH pI pJ pK pL pM pN pO mQ mR mS mT mU mV mW mX lD lE lF lG lH lI lJ lK lL lM lN lO lP lQ lR lS w2 h2
     have H2:=Lh h2
     clear h2
     go_wp2
     go_roundw
     case rel=>exact ⟨i+1,siftF (keyF sp) a li i,by first | rfl | go_num,by omega,by have:=HLT.out;omega,Lh ⟨by rw [siftF_len];exact HJ.out.1,H2.out.1,HJ.out.2.2.1.trans H2.out.2,fun z hz=>HJ.out.2.2.2.1 z ((siftF_perm (by have:=HJ.out.1;omega)).mem_iff.1 hz),by
       rw [←HJ.out.2.2.2.2,show b - i=(b - (i+1))+1 by omega,insF]⟩⟩
     case measure=>simp [intOf];omega
   · have hltz:¬ (i:Int) < (b:Int):=by omega
     have HLT:=Lh hlt
     clear hlt
     go_wp2
     refine bodyPost_end (v:=.tuple #[]) (results_none rfl _ _ _) rfl ?_
     exact ⟨rfl,by rw [←HJ.out.2.2.2.2,show b - i=0 by have:=HLT.out;omega,insF];exact HJ.out.2.1,HJ.out.2.2.1⟩
set_option maxHeartbeats 4000000 in
theorem stable_any {g n c gb gs m:Nat} {sp:List (Int×Int)} {l:List Int} {rest:List Value} (w:World) (hr:OrdAt w g l rest) (hl:l.length=n) (hk:KeysAt w gb gs m sp) (hm:m≤1000) (hn:n≤1000) (hmem:∀ x∈l,0≤x∧x < (m:Int)) (hg:gb≠g∧gs≠g) (hn20:n < 20) :
   Calls Tryd.prog 53 #[.slice (some ⟨g,0,none⟩) n c,.int .i64 n,.func (.func 35) #[] #[.pointer (some ⟨gb,0,none⟩)]] w fun e w'=>e=.returned (.tuple #[])∧OrdAt w' g (insF (keyF sp) 0 (n - 1) 1 l) rest∧Chg (fun k=>k=g) w w':=by
 have HS:=fun w_ h_ k_=>isort_any (g:=g) (n:=n) (c:=c) (gb:=gb) (gs:=gs) (m:=m) (a:=0) (b:=n) (sp:=sp) (l:=l) (rest:=rest) w_ h_ hl k_ hm hn hmem hg (Nat.zero_le _) (Nat.le_refl _)
 have HC:=Lh (show Calls Tryd.prog 72 #[.slice (some ⟨g,0,none⟩) n c,.int .i64 0,.int .i64 n,.func (.func 35) #[] #[.pointer (some ⟨gb,0,none⟩)]] w (fun e w'=>e=.returned (.tuple #[])∧OrdAt w' g (insF (keyF sp) 0 (n - 1) 1 l) rest∧Chg (fun k=>k=g) w w') from HS w hr hk)
 have q1:¬ (20:Int)≤(n:Int):=by omega
 have q2:¬ (20:Int) < (n:Int):=by omega
 clear HS hr hl hk hmem hg
 go_enter Tryd.func53,Tryd.ntmps53
 go_wp2
 refine wp_loop_rounds 1 ?_
 rw [rounds_succ]
 go_wp2_with ((with_reducible refine (HC.out).mono ?_);rintro e w1 ⟨rfl,h1,h2⟩;have H2:=Lh (And.intro h1 h2);clear h1 h2)
 refine wp_loop_rounds 1 ?_
 rw [rounds_succ]
 go_wp2
 refine bodyPost_end (v:=.tuple #[]) (results_none rfl _ _ _) rfl ?_
 exact ⟨rfl,H2.out⟩
set_option maxHeartbeats 4000000 in
theorem SortStable_any {g n c gb gs m:Nat} {sp:List (Int×Int)} {l:List Int} {rest:List Value} (w:World) (hr:OrdAt w g l rest) (hl:l.length=n) (hk:KeysAt w gb gs m sp) (hm:m≤1000) (hn:n≤1000) (hmem:∀ x∈l,0≤x∧x < (m:Int)) (hg:gb≠g∧gs≠g) (hn20:n < 20) :
   Calls Tryd.prog 34 #[.slice (some ⟨g,0,none⟩) n c,.func (.func 35) #[] #[.pointer (some ⟨gb,0,none⟩)]] w fun e w'=>e=.returned (.tuple #[])∧OrdAt w' g (insF (keyF sp) 0 (n - 1) 1 l) rest∧Chg (fun k=>k=g) w w':=by
 have HC:=Lh (stable_any (c:=c) (rest:=rest) w hr hl hk hm hn hmem hg hn20)
 clear hr hl hk hmem hg
 go_enter Tryd.func34,Tryd.ntmps34
 go_wp2_with ((with_reducible refine (HC.out).mono ?_);rintro e w1 ⟨rfl,h1,h2⟩;have H2:=Lh (And.intro h1 h2);clear h1 h2)
 refine bodyPost_end (v:=.tuple #[]) (results_none rfl _ _ _) rfl ?_
 exact ⟨rfl,H2.out⟩
end Go.Proofs.YtppoiahhaclleaaDoor
namespace Go.Proofs.YtppoiahhaclleaaDoor
open Go.RowKit Go.Shelf
def tz_ren:Go.Shelf.Ren:=⟨fun | 29=>57 | n=>n,fun | 22=>45 | 25=>114 | 54=>121 | n=>n,fun | 1=>0 | n=>n⟩
theorem tz_lays:Lays7.n29 Tryd.prog tz_ren:={
 mixed:=by kernel_rfl
 f29:=Tryd.func57.trans (congrArg some (by kernel_rfl))
 t0:=Tryd.underlying0
 a0:=Tryd.isAgg0
 z0:=Tryd.sizeOf0
 v0:=Tryd.zeroValue0
 i0:=by kernel_rfl
 t3:=Tryd.underlying3
 a3:=Tryd.isAgg3
 z3:=Tryd.sizeOf3
 v3:=Tryd.zeroValue3
 i3:=by kernel_rfl
 t4:=Tryd.underlying4
 a4:=Tryd.isAgg4
 z4:=Tryd.sizeOf4
 v4:=Tryd.zeroValue4
 i4:=by kernel_rfl
 t5:=Tryd.underlying5
 a5:=Tryd.isAgg5
 z5:=Tryd.sizeOf5
 v5:=Tryd.zeroValue5
 i5:=by kernel_rfl
 t22:=Tryd.underlying45
 a22:=Tryd.isAgg45
 z22:=Tryd.sizeOf45
 v22:=Tryd.zeroValue45
 i22:=by kernel_rfl
 t25:=Tryd.underlying114
 a25:=Tryd.isAgg114
 z25:=Tryd.sizeOf114
 v25:=Tryd.zeroValue114
 i25:=by kernel_rfl
 t54:=Tryd.underlying121
 a54:=Tryd.isAgg121
 z54:=Tryd.sizeOf121
 g1:=by kernel_rfl }
def TzAt (w:World):Prop:=TabAt 0 Lib.deBruijn64tab w
theorem TzAt.next {w w':World} (h:TzAt w) {B:Nat} (hb:Below B w w') (h0:0 < B):TzAt w':=fun j hj=>(hb.cell (p:=⟨0,j,none⟩) h0).trans (h j hj)
theorem tz_any (x:Nat) (hx:x < 18446744073709551616) (w:World) (hT:TzAt w):Calls Tryd.prog 57 #[.int .u64 x] w fun e w'=>e=.returned (.int .i64 (Lib.ctz 64 x))∧w'=w :=
 Any7.bits_TrailingZeros64 tz_lays x hx w (fun _=>hT)
set_option maxHeartbeats 1600000 in
theorem isortS_one (A:Option Addr) (cap n:Nat) (f:Value) (w:World) (hn:n≤1) :
   Calls Tryd.prog 86 #[.slice A n cap,.int .i64 0,.int .i64 n,f] w fun e w'=>e=.returned (.tuple #[])∧w=w':=by
 have h1:¬ (1:Int) < (n:Int):=by omega
 go_enter Tryd.func86,Tryd.ntmps86
 go_wp2
 refine wp_loop_rounds 1 ?_
 rw [rounds_succ]
 go_wp2
 go_end0
 exact ⟨rfl,rfl⟩
set_option maxHeartbeats 1600000 in
theorem pdqS_one (A:Option Addr) (cap n:Nat) (lim:Int) (f:Value) (w:World) (hn:n≤1) :
   Calls Tryd.prog 74 #[.slice A n cap,.int .i64 0,.int .i64 n,.int .i64 lim,f] w fun e w'=>e=.returned (.tuple #[])∧w=w':=by
 have H:=Lh (isortS_one A cap n f w hn)
 have h12:(n:Int)≤12:=by omega
 go_enter Tryd.func74,Tryd.ntmps74
 go_wp2
 refine wp_loop_rounds 1 ?_
 rw [rounds_succ]
 go_wp2_with ((with_reducible refine (H.out).mono ?_);rintro e w1 ⟨rfl,rfl⟩)
 refine bodyPost_ret (v:=.tuple #[]) (results_none rfl _ _ _) rfl ?_
 exact ⟨rfl,rfl⟩
set_option maxHeartbeats 1600000 in
theorem SortS_one (A:Option Addr) (cap n:Nat) (f:Value) (w:World) (hn:n≤1) :
   Calls Tryd.prog 55 #[.slice A n cap,f] w fun e w'=>e=.returned (.tuple #[])∧w=w':=by
 have H:=fun lim=>pdqS_one A cap n lim f w hn
 have H:=Lh H
 have h0:(0:Int)≤n:=by omega
 have h1:(n:Int)≤18446744073709551615:=by omega
 go_enter Tryd.func55,Tryd.ntmps55
 go_wp2_with (first | (go_at_call 75;(refine (Tryd.bits_Len _ _ (by omega) (by omega)).mono ?_);rintro e w1 ⟨rfl,rfl⟩) | ((with_reducible refine (H.out _).mono ?_);rintro e w1 ⟨rfl,rfl⟩))
 go_end0
 exact ⟨rfl,rfl⟩
end Go.Proofs.YtppoiahhaclleaaDoor
namespace Go.Proofs.YtppoiahhaclleaaDoor
open Go.RowKit
set_option maxRecDepth 100000
variable {aB aA kV aD kX kY kZ lA lC aE aF aG aH aI aJ aK aL aM aN aO aP aQ aR aS aT aU aV aW aX aY aZ a8 bA bB bC bD bE bF bG bH bI bJ bK bL bM bN bO bP bQ bS bT bU bV bW bX bY bZ b4 b6 cA cC cD cE cF cG cH cI cJ cK cL cP cQ cR cT cU cV cW cX cY cZ c8 dA dB dC dD dE dF dG dH dI dJ dK dL dM dN dO dP dQ dR dS dT dU dV dW dX dY dZ d7 eA eB eC eD eE eF eG eH eI eJ eK eL eM eN eO eP eQ eR : Value}
theorem pass_next {ops:List LOp} {E:List Int} {sp:List (Int×Int)} {k:Nat} {o:LOp} (h:ops[k]? = some o):passTo ops E sp (k+1)=if o.kind=16 then ((passTo ops E sp k).1.map (lastF k (E.getD k 0)),(passTo ops E sp k).2 || (passTo ops E sp k).1.any (lasts k (E.getD k 0))) else passTo ops E sp k:=by
 simp only [passTo,h]
theorem getD_of {E:List Int} {k:Nat} {e:Int} (h:E[k]? = some e):E.getD k 0=e:=by rw [List.getD_eq_getElem?_getD,h];rfl
set_option maxHeartbeats 4000000 in
theorem spans_l6 {Ao:Option Addr} {gs ge n no co:Nat} {sp:List (Int×Int)} {E:List Int} {ops:List LOp} {G:Nat→Prop} (w:World) (Q:Exit→Act→World→Prop) (hg:SpansAt w gs sp) (hn:sp.length=n) (hE:EndsAt w ge E) (hle:E.length=no) (hO:OpsAt w G (.slice Ao no co) ops) (hlo:ops.length=no) (hF:∀ k,G k→k < w.heap.size∧k≠gs) (hgg:gs≠ge) (hn3:n≤1000) (hn4:no≤65536)
   (k1:∀ (mO mP nA nQ mY iS iT iU iV iW iX iY iZ i7 i8 i9 jA jB jC jD jE jF jG jH jI jJ jK jL jM jO jP jQ jR jS jT jU jV jW jX jY jZ j5 j6 j7 j8 j9 kF kG kH kI kJ kK kL kN kO kP kQ kR kS kT:Value) (w':World),Chg (fun k=>k=gs) w w'→SpansAt w' gs (passF ops E sp).1→Q (.exit 6) ⟨#[aB,aA,kV,.slice (some ⟨gs,0,none⟩) n n,.slice (some ⟨ge,0,none⟩) no no,aD,kX,kY,kZ,lA,.bool (passF ops E sp).2,mO,mP,nA,nQ,aH,aI,aJ,aK,aL,aM,aN,aO,aP,aQ,aR,aS,aT,aU,aV,aW,aX,aY,aZ,a8,bA,bB,bC,bD,bE,bF,bG,bH,bI,bJ,bK,bL,bM,bN,bO,bP,bQ,bS,bT,bU,bV,bW,bX,bY,bZ,b4,b6,cA,cC,cD,cE,cF,cG,cH,cI,cJ,cK,cL,.slice Ao no co,.int .i64 (no:Nat),mY,iS,iT,iU,iV,iW,iX,iY,iZ,i7,i8,i9,jA,jB,jC,jD,jE,jF,jG,jH,jI,jJ,jK,jL,jM,jO,jP,jQ,jR,jS,jT,jU,jV,jW,jX,jY,jZ,j5,j6,j7,j8,j9,kF,kG,kH,kI,kJ,kK,kL,kN,kO,kP,kQ,kR,kS,kT,eR],[]⟩ w'):(partL Tryd.f32 6).wp Tryd.prog Q ⟨#[aB,aA,kV,.slice (some ⟨gs,0,none⟩) n n,.slice (some ⟨ge,0,none⟩) no no,aD,kX,kY,kZ,lA,.bool false,lC,aE,aF,aG,aH,aI,aJ,aK,aL,aM,aN,aO,aP,aQ,aR,aS,aT,aU,aV,aW,aX,aY,aZ,a8,bA,bB,bC,bD,bE,bF,bG,bH,bI,bJ,bK,bL,bM,bN,bO,bP,bQ,bS,bT,bU,bV,bW,bX,bY,bZ,b4,b6,cA,cC,cD,cE,cF,cG,cH,cI,cJ,cK,cL,.slice Ao no co,.int .i64 (no:Nat),.int .i64 0,cP,cQ,cR,cT,cU,cV,cW,cX,cY,cZ,c8,dA,dB,dC,dD,dE,dF,dG,dH,dI,dJ,dK,dL,dM,dN,dO,dP,dQ,dR,dS,dT,dU,dV,dW,dX,dY,dZ,d7,eA,eB,eC,eD,eE,eF,eG,eH,eI,eJ,eK,eL,eM,eN,eO,eP,eQ,eR],[]⟩ w:=by
 have HG:=Lh hg
 have HN:=Lh hn
 have HE0:=Lh hE
 have HOPS:=Lh hO
 have HL:=Lh (And.intro hlo hle)
 have HGG:=Lh (And.intro hgg (lt_of_block hE))
 have HF:=Lh hF
 have K1:=Lh k1
 clear hg hn hE hO hlo hle hgg k1 hF
 conv=>arg 2;whnf
 go_wp2
 go_loopw [10,75] (fun bv j wr=>∃ k:Nat,k≤no∧j=.int .i64 k∧bv=.bool (passTo ops E sp k).2∧Chg (fun k=>k=gs) w wr∧SpansAt wr gs (passTo ops E sp k).1) (fun _ j _=>no - (intOf j).toNat)
 case atStart=>exact ⟨0,by omega,rfl,rfl,Chg.refl _ _,HG.out⟩
 case round =>
   obtain ⟨k,hk,rfl,rfl,hch,hca⟩:=hrel
   have HCH:=Lh hch
   have HCA:=Lh hca
   have HEW:=Lh (show EndsAt wr ge E from (hch.block ge HGG.out.2 (fun e=>HGG.out.1 e.symm)).trans HE0.out)
   clear hch hca
   by_cases hlt:k < no
   · obtain ⟨o,ho⟩:∃ o,ops[k]? = some o:=⟨_,List.getElem?_eq_getElem (by have:=HL.out.1;omega)⟩
     obtain ⟨e,he⟩:∃ e,E[k]? = some e:=⟨_,List.getElem?_eq_getElem (by have:=HL.out.2;omega)⟩
     obtain ⟨g,off,hA,hFg,x0,x1,x2,x3,x4,x5,x6,x7⟩:=HOPS.out.at_ ho
     subst hA
     have hkeep:∀ j,wr.cell? ⟨g,off+k*8+j,none⟩=w.cell? ⟨g,off+k*8+j,none⟩:=fun j=>World.cell?_of_block (w:=w) (w':=wr) (a:=⟨g,off+k*8+j,none⟩) (HCH.out.block g (HF.out g hFg).1 (HF.out g hFg).2)
     have y0:=(hkeep 0).trans x0
     have y1:=(hkeep 1).trans x1
     have y2:=(hkeep 2).trans x2
     have y3:=(hkeep 3).trans x3
     have y4:=(hkeep 4).trans x4
     have y5:=(hkeep 5).trans x5
     have y6:=(hkeep 6).trans x6
     have y7:=(hkeep 7).trans x7
     rw [Nat.add_zero] at y0
     have HNX:=Lh (pass_next (E:=E) (sp:=sp) ho)
     have HEK:=Lh he
     have HEG:=Lh (getD_of he)
     have i0:(0:Int)≤(k:Int):=by omega
     have i1:(k:Int) < (no:Int):=by omega
     obtain ⟨kd,hkd⟩:∃ q,o.kind=q:=⟨_,rfl⟩
     have HKD:=Lh hkd
     rw [hkd] at y0
     have hb5:Below wr.heap.size wr (wr.alloc (.cells #[.int .i64 kd,.int .i64 o.d,.int .i64 o.e,.int .i64 o.a,.int .i64 o.b,.int .i64 o.c,.int .i64 o.buf,.int .u64 o.imm] 47)):=(Below.refl _ _).alloc (Nat.le_refl _) _
     have HB5:=Lh hb5
     clear x0 x1 x2 x3 x4 x5 x6 x7 hkeep hFg ho he hkd hb5
     by_cases h16:kd=16
     · have e16:(kd != 16)=false:=by rw [h16];rfl
       have HN2:=Lh (HNX.out.trans (if_pos (by rw [HKD.out];exact h16)))
       obtain ⟨bb,hbb⟩:∃ x,(passTo ops E sp k).2=x:=⟨_,rfl⟩
       rw [hbb]
       have HBB:=Lh hbb
       clear h16 hbb
       go_wp2
       refine wp_code (c:=partL Tryd.f32 8) (by kernel_rfl) ?_
       refine spans_l8 (gs:=gs) (ge:=ge) (n:=n) (ne:=no) (k:=k) (e:=e) (b:=bb) (sp:=(passTo ops E sp k).1) (E:=E) _ _ (HCA.out.next HB5.out) (by rw [pass_len];exact HN.out) (HEW.out.next HB5.out) HEK.out hlt HGG.out.1 hn3 ?_
       intro nA nQ i8 i9 jA jB jC jD jE jF jG jH jI jJ jK jL jM jO jP jQ jR jS jT jU jV jW jX jY jZ j5 j6 j7 j8 j9 kF kG kH kI kJ kK kL kN kO kP kQ kR kS w8 hch8 hsp8
       have HCH8:=Lh hch8
       have HSP8:=Lh hsp8
       clear hch8 hsp8
       go_wp2
       go_roundw
       case rel=>exact ⟨k+1,by omega,by go_num,by rw [HN2.out,HEG.out,HBB.out],HCH.out.trans ((Chg.of_below HB5.out).trans HCH8.out),by rw [HN2.out,HEG.out];exact HSP8.out⟩
       case measure=>simp [intOf];omega
     · have e16:(kd != 16)=true:=by simpa using h16
       have HN2:=Lh (HNX.out.trans (if_neg (by rw [HKD.out];exact h16)))
       clear h16
       go_wp2
       go_roundw
       case rel=>exact ⟨k+1,by omega,by go_num,by rw [HN2.out],HCH.out.trans (Chg.of_below HB5.out),by rw [HN2.out];exact HCA.out.next HB5.out⟩
       case measure=>simp [intOf];omega
   · have HY:=Lh (show passTo ops E sp k=passF ops E sp by unfold passF;rw [show k=ops.length by have:=HL.out.1;omega])
     have HZ:=HCA.out
     rw [HY.out] at HZ
     have HZ:=Lh HZ
     rw [HY.out]
     go_wp2
     exact K1.out _ _ _ _ _ _ _ _ _ _ _ _ _ _ _ _ _ _ _ _ _ _ _ _ _ _ _ _ _ _ _ _ _ _ _ _ _ _ _ _ _ _ _ _ _ _ _ _ _ _ _ _ _ _ _ _ _ _ _ _ _ HCH.out HZ.out
end Go.Proofs.YtppoiahhaclleaaDoor
namespace Go.Proofs.YtppoiahhaclleaaDoor
open Go.RowKit
set_option maxRecDepth 100000
variable {aB kV kW kX kZ lA lB lC aE aF aG aH aI aJ aK aL aM aN aO aP aQ aR aS aT aU aV aW aX aY aZ a8 bA bB bC bD bE bF bG bH bI bJ bK bL bM bN bO bP bQ bS bT bU bV bW bX bY bZ b4 b6 cA cC cD cE cF cG cH cI cJ cK cL cM cN cO cP cQ cR cT cU cV cW cX cY cZ c8 dA dB dC dD dE dF dG dH dI dJ dK dL dM dN dO dP dQ dR dS dT dU dV dW dX dY dZ d7 eA eB eC eD eE eF eG eH eI eJ eK eL eM eN eO eP eQ eR : Value}
theorem check_fields {p:LP} {n k:Nat} {o:LOp} (h:(checkF p n).2=0) (ho:p.ops[k]? = some o):fieldsF p o=true:=by
 obtain ⟨_,h2,_⟩:=check_run h
 have hk:=(List.getElem?_eq_some_iff.1 ho).1
 have h0:=run_err (Nat.le_of_lt hk) h2
 have h1:=run_err (Nat.succ_le_of_lt hk) h2
 rw [run_next h0 ho] at h1
 cases hf:fieldsF p o
 · rw [if_pos (by unfold opF;rw [if_pos hf];show (2:Int)≠0;decide)] at h1
   have:(opF p o (runTo p n k).2.2).1=2:=by unfold opF;rw [if_pos hf]
   rw [this] at h1
   cases h1
 · rfl
theorem spV_rep (n:Nat):repV [.int .i64 (-1),.int .i64 (-1)] n=spV (List.replicate n (-1,-1)):=by
 unfold repV spV
 rw [List.map_replicate]
theorem notes_next {p:LP} {E:List Int} {k:Nat} {o:LOp} (h:p.ops[k]? = some o):notesTo p E (k+1)=(regsOf p.ops E o k).foldl (fun sp r=>noteR sp r k) (notesTo p E k):=by
 simp only [notesTo,h,noteOp]
theorem after_append {W1 w2:World} {bp ge g off no co k m gl:Nat} {d:Int} (h:W1.cell? ⟨bp,2,none⟩=some (.slice (some ⟨g,off,none⟩) no co)∧W1.cell? ⟨ge,k,none⟩=some (.int .i64 (m:Nat))∧W1.cell? ⟨g,off+m*8+1,none⟩=some (.int .i64 d))
   (hg:W1.grownBy w2 (Value.slice (some ⟨gl,0,none⟩) 5 5).ownBlock) (hlt:g < W1.heap.size∧ge < W1.heap.size∧bp < W1.heap.size) (hne:bp≠gl∧ge≠gl∧g≠gl) :
   w2.cell? ⟨bp,2,none⟩=some (.slice (some ⟨g,off,none⟩) no co)∧w2.cell? ⟨ge,k,none⟩=some (.int .i64 (m:Nat))∧w2.cell? ⟨g,off+m*8+1,none⟩=some (.int .i64 d) :=
 ⟨(World.cell?_of_block (w:=W1) (a:=⟨bp,2,none⟩) (hg.block bp hlt.2.2 (fun e=>hne.1 (Option.some.inj e)))).trans h.1,(World.cell?_of_block (w:=W1) (a:=⟨ge,k,none⟩) (hg.block ge hlt.2.1 (fun e=>hne.2.1 (Option.some.inj e)))).trans h.2.1,
   (World.cell?_of_block (w:=W1) (a:=⟨g,off+m*8+1,none⟩) (hg.block g hlt.1 (fun e=>hne.2.2 (Option.some.inj e)))).trans h.2.2⟩
theorem regs_lt {p:LP} {o:LOp} (h:fieldsF p o=true):∀ r∈[o.a,o.b,o.c,o.d,o.e],r < p.regs∨r = -1:=by
 obtain ⟨_,_,hr⟩:=regs_is h
 obtain ⟨hd,he,ha,hb,hc⟩:=hr
 intro r hm
 simp only [List.mem_cons,List.not_mem_nil,or_false] at hm
 rcases hm with rfl | rfl | rfl | rfl | rfl
 · split at ha
   · rcases ha with ha | ha
     · exact .inl ha.2
     · exact .inr ha.2
   · exact .inr ha
 · split at hb;exact .inl hb.2;exact .inr hb
 · split at hc;exact .inl hc.2;exact .inr hc
 · split at hd;exact .inl hd.2;exact .inr hd
 · split at he;exact .inl he.2;exact .inr he
set_option maxHeartbeats 4000000 in
theorem spans_r8 {bp ge gl no co k m g off:Nat} {d:Int} {l:List Int} (w:World) (Q:Exit→Act→World→Prop) (c2:w.cell? ⟨bp,2,none⟩=some (.slice (some ⟨g,off,none⟩) no co)) (ce:w.cell? ⟨ge,k,none⟩=some (.int .i64 (m:Nat))) (cd:w.cell? ⟨g,off+m*8+1,none⟩=some (.int .i64 d)) (hk:k < no) (hm:m < no) (hg:g < w.heap.size) (hge:ge < w.heap.size) (hbp:bp < w.heap.size) (hl:w.heap[gl]? = some (.cells (intV l).toArray 3 (0,0))) (hl5:l.length=5) (hno:no≤65536) (hne:bp≠gl∧ge≠gl∧g≠gl)
   (k1:∀ (A':Option Addr) (c':Nat),∀ (lK lL lM lN lO lP lQ lR lS lT lU lV:Value) (w':World),Chg (fun j=>j=gl) w w'→NumsAt w' (fun j=>j=gl∨(w.heap.size≤j∧j < w'.heap.size)) (.slice A' 6 c') (l++[d])→Q (.normal) ⟨#[aB,.pointer (some ⟨bp,0,none⟩),kV,kW,.slice (some ⟨ge,0,none⟩) no no,.int .i64 (k:Nat),kX,.slice A' 6 c',kZ,lA,lB,lC,aE,aF,aG,aH,aI,aJ,aK,aL,aM,aN,aO,aP,aQ,aR,aS,aT,aU,aV,aW,aX,aY,aZ,a8,bA,bB,bC,bD,bE,bF,bG,bH,bI,lK,lL,lM,lN,lO,lP,lQ,lR,lS,lT,lU,lV,bW,bX,bY,bZ,b4,b6,cA,cC,cD,cE,cF,cG,cH,cI,cJ,cK,cL,cM,cN,cO,cP,cQ,cR,cT,cU,cV,cW,cX,cY,cZ,c8,dA,dB,dC,dD,dE,dF,dG,dH,dI,dJ,dK,dL,dM,dN,dO,dP,dQ,dR,dS,dT,dU,dV,dW,dX,dY,dZ,d7,eA,eB,eC,eD,eE,eF,eG,eH,eI,eJ,eK,eL,eM,eN,eO,eP,eQ,eR],[]⟩ w'):(partR Tryd.f32 8).wp Tryd.prog Q ⟨#[aB,.pointer (some ⟨bp,0,none⟩),kV,kW,.slice (some ⟨ge,0,none⟩) no no,.int .i64 (k:Nat),kX,.slice (some ⟨gl,0,none⟩) 5 5,kZ,lA,lB,lC,aE,aF,aG,aH,aI,aJ,aK,aL,aM,aN,aO,aP,aQ,aR,aS,aT,aU,aV,aW,aX,aY,aZ,a8,bA,bB,bC,bD,bE,bF,bG,bH,bI,bJ,bK,bL,bM,bN,bO,bP,bQ,bS,bT,bU,bV,bW,bX,bY,bZ,b4,b6,cA,cC,cD,cE,cF,cG,cH,cI,cJ,cK,cL,cM,cN,cO,cP,cQ,cR,cT,cU,cV,cW,cX,cY,cZ,c8,dA,dB,dC,dD,dE,dF,dG,dH,dI,dJ,dK,dL,dM,dN,dO,dP,dQ,dR,dS,dT,dU,dV,dW,dX,dY,dZ,d7,eA,eB,eC,eD,eE,eF,eG,eH,eI,eJ,eK,eL,eM,eN,eO,eP,eQ,eR],[]⟩ w:=by
 have hown:w.ownsRow gl 3 1 (.slice (some ⟨gl,0,none⟩) 5 5) 5 (intV l):=⟨by rw [intV_len,hl5],.inr ⟨gl,5,_,rfl,Nat.le_refl _,hl,Nat.le_refl _,by decide,by simp [intV_len,hl5],by simp only [];exact List.take_of_length_le (by simp [intV_len,hl5])⟩⟩
 obtain ⟨W1,hW1⟩:∃ W,W=(w.alloc (.cells (intV [d]).toArray 3)).drew:=⟨_,rfl⟩
 have hB1:Below w.heap.size w W1:=by rw [hW1];exact ((Below.refl _ _).alloc (Nat.le_refl _) _).drew
 have hz1:W1.heap.size=w.heap.size+1:=by rw [hW1];simp
 have hb1:W1.heap[w.heap.size]? = some (.cells (intV [d]).toArray 3 (0,0)):=by rw [hW1];exact heap_alloc_new w _
 have hown1:W1.ownsRow gl 3 1 (.slice (some ⟨gl,0,none⟩) 5 5) 5 (intV l):=row_keep (fun g hg=>hB1.block g (own_lt hown g hg).1) hown
 have HC:=Lh (show w.cell? ⟨bp,2,none⟩=some (.slice (some ⟨g,off,none⟩) no co)∧w.cell? ⟨ge,k,none⟩=some (.int .i64 (m:Nat))∧w.cell? ⟨g,off+m*8+1,none⟩=some (.int .i64 d) from ⟨c2,ce,cd⟩)
 have HS1:=Lh (show W1.cell? ⟨bp,2,none⟩=some (.slice (some ⟨g,off,none⟩) no co)∧W1.cell? ⟨ge,k,none⟩=some (.int .i64 (m:Nat))∧W1.cell? ⟨g,off+m*8+1,none⟩=some (.int .i64 d) from ⟨(hB1.cell (p:=⟨bp,2,none⟩) hbp).trans c2,(hB1.cell (p:=⟨ge,k,none⟩) hge).trans ce,(hB1.cell (p:=⟨g,off+m*8+1,none⟩) hg).trans cd⟩)
 have HB1:=Lh hB1
 have HW1:=Lh hW1
 have HK:=Lh k1
 have HBK:=Lh hb1
 have HOWN1:=Lh hown1
 have HOWN:=Lh hown
 have HL5:=Lh hl5
 have HGL:=Lh (And.intro (lt_of_block hl) hz1)
 have HLT:=Lh (And.intro hg (And.intro hge (And.intro hbp hne)))
 have k0:(0:Int)≤(k:Int):=by omega
 have k2:(k:Int) < (no:Int):=by omega
 have m0:(0:Int)≤(m:Int):=by omega
 have m1:(m:Int) < (no:Int):=by omega
 have k3:IntKind.i64.wrap (k:Int)=k:=by simp [IntKind.wrap,IntKind.bits,IntKind.signed];omega
 have m3:IntKind.i64.wrap (m:Int)=m:=by simp [IntKind.wrap,IntKind.bits,IntKind.signed];omega
 clear c2 ce cd hk hm hg hge hbp hne hl hl5 hown hW1 hB1 hz1 hb1 hown1 k1
 conv=>arg 2;whnf
 (refine wp_region_lines (fun w_=>w_.cell? ⟨bp,2,none⟩=some (.slice (some ⟨g,off,none⟩) no co)∧w_.cell? ⟨ge,k,none⟩=some (.int .i64 (m:Nat))∧w_.cell? ⟨g,off+m*8+1,none⟩=some (.int .i64 d)) (by kernel_rfl) (by kernel_rfl) HC.out ?_)
 (try simp only [])
 repeat (first | (refine runL_no (by rfl) ?_;(try simp only [Act.put,List.setIfInBounds_toArray,List.set_cons_zero,List.set_cons_succ])) | (refine runL_val (v:=?_) (by rfl) ?_ ?_;rotate_left;(focus (intro w_ hw_;obtain ⟨f1_,f2_,f3_⟩:=hw_;go_simp;(try with_reducible rfl);done));(try simp only [Act.put,List.setIfInBounds_toArray,List.set_cons_zero,List.set_cons_succ])) | (refine runL_op (v:=.slice (some ⟨w.heap.size,0,none⟩) 1 1) (w1:=W1) (by rfl) (by rfl) (by rw [HW1.out];exact exec_int1 _ rfl rfl) (.inr (by exact HS1.out)) ?_;(try simp only [Act.put,List.setIfInBounds_toArray,List.set_cons_zero,List.set_cons_succ])) | (refine runL_append1 (by rfl) (by rfl) _ _ rfl (v:=.slice (some ⟨gl,0,none⟩) 5 5) rfl HL5.out HOWN1.out rfl HBK.out (by decide) (by have:=HGL.out;omega) ?_;intro mZ w2 ho2 hg2 hb2;have HO2:=Lh ho2;have HG2:=Lh hg2;have HWH:=Lh hb2;clear ho2 hg2 hb2;have HS2:=Lh (after_append HS1.out HG2.out (by have:=HLT.out;have:=HGL.out;omega) HLT.out.2.2.2);refine ⟨by exact HS2.out,?_⟩;(try simp only [Act.put,List.setIfInBounds_toArray,List.set_cons_zero,List.set_cons_succ])))
 (refine runL_nil ?_)
 obtain ⟨A2,c2,rfl⟩:=own_form HO2.out
 have hl6:(l++[d]).length=6:=by simp [HL5.out]
 have hnum:=nums_own (l:=l++[d]) (base:=gl) (w:=w2) (v:=.slice A2 6 c2) (by rw [hl6];exact HO2.out)
 refine HK.out A2 c2 _ _ _ _ _ _ _ _ _ _ _ _ _ ((Chg.of_below HB1.out).trans' (F:=fun j=>j=gl) (G:=fun j=>j=gl) ⟨HG2.out.os,HG2.out.tape,HG2.out.output,HG2.out.size,fun k hk hF=>HG2.out.block k hk (fun e=>hF (Option.some.inj e))⟩ (fun _ _ h=>h)) (hnum.mono fun j hj=>?_)
 rcases HWH.out with h | h
 · rw [h] at hj;exact .inl (Option.some.inj hj).symm
 · have:=(own_lt HO2.out j hj).1
   rw [h] at hj
   have:=Option.some.inj hj
   exact .inr ⟨by have:=HGL.out;omega,by omega⟩
set_option maxHeartbeats 8000000 in
theorem spans_any (p:LP) (Ab Ao:Option Addr) (nb cb no co n:Nat) (w:World) (hp:ProgAt w (fun k=>k < w.heap.size) [.int .i64 p.regs,.slice Ab nb cb,.slice Ao no co] p) (h0:(checkF p 64).2=0) (hn:p.regs=n) :
   Calls Tryd.prog 32 #[.agg #[.int .i64 p.regs,.slice Ab nb cb,.slice Ao no co]] w fun e w'=>∃ g,e=.returned (.slice (some ⟨g,0,none⟩) n n)∧w.heap.size≤g∧SpansAt w' g (spansF p)∧Below w.heap.size w w':=by
 obtain ⟨W,hW,hbW,hzW,hl_,hr_⟩:=boxed w #[.int .i64 p.regs,.slice Ab nb cb,.slice Ao no co] 25
 have c0:W.cell? ⟨w.heap.size,0,none⟩=some (.int .i64 p.regs):=by rw [hl_];rfl
 have c1:W.cell? ⟨w.heap.size,1,none⟩=some (.slice Ab nb cb):=by rw [hl_];rfl
 have c2:W.cell? ⟨w.heap.size,2,none⟩=some (.slice Ao no co):=by rw [hl_];rfl
 have hp1:=prog_next hp hbW
 have hOps:OpsAt w (fun k=>k < w.heap.size) (.slice Ao no co) p.ops:=by
   obtain ⟨vb,vo,h,h1,h2⟩:=hp.row
   simp only [List.cons.injEq] at h
   rw [h.2.2.1];exact h2
 have hno:p.ops.length=no:=by obtain ⟨A,c,hv,_⟩:=rows_form hOps;cases hv;rfl
 have hhd:=head_ok (check_run h0).1
 have hno6:no≤65536:=by omega
 have hn64:n≤64:=by omega
 obtain ⟨W1,hW1⟩:∃ q,q=W.alloc (.cells #[.int .i64 (-1),.int .i64 (-1)] 68):=⟨_,rfl⟩
 have hb1:Below W.heap.size W W1:=by rw [hW1];exact (Below.refl _ _).alloc (Nat.le_refl _) _
 have hz1:W1.heap.size=W.heap.size+1:=by rw [hW1];simp
 have hn1:W1.heap[W.heap.size]? = some (.cells [Value.int .i64 (-1),.int .i64 (-1)].toArray 68 (0,0)):=by rw [hW1];exact heap_alloc_new W _
 have hrep:=Repeat_Span [.int .i64 (-1),.int .i64 (-1)] rfl (by simp [Value.oneCell']) W.heap.size 0 1 n (by omega) W1 (by omega) (fun j v hv=>by rw [Nat.zero_add];exact cell_row hn1 hv)
 obtain ⟨gs,hgs⟩:∃ g,W1.heap.size=g:=⟨_,rfl⟩
 rw [hgs,spV_rep,hW1] at hrep
 have HREP:=Lh hrep
 have HENDS:=Lh (fun wr (hb:Below W.heap.size W wr)=>Ends_any p Ab Ao nb cb no co wr (prog_next hp1 hb) h0)
 have HW:=Lh hW
 have HB:=Lh hbW
 have HOPS:=Lh hOps
 have HNO:=Lh hno
 have HBAL:=Lh (check_bal h0)
 have HB1:=Lh hb1
 have HW1:=Lh hW1
 have HN:=Lh hn
 have HCF:=Lh (fun (k:Nat) (o:LOp) (ho:p.ops[k]? = some o)=>check_fields h0 ho)
 have hlt0:w.heap.size < W.heap.size:=by omega
 have HLT:=Lh (show w.heap.size < W.heap.size∧W.heap.size < gs by omega)
 rw [hn] at c0
 clear hW hbW hzW hl_ hr_ hp hp1 hOps hno hhd hW1 hb1 hz1 hn1 hrep h0 hgs
 rw [hn]
 clear hn
 go_enter Tryd.func32,Tryd.ntmps32
 go_upto_region 1 with fail
 (first | rw [←HW.out] | rw [←HN.out,←HW.out])
 go_upto_region 2 with ((with_reducible refine (HREP.out).mono ?_);rintro e w1 ⟨rfl,hgb,hb2⟩)
 have hbw1:Below W.heap.size W w1:=by
   have h:=HB1.out
   rw [HW1.out] at h
   exact h.trans (hb2.mono (by have:=HLT.out;omega))
 have HE:=HENDS.out w1 hbw1
 rw [HNO.out] at HE
 have HE:=Lh HE
 have e0:w1.cell? ⟨w.heap.size,0,none⟩=some (.int .i64 p.regs):=by rw [HN.out];exact (hbw1.cell (p:=⟨w.heap.size,0,none⟩) hlt0).trans c0
 have e1:=(hbw1.cell (p:=⟨w.heap.size,1,none⟩) hlt0).trans c1
 have e2:=(hbw1.cell (p:=⟨w.heap.size,2,none⟩) hlt0).trans c2
 have HBW1:=Lh hbw1
 have HSP0:=Lh (show SpansAt w1 gs (notesTo p (endsF p.ops) 0) by
   have:notesTo p (endsF p.ops) 0=List.replicate n (-1,-1):=by
     show List.replicate p.regs.toNat (-1,-1)=_
     rw [HN.out];rfl
   rw [this];exact hgb)
 have E2:=Lh e2
 clear c0 c1 c2 hgb hb2 hbw1
 go_upto_region 3 with ((with_reducible refine (HE.out).mono ?_);rintro e w2 ⟨ge,rfl,hge,hge2,hb3⟩)
 have f2:=(hb3.cell (p:=⟨w.heap.size,2,none⟩) (Nat.lt_of_lt_of_le hlt0 HBW1.out.size)).trans E2.out
 have HF2:=Lh f2
 have HEN:=Lh (show EndsAt w2 ge (endsF p.ops) from hge2)
 have HSP:=Lh (HSP0.out.next hb3)
 have HBW2:=Lh (show Below w.heap.size w w2 from HB.out.trans ((HBW1.out.trans (hb3.mono HBW1.out.size)).mono HB.out.size))
 have HEL:=Lh (show (endsF p.ops).length=no by rw [ends_len HBAL.out,HNO.out])
 have HGE:=Lh (show gs < ge from Nat.lt_of_lt_of_le (lt_of_block HSP0.out) hge)
 have HGEL:=Lh (show ge < w2.heap.size from lt_of_block hge2)
 clear e0 e1 e2 hge hge2 hb3
 go_wp2
 go_loopw [25] (fun i wr=>∃ k:Nat,k≤no∧i=.int .i64 k∧SpansAt wr gs (notesTo p (endsF p.ops) k)∧EndsAt wr ge (endsF p.ops)∧wr.cell? ⟨w.heap.size,2,none⟩=some (.slice Ao no co)∧Below w.heap.size w wr) (fun i _=>no - (intOf i).toNat)
 case atStart=>exact ⟨0,by omega,rfl,HSP.out,HEN.out,HF2.out,HBW2.out⟩
 case round =>
   obtain ⟨k,hk,rfl,hsp,hen,hf2,hbl⟩:=hrel
   have HS:=Lh hsp
   have HE2:=Lh hen
   have HBL:=Lh hbl
   have HF:=Lh hf2
   clear f2 hsp hen hbl
   by_cases hlt:k < no
   · obtain ⟨o,ho⟩:∃ o,p.ops[k]? = some o:=⟨_,List.getElem?_eq_getElem (by rw [HNO.out];omega)⟩
     obtain ⟨g,off,hA,hFg,x0,x1,x2,x3,x4,x5,x6,x7⟩:=HOPS.out.at_ ho
     subst hA
     have y0:=(HBL.out.cell (p:=⟨g,off+k*8,none⟩) hFg).trans x0
     have y1:=(HBL.out.cell (p:=⟨g,off+k*8+1,none⟩) hFg).trans x1
     have y2:=(HBL.out.cell (p:=⟨g,off+k*8+2,none⟩) hFg).trans x2
     have y3:=(HBL.out.cell (p:=⟨g,off+k*8+3,none⟩) hFg).trans x3
     have y4:=(HBL.out.cell (p:=⟨g,off+k*8+4,none⟩) hFg).trans x4
     have y5:=(HBL.out.cell (p:=⟨g,off+k*8+5,none⟩) hFg).trans x5
     have y6:=(HBL.out.cell (p:=⟨g,off+k*8+6,none⟩) hFg).trans x6
     have y7:=(HBL.out.cell (p:=⟨g,off+k*8+7,none⟩) hFg).trans x7
     have HNX:=Lh (notes_next (E:=endsF p.ops) ho)
     have HO:=Lh ho
     have i0:(0:Int)≤(k:Int):=by omega
     have i1:(k:Int) < (no:Int):=by omega
     obtain ⟨kd,hkd⟩:∃ q,o.kind=q:=⟨_,rfl⟩
     have HKD:=Lh hkd
     rw [hkd] at y0
     have HREG:=Lh (regs_lt (HCF.out k o ho))
     obtain ⟨W5,hW5⟩:∃ q,q=wr.alloc (.cells #[.int .i64 kd,.int .i64 o.d,.int .i64 o.e,.int .i64 o.a,.int .i64 o.b,.int .i64 o.c,.int .i64 o.buf,.int .u64 o.imm] 47):=⟨_,rfl⟩
     obtain ⟨W6,hW6⟩:∃ q,q=W5.alloc (.cells (intV [o.a,o.b,o.c,o.d,o.e]).toArray 3):=⟨_,rfl⟩
     have hb5:Below wr.heap.size wr W5:=by rw [hW5];exact (Below.refl _ _).alloc (Nat.le_refl _) _
     have hb6:Below W5.heap.size W5 W6:=by rw [hW6];exact (Below.refl _ _).alloc (Nat.le_refl _) _
     have hz5:W5.heap.size=wr.heap.size+1:=by rw [hW5];simp
     have hl6:W6.heap[W5.heap.size]? = some (.cells (intV [o.a,o.b,o.c,o.d,o.e]).toArray 3 (0,0)):=by rw [hW6];exact heap_alloc_new W5 _
     have hO5:W5.heap[wr.heap.size]? = some (.cells #[.int .i64 kd,.int .i64 o.d,.int .i64 o.e,.int .i64 o.a,.int .i64 o.b,.int .i64 o.c,.int .i64 o.buf,.int .u64 o.imm] 47 (0,0)):=by rw [hW5];exact heap_alloc_new wr _
     have h50:W5.cell? ⟨wr.heap.size,0,none⟩=some (.int .i64 kd):=by simp only [World.cell?,hO5];rfl
     have h51:W5.cell? ⟨wr.heap.size,1,none⟩=some (.int .i64 o.d):=by simp only [World.cell?,hO5];rfl
     have h52:W5.cell? ⟨wr.heap.size,2,none⟩=some (.int .i64 o.e):=by simp only [World.cell?,hO5];rfl
     have h53:W5.cell? ⟨wr.heap.size,3,none⟩=some (.int .i64 o.a):=by simp only [World.cell?,hO5];rfl
     have h54:W5.cell? ⟨wr.heap.size,4,none⟩=some (.int .i64 o.b):=by simp only [World.cell?,hO5];rfl
     have h55:W5.cell? ⟨wr.heap.size,5,none⟩=some (.int .i64 o.c):=by simp only [World.cell?,hO5];rfl
     have h60:=(hb6.cell (p:=⟨wr.heap.size,0,none⟩) (by simp only [];omega)).trans h50
     have HB6:=Lh (show Below wr.heap.size wr W6 from hb5.trans (hb6.mono hb5.size))
     have HL6:=Lh hl6
     have HZ5:=Lh (And.intro hz5 (lt_of_block hl6))
     have HH5:=Lh (And.intro h50 (And.intro h51 (And.intro h52 (And.intro h53 (And.intro h54 (And.intro h55 h60))))))
     have HW5:=Lh hW5
     have HW6:=Lh hW6
     clear x0 x1 x2 x3 x4 x5 x6 x7 hFg ho hkd hb5 hb6 hz5 hl6 hO5 h50 h51 h52 h53 h54 h55 h60 hW5 hW6
     go_upto_region 6 with fail
     rw [←HW5.out]
     clear y0 y1 y2 y3 y4 y5 y6 y7
     have h51:=HH5.out.2.1
     have h52:=HH5.out.2.2.1
     have h53:=HH5.out.2.2.2.1
     have h54:=HH5.out.2.2.2.2.1
     have h55:=HH5.out.2.2.2.2.2.1
     go_upto_region 7 with fail
     rw [show W5.alloc (.cells #[.int .i64 o.a,.int .i64 o.b,.int .i64 o.c,.int .i64 o.d,.int .i64 o.e] 3)=W6 from HW6.out.symm]
     clear h51 h52 h53 h54 h55
     have h60:=HH5.out.2.2.2.2.2.2
     have HS6:=Lh (HS.out.next HB6.out)
     have HE6:=Lh (HE2.out.next HB6.out)
     have HBL6:=Lh (HBL.out.trans (HB6.out.mono HBL.out.size))
     have hgsl:gs < wr.heap.size:=lt_of_block HS.out
     have hgel:ge < wr.heap.size:=lt_of_block HE2.out
     have hbpl:w.heap.size < wr.heap.size:=by have:=HLT.out;omega
     have HF6:=Lh ((HB6.out.cell (p:=⟨w.heap.size,2,none⟩) hbpl).trans HF.out)
     have HR5:=Lh (show ∀ r∈[o.a,o.b,o.c,o.d,o.e],r < (n:Int) from fun r hr=>by have:=HREG.out r hr;have:=HN.out;omega)
     have HNL:=Lh (show (notesTo p (endsF p.ops) k).length=n by rw [notes_len,HN.out];rfl)
     have HLL:=Lh (show w.heap.size < gs∧gs < wr.heap.size∧ge < wr.heap.size∧gs < ge∧wr.heap.size≤W5.heap.size∧W5.heap.size < W6.heap.size from ⟨by have:=HLT.out;omega,hgsl,hgel,HGE.out,by have:=HZ5.out;omega,HZ5.out.2⟩)
     clear hf2 hgsl hgel hbpl
     by_cases h17:kd=17
     · have e17:(kd == 17)=true:=by simpa using h17
       obtain ⟨m,q,hmk,hem,hq,_⟩:=ends_end HBAL.out HO.out (by rw [HKD.out];exact h17)
       obtain ⟨g',off',hA',hFg',_,z1,_⟩:=HOPS.out.at_ hq
       cases hA'
       have hek:(endsF p.ops)[k]? = some (m:Int):=by
         have h1:k < (endsF p.ops).length:=by rw [HEL.out];exact hlt
         rw [List.getD_eq_getElem?_getD,List.getElem?_eq_getElem h1] at hem
         rw [List.getElem?_eq_getElem h1]
         exact congrArg some hem
       have HRO:=Lh (show regsOf p.ops (endsF p.ops) o k=[o.a,o.b,o.c,o.d,o.e]++[q.d] by unfold regsOf;rw [if_pos (by rw [HKD.out];exact h17),hem,Int.toNat_natCast,hq];rfl)
       have HRQ:=Lh (regs_lt (HCF.out m q hq) q.d (by simp))
       have HQ:=Lh (And.intro ((HBL6.out.cell (p:=⟨g,off+m*8+1,none⟩) hFg').trans z1) (HE6.out.cell hek))
       have HGW:=Lh (show g < w.heap.size from hFg')
       have HMK:=Lh hmk
       clear h17 hem hq hFg' z1 hek hmk
       go_upto_region 8 with fail
       clear h60
       refine wp_code (c:=partR Tryd.f32 8) (by kernel_rfl) ?_
       refine spans_r8 (gl:=W5.heap.size) (g:=g) (off:=off) (co:=co) (m:=m) (d:=q.d) (l:=[o.a,o.b,o.c,o.d,o.e]) _ _ HF6.out HQ.out.2 HQ.out.1 hlt (by have:=HMK.out;omega) (by have:=HGW.out;have:=HLL.out;omega) (by have:=HLL.out;omega) (by have:=HLL.out;omega) HL6.out rfl hno6 (by have:=HGW.out;have:=HLL.out;omega) ?_
       intro A' c' lK lL lM lN lO lP lQ lR lS lT lU lV w7 hch7 hnum7
       have HCH7:=Lh hch7
       have HNUM7:=Lh hnum7
       have HS7:=Lh (show SpansAt w7 gs (notesTo p (endsF p.ops) k) from (hch7.block gs (lt_of_block HS6.out) (by have:=HLL.out;omega)).trans HS6.out)
       have HE7:=Lh (show EndsAt w7 ge (endsF p.ops) from (hch7.block ge (lt_of_block HE6.out) (by have:=HLL.out;omega)).trans HE6.out)
       have HF7:=Lh (show w7.cell? ⟨w.heap.size,2,none⟩=some (.slice (some ⟨g,off,none⟩) no co) from (World.cell?_of_block (w:=W6) (a:=⟨w.heap.size,2,none⟩) (hch7.block w.heap.size (by have:=HLL.out;omega) (by have:=HLL.out;omega))).trans HF6.out)
       have HBL7:=Lh (below_chg HBL6.out hch7 (fun j hj=>by have:=HLL.out;omega))
       have HSZ7:=Lh hch7.size
       clear hch7 hnum7
       go_wp2
       refine wp_code (c:=partL Tryd.f32 2) (by kernel_rfl) ?_
       refine spans_l2 (i:=k) (gs:=gs) (n:=n) (nl:=6) (sp:=notesTo p (endsF p.ops) k) (l:=[o.a,o.b,o.c,o.d,o.e]++[q.d]) _ _ HS7.out HNL.out HNUM7.out (fun j hj=>by have:=HLL.out;have:=HSZ7.out;rcases hj with hj | hj <;> omega) rfl (by decide) (fun r hr=>by rcases List.mem_append.1 hr with hr | hr;exact HR5.out r hr;(rw [List.mem_singleton.1 hr];have:=HRQ.out;have:=HN.out;omega)) ?_
       intro mM lY lZ l5 l6 l7 l8 l9 mA mB mC mD mE w8 hch8 hsp8
       have HE8:=Lh (show EndsAt w8 ge (endsF p.ops) from (hch8.block ge (lt_of_block HE7.out) (by have:=HLL.out;omega)).trans HE7.out)
       have HF8:=Lh (show w8.cell? ⟨w.heap.size,2,none⟩=some (.slice (some ⟨g,off,none⟩) no co) from (World.cell?_of_block (w:=w7) (a:=⟨w.heap.size,2,none⟩) (hch8.block w.heap.size (by have:=HLL.out;have:=HSZ7.out;omega) (by have:=HLL.out;omega))).trans HF7.out)
       have HBL8:=Lh (below_chg HBL7.out hch8 (fun j hj=>by have:=HLL.out;omega))
       have HSP8:=Lh hsp8
       clear hch8 hsp8
       go_wp2
       go_roundw
       case rel=>exact ⟨k+1,by omega,by go_num,by rw [HNX.out,HRO.out];exact HSP8.out,HE8.out,HF8.out,HBL8.out⟩
       case measure=>simp [intOf];omega
     · have e17:(kd == 17)=false:=by simpa using h17
       have HRO:=Lh (show regsOf p.ops (endsF p.ops) o k=[o.a,o.b,o.c,o.d,o.e] by unfold regsOf;rw [if_neg (by rw [HKD.out];exact h17)];rfl)
       clear h17
       go_wp2
       refine wp_code (c:=partL Tryd.f32 2) (by kernel_rfl) ?_
       refine spans_l2 (i:=k) (gs:=gs) (n:=n) (nl:=5) (sp:=notesTo p (endsF p.ops) k) (l:=[o.a,o.b,o.c,o.d,o.e]) _ _ HS6.out HNL.out (nums_blk HL6.out) (fun j hj=>by have:=HLL.out;omega) rfl (by decide) HR5.out ?_
       intro mM lY lZ l5 l6 l7 l8 l9 mA mB mC mD mE w8 hch8 hsp8
       have HE8:=Lh (show EndsAt w8 ge (endsF p.ops) from (hch8.block ge (lt_of_block HE6.out) (by have:=HLL.out;omega)).trans HE6.out)
       have HF8:=Lh (show w8.cell? ⟨w.heap.size,2,none⟩=some (.slice (some ⟨g,off,none⟩) no co) from (World.cell?_of_block (w:=W6) (a:=⟨w.heap.size,2,none⟩) (hch8.block w.heap.size (by have:=HLL.out;omega) (by have:=HLL.out;omega))).trans HF6.out)
       have HBL8:=Lh (below_chg HBL6.out hch8 (fun j hj=>by have:=HLL.out;omega))
       have HSP8:=Lh hsp8
       clear hch8 hsp8
       go_wp2
       go_roundw
       case rel=>exact ⟨k+1,by omega,by go_num,by rw [HNX.out,HRO.out];exact HSP8.out,HE8.out,HF8.out,HBL8.out⟩
       case measure=>simp [intOf];omega
   · have HZ:=Lh (show SpansAt wr gs (notesTo p (endsF p.ops) p.ops.length) by have:=HS.out;rwa [show k=p.ops.length by rw [HNO.out];omega] at this)
     have HNL:=Lh (show (notesTo p (endsF p.ops) p.ops.length).length=n by rw [notes_len,HN.out];rfl)
     have HLL:=Lh (show w.heap.size < gs∧gs < ge from ⟨by have:=HLT.out;omega,HGE.out⟩)
     have HEB:=Lh (show ∀ (k:Nat) (o:LOp),p.ops[k]? = some o→o.kind=16→(endsF p.ops).getD k 0≤p.ops.length from fun k o ho hk=>by obtain ⟨i,_,h1,h2⟩:=ends_loop HBAL.out ho hk;rw [h2];omega)
     go_wp2
     clear hlt
     go_loopg [10] (leftF p.ops.length (notesTo p (endsF p.ops) p.ops.length)+1) (fun gk bv wr=>∃ (b:Bool) (sp:List (Int×Int)),bv=.bool b∧SpansAt wr gs sp∧sp.length=n∧EndsAt wr ge (endsF p.ops)∧wr.cell? ⟨w.heap.size,2,none⟩=some (.slice Ao no co)∧Below w.heap.size w wr ∧
       Hid ((b=true→moreF p.ops (endsF p.ops) gk sp=spansF p∧leftF p.ops.length sp < gk)∧(b=false→sp=spansF p)))
     case atStart=>exact ⟨true,_,rfl,HZ.out,HNL.out,HE2.out,HF.out,HBL.out,Lh ⟨fun _=>⟨rfl,Nat.lt_succ_self _⟩,fun h=>by cases h⟩⟩
     case round =>
       rename_i k0 hk0 HS0 HE20 HBL0 HF0 HZ0
       obtain ⟨b,sp,rfl,hsp,hlen,hen,hf2,hbl,HH⟩:=hrel
       have HSX:=Lh hsp
       have HLX:=Lh hlen
       have HEX:=Lh hen
       have HBX:=Lh hbl
       have HFX:=Lh hf2
       clear hsp hlen hen hbl
       cases b
       · have HY:=Lh (HH.out.2 rfl)
         go_wp2
         go_ret
         exact ⟨gs,rfl,by have:=HLL.out;omega,by rw [←HY.out];exact HSX.out,HBX.out⟩
       · have HY:=Lh (HH.out.1 rfl)
         obtain ⟨f,hf⟩:∃ f,gk=f+1:=⟨gk - 1,by have:=HY.out.2;omega⟩
         have HFF:=Lh hf
         have HP:=Lh (pass_left (n:=p.ops.length) HEB.out p.ops.length (sp:=sp))
         clear hf
         go_wp2
         refine wp_code (c:=partL Tryd.f32 6) (by kernel_rfl) ?_
         refine spans_l6 (gs:=gs) (ge:=ge) (n:=n) (sp:=sp) (E:=endsF p.ops) (ops:=p.ops) (co:=co) _ _ HSX.out HLX.out HEX.out HEL.out (Rows.keep HOPS.out (SameOn.of_below HBX.out fun _ h=>h)) HNO.out (fun j hj=>by have h:j < w.heap.size:=hj;have:=HLL.out;have:=HBX.out.size;omega) (by have:=HLL.out;omega) (by omega) hno6 ?_
         intro mO mP nA nQ mY iS iT iU iV iW iX iY iZ i7 i8 i9 jA jB jC jD jE jF jG jH jI jJ jK jL jM jO jP jQ jR jS jT jU jV jW jX jY jZ j5 j6 j7 j8 j9 kF kG kH kI kJ kK kL kN kO kP kQ kR kS kT w9 hch9 hsp9
         have HE9:=Lh (show EndsAt w9 ge (endsF p.ops) from (hch9.block ge (lt_of_block HEX.out) (by have:=HLL.out;omega)).trans HEX.out)
         have HF9:=Lh (show w9.cell? ⟨w.heap.size,2,none⟩=some (.slice Ao no co) from (World.cell?_of_block (w:=wr) (a:=⟨w.heap.size,2,none⟩) (hch9.block w.heap.size (by have:=HLL.out;have:=lt_of_block HSX.out;omega) (by have:=HLL.out;omega))).trans HFX.out)
         have HBL9:=Lh (below_chg HBX.out hch9 (fun j hj=>by have:=HLL.out;omega))
         have HSP9:=Lh hsp9
         have HM:=Lh (show moreF p.ops (endsF p.ops) (f+1) sp=spansF p by rw [←HFF.out];exact HY.out.1)
         have HLE:=Lh (show leftF p.ops.length sp < f+1 by rw [←HFF.out];exact HY.out.2)
         have HL9:=Lh (show (passF p.ops (endsF p.ops) sp).1.length=n by unfold passF;rw [pass_len];exact HLX.out)
         obtain ⟨bb,hbb⟩:∃ x,(passF p.ops (endsF p.ops) sp).2=x:=⟨_,rfl⟩
         rw [hbb]
         have HBB:=Lh hbb
         clear hch9 hsp9 hbb hf2
         go_wp2
         go_roundg f
         case measure=>have:=HFF.out;omega
         case rel =>
           refine ⟨bb,(passF p.ops (endsF p.ops) sp).1,rfl,HSP9.out,HL9.out,HE9.out,HF9.out,HBL9.out,Lh ⟨fun h=>?_,fun h=>?_⟩⟩
           · have h1:=HM.out
             simp only [moreF] at h1
             rw [if_pos (by rw [HBB.out];exact h)] at h1
             have h2:=HP.out.2 (show (passTo p.ops (endsF p.ops) sp p.ops.length).2=true by have:=HBB.out;unfold passF at this;rw [this];exact h)
             have h3:=HLE.out
             exact ⟨h1,by unfold passF;omega⟩
           · have h1:=HM.out
             simp only [moreF] at h1
             rwa [if_neg (by rw [HBB.out,h];decide)] at h1
end Go.Proofs.YtppoiahhaclleaaDoor
