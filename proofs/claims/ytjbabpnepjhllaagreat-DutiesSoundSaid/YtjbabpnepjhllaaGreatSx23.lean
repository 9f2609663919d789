/- Part 23 of a claim; what it proves stands in its last text. -/
import Derived.Test.YtjbabpnepjhllaaGreatSx22
import Derived.Test.YtjbabpnepjhllaaGreatSx16
import Derived.Test.YtjbabpnepjhllaaGreatSx18
namespace Go.Proofs.YtjbabpnepjhllaaGreat
open Go.RowKit
set_option maxRecDepth 100000
def endE (r:Option (List Nat)):Int:=match r with | none=>9 | some _=>0
def runE (k:Krn) (rows:List (List Nat)) (r:Option (List Nat)):Int:=if fitsK k.vars rows≠0 then fitsK k.vars rows else if metK k rows=false then 9 else if 16384 < stepsK k then 10 else endE r
def RunErr (x:Int) (w:World) (e:Ending) (w':World):Prop:=∃ v,e=.returned (.tuple #[v,.int .i64 x])∧Below w.heap.size w w'
structure OutAt (w0 w:World) (A:Option Addr) (m c:Nat):Prop where
 own:∃ us:List Value,w.ownsRow w0.heap.size 68 1 (.slice A m c) m us
 below:Below w0.heap.size w0 w
set_option maxHeartbeats 20000000 in
theorem Run_any (Av Ao Ar Ai:Option Addr) (nv cv no co nr cr ni ci:Nat) (k:Krn) (rows:List (List Nat)) (r:Option (List Nat)) (w:World) (hk:KernAt w (fun q=>q < w.heap.size) [.slice Av nv cv,.slice Ao no co,.slice Ar nr cr] k) (hc:checkK k=true) (hok:∀ o∈k.ops,KOpOk o) (hin:InsAt w Ai ni ci rows) (hni:ni≤100000) (hD:DoV k.vars k.ops false 0 k.ops.length 0 (startV k rows) r) :
   Calls Tryz.prog 14 #[.agg #[.slice Av nv cv,.slice Ao no co,.slice Ar nr cr],.slice Ai ni ci] w (RunErr (runE k rows r) w):=by
 obtain ⟨W,hW⟩:∃ W,W=w.alloc (.cells #[.slice Av nv cv,.slice Ao no co,.slice Ar nr cr] 25):=⟨_,rfl⟩
 have hb:Below w.heap.size w W:=by rw [hW];exact (Below.refl _ _).alloc (Nat.le_refl _) _
 have hbox:W.heap[w.heap.size]? = some (.cells #[.slice Av nv cv,.slice Ao no co,.slice Ar nr cr] 25 (0,0)):=by rw [hW];exact heap_alloc_new w _
 have hk2:KernAt W (fun k=>k < W.heap.size) [.slice Av nv cv,.slice Ao no co,.slice Ar nr cr] k:=kern_next hk hb
 have hkb:=kbox_of hbox hk2
 have HW:=Lh hW
 have HB:=Lh hb
 have HK:=Lh hkb
 have HK2:=Lh hk2
 have HBOX:=Lh hbox
 have hv256:=(varsK_len (checkK_parts hc).1).2
 have HNV:=Lh hkb.nv.1
 have HNO:=Lh hkb.nv.2.1
 have HFT:=Lh (fun (w1:World) (h1:Below W.heap.size W w1)=>Fits_any Av Ao Ar Ai nv cv no co nr cr ni ci k rows w1 (kern_next hk2 h1) hc ((hin.next hb).next h1) hni)
 have HMT:=Lh (fun (w1:World) (h1:Below W.heap.size W w1)=>Met_any Av Ao Ar Ai nv cv no co nr cr ni ci k rows w1 (kern_next hk2 h1) hc ((hin.next hb).next h1) hni)
 have HSP:=Lh (fun (w1:World) (h1:Below W.heap.size W w1)=>Steps_any Av Ao Ar nv cv no co nr cr k w1 (kern_next hk2 h1) hc hok)
 have HST:=Lh (fun (w1:World) (h1:Below W.heap.size W w1) (hf:fitsK k.vars rows=0)=>start_any Av Ao Ar Ai nv cv no co nr cr ni ci k rows w1 (kern_next hk2 h1) hc ((hin.next hb).next h1) hni hf)
 have HDK:=Lh (doK_of hc hok)
 have HCC:=Lh hc
 have HDV:=Lh hD
 obtain ⟨ft,hft⟩:∃ ft,ft=fitsK k.vars rows:=⟨_,rfl⟩
 obtain ⟨mt,hmt⟩:∃ mt,mt=metK k rows:=⟨_,rfl⟩
 obtain ⟨sp,hsp⟩:∃ sp,sp=stepsK k:=⟨_,rfl⟩
 rw [←hft] at HFT
 rw [←hmt] at HMT
 rw [←hsp] at HSP
 have HE:=Lh (show runE k rows r=if ft≠0 then ft else if mt=false then 9 else if 16384 < sp then 10 else endE r by unfold runE;rw [←hft,←hmt,←hsp])
 have HFE:=Lh hft
 have c0:=hkb.c0
 have c1:=hkb.c1
 have c2:=hkb.c2
 clear hW hb hbox hk2 hkb hk hc hok hin hD hft hmt hsp
 go_enter Tryz.func14,Tryz.ntmps14
 go_upto_region 1 with go_in
 rw [←HW.out]
 clear HW
 go_upto_region 2 with (first | ((with_reducible refine (HFT.out _ (Below.refl _ _)).mono ?_);rintro e w1 ⟨rfl,hb1⟩;have HB1:=Lh hb1;clear hb1 c0 c1 c2) | go_in)
 clear HFT
 by_cases hz:ft=0
 rotate_left
 · have d0:(ft != 0)=true:=by rw [bne_iff_ne];exact hz
   have HX:=Lh (show runE k rows r=ft by rw [HE.out,if_pos hz])
   clear hz
   go_wp2
   go_ret2
   exact ⟨_,by rw [HX.out];rfl,HB.out.trans (HB1.out.mono HB.out.size)⟩
 subst hz
 have c0:=(HK.out.next HB1.out).c0
 have c1:=(HK.out.next HB1.out).c1
 have c2:=(HK.out.next HB1.out).c2
 cases mt
 · have HX:=Lh (show runE k rows r=9 by rw [HE.out,if_neg (by decide),if_pos rfl])
   go_wp2_with (first | ((with_reducible refine (HMT.out _ HB1.out).mono ?_);rintro e w2 ⟨rfl,hb2⟩;have HB2:=Lh (HB1.out.trans (hb2.mono HB1.out.size));clear hb2 c0 c1 c2) | go_in)
   go_ret2
   exact ⟨_,by rw [HX.out];rfl,HB.out.trans (HB2.out.mono HB.out.size)⟩
 go_upto_region 6 with (first | ((with_reducible refine (HMT.out _ HB1.out).mono ?_);rintro e w2 ⟨rfl,hb2⟩;have HB2:=Lh (HB1.out.trans (hb2.mono HB1.out.size));clear hb2 c0 c1 c2) | go_in)
 clear HMT
 have c0:=(HK.out.next HB2.out).c0
 have c1:=(HK.out.next HB2.out).c1
 have c2:=(HK.out.next HB2.out).c2
 by_cases hs:16384 < sp
 · have d1:decide ((sp:Int) > 16384)=true:=decide_eq_true (by omega)
   have d2:decide ((16384:Int) < (sp:Int))=true:=decide_eq_true (by omega)
   have d3:decide (16384 < sp)=true:=decide_eq_true hs
   have HX:=Lh (show runE k rows r=10 by rw [HE.out,if_neg (by decide),if_neg (by decide),if_pos hs])
   clear hs
   go_wp2_with (first | ((with_reducible refine (HSP.out _ HB2.out).mono ?_);rintro e w3 ⟨rfl,hb3⟩;have HB3:=Lh (HB2.out.trans (hb3.mono HB2.out.size));clear hb3) | go_in)
   go_ret2
   exact ⟨_,by rw [HX.out];rfl,HB.out.trans (HB3.out.mono HB.out.size)⟩
 have d1:decide ((sp:Int) > 16384)=false:=decide_eq_false (by omega)
 have d2:decide ((16384:Int) < (sp:Int))=false:=decide_eq_false (by omega)
 have d3:decide (16384 < sp)=false:=decide_eq_false hs
 have HX:=Lh (show runE k rows r=endE r by rw [HE.out,if_neg (by decide),if_neg (by decide),if_neg hs])
 clear HE hs
 go_upto_region 8 with (first | ((with_reducible refine (HSP.out _ HB2.out).mono ?_);rintro e w3 ⟨rfl,hb3⟩;have HB3:=Lh (HB2.out.trans (hb3.mono HB2.out.size));clear hb3 c0 c1 c2) | go_in)
 clear HSP d1 d2 d3
 have c0:=(HK.out.next HB3.out).c0
 have c1:=(HK.out.next HB3.out).c1
 have c2:=(HK.out.next HB3.out).c2
 go_upto_region 9 with (first | ((with_reducible refine (HST.out _ HB3.out HFE.out.symm).mono ?_);rintro e w8 ⟨g,rfl,hg8,hv8,hb8⟩;have HV8:=Lh hv8;have HG8:=Lh (show W.heap.size≤g from Nat.le_trans HB3.out.size hg8);have HB8:=Lh (HB3.out.trans (hb8.mono HB3.out.size));clear hb8 hv8 hg8 c0 c1 c2) | go_in)
 clear HST
 have hgl:=HV8.out.lt
 have HKB:=Lh (show ∀ w_,Chg (fun q=>q=g) w8 w_→w_.cell? ⟨w.heap.size,0,none⟩=some (.slice Av nv cv)∧w_.cell? ⟨w.heap.size,1,none⟩=some (.slice Ao no co)∧w_.cell? ⟨w.heap.size,2,none⟩=some (.slice Ar nr cr) from fun w_ h=>by
   have hx:=(h.block w.heap.size (by have:=lt_of_block HBOX.out;have:=HB8.out.size;omega) (by have:=HG8.out;have:=lt_of_block HBOX.out;omega)).trans ((HB8.out.block w.heap.size (lt_of_block HBOX.out)).trans HBOX.out)
   simp [World.cell?,hx])
 have HKG:=Lh (show ∀ w_,Chg (fun q=>q=g) w8 w_→KernAt w_ (fun q=>q < w_.heap.size∧q≠g) [.slice Av nv cv,.slice Ao no co,.slice Ar nr cr] k from fun w_ h=>by
   have h1:SameOn (fun q=>q < W.heap.size) W w_:=fun q hq=>by
     rw [h.block q (Nat.lt_of_lt_of_le hq HB8.out.size) (by have:=HG8.out;omega)]
     exact HB8.out.block q hq
   exact (HK2.out.keep h1).mono fun q hq=>⟨Nat.lt_of_lt_of_le hq (Nat.le_trans HB8.out.size h.size),by have:=HG8.out;omega⟩)
 have HEN:=Lh (fun (w1:World) (h1:Below w8.heap.size w8 w1)=>rends_new Av Ao Ar nv cv no co nr cr k w1 _ ((HKG.out w1 (Chg.of_below h1)).mono fun q hq=>hq.1) (fun k hk=>hk) (by omega) HCC.out)
 have HVS:=Lh (startJ_all (k:=k) (rows:=rows) (Nat.le_refl _)▸startJ_ok HFE.out.symm ((inK k.vars).zip rows).length:ValOk k.vars (startV k rows))
 have HDC:=Lh (fun (w1:World) (h1:Below w8.heap.size w8 w1) (Ae:Option Addr) (ne ce:Nat) (he:NumsAt w1 (fun q=>q < w1.heap.size∧q≠g) (.slice Ae ne ce) (kEnds k.ops))=>show Calls Tryz.prog 43 #[.agg #[.slice Av nv cv,.slice Ao no co,.slice Ar nr cr],.slice Ae ne ce,.int .i64 0,.int .i64 no,.slice (some ⟨g,0,none⟩) nv nv] w1 (DoSay g nv k.vars r w1) from
   do_any Av Ao Ar Ae nv cv no co nr cr ne ce k g nv HDK.out (by have:=HNV.out;omega) no 0 no (startV k rows) r w1 (by omega) (by rw [HNO.out];exact live_all k) (by rw [HNO.out];exact HDV.out) ⟨HKG.out w1 (Chg.of_below h1),he⟩ (HV8.out.next h1) HVS.out)
 have hb0:Below w8.heap.size w8 w8.drew:=(Below.refl _ _).drew
 have HGL:=Lh hgl
 clear hgl
 cases r with
 | none =>
   have HX9:=Lh (HX.out:runE k rows none=9)
   have hS:Chg (fun q=>q=g) w8 w8.drew:=Chg.of_below hb0
   (refine wp_region_lines (Chg (fun q=>q=g) w8) (by kernel_rfl) (by kernel_rfl) (Chg.of_below ((Below.refl w8.heap.size w8).drew)) ?_)
   (try simp only [])
   repeat (first | (refine runL_no (by rfl) ?_;(try simp only [Act.put,List.setIfInBounds_toArray,List.set_cons_zero,List.set_cons_succ])) | (refine runL_val (v:=?_) (by rfl) ?_ ?_;rotate_left;(focus (intro w_ hw_;obtain ⟨f0_,f1_,f2_⟩:=HKB.out w_ hw_;go_simp;(try with_reducible rfl);done));(try simp only [Act.put,List.setIfInBounds_toArray,List.set_cons_zero,List.set_cons_succ])) | (refine runL_call (f:=?_) (args:=?_) (w1:=?_) (by rfl) (by rfl) ?_ ?_;rotate_left 3;(focus (go_simp;refine ⟨⟨?_,?_⟩,?_⟩ <;> with_reducible rfl));(with_reducible refine (HEN.out _ hb0).mono ?_);rintro e_ w5 ⟨Ae,ne,ce,rfl,he5,hb5⟩;have HE5:=Lh (show NumsAt w5 (fun q=>q < w5.heap.size∧q≠g) (.slice Ae ne ce) (kEnds k.ops) from Rows.mono he5 fun q hq=>⟨hq.2,by have h1:=hq.1;have h2:=HGL.out;have h3:w8.drew.heap.size=w8.heap.size:=rfl;omega⟩);have HB5:=Lh (hb0.trans (hb5.mono hb0.size));replace hS:=(Chg.of_below HB5.out:Chg (fun q=>q=g) w8 w5);clear he5 hb5;refine ⟨_,rfl,.inr hS,?_⟩;(try simp only [Act.put,List.setIfInBounds_toArray,List.set_cons_zero,List.set_cons_succ])) | (refine runL_call (f:=?_) (args:=?_) (w1:=?_) (by rfl) (by rfl) ?_ ?_;rotate_left 3;(focus (go_simp;refine ⟨⟨?_,?_⟩,?_⟩ <;> with_reducible rfl));(with_reducible refine (HDC.out _ HB5.out Ae ne ce HE5.out).mono ?_);rintro e_ w6 ⟨hc6,hn6,_⟩;obtain rfl:=hn6 rfl;replace hS:=hS.trans hc6;clear hc6 hn6;refine ⟨_,rfl,.inr hS,?_⟩;(try simp only [Act.put,List.setIfInBounds_toArray,List.set_cons_zero,List.set_cons_succ])))
   (refine runL_nil ?_)
   have HS:=Lh hS
   clear hS hb0
   go_wp2
   go_ret2
   exact ⟨_,by rw [HX9.out];rfl,HB.out.trans ((HB8.out.trans (HS.out.below (fun k_ hlt_ hk=>by subst hk;have:=HG8.out;omega) HB8.out.size)).mono HB.out.size)⟩
 | some v2 =>
   have HX9:=Lh (HX.out:runE k rows (some v2)=0)
   have hS:Chg (fun q=>q=g) w8 w8.drew:=Chg.of_below hb0
   (refine wp_region_lines (Chg (fun q=>q=g) w8) (by kernel_rfl) (by kernel_rfl) (Chg.of_below ((Below.refl w8.heap.size w8).drew)) ?_)
   (try simp only [])
   repeat (first | (refine runL_no (by rfl) ?_;(try simp only [Act.put,List.setIfInBounds_toArray,List.set_cons_zero,List.set_cons_succ])) | (refine runL_val (v:=?_) (by rfl) ?_ ?_;rotate_left;(focus (intro w_ hw_;obtain ⟨f0_,f1_,f2_⟩:=HKB.out w_ hw_;go_simp;(try with_reducible rfl);done));(try simp only [Act.put,List.setIfInBounds_toArray,List.set_cons_zero,List.set_cons_succ])) | (refine runL_call (f:=?_) (args:=?_) (w1:=?_) (by rfl) (by rfl) ?_ ?_;rotate_left 3;(focus (go_simp;refine ⟨⟨?_,?_⟩,?_⟩ <;> with_reducible rfl));(with_reducible refine (HEN.out _ hb0).mono ?_);rintro e_ w5 ⟨Ae,ne,ce,rfl,he5,hb5⟩;have HE5:=Lh (show NumsAt w5 (fun q=>q < w5.heap.size∧q≠g) (.slice Ae ne ce) (kEnds k.ops) from Rows.mono he5 fun q hq=>⟨hq.2,by have h1:=hq.1;have h2:=HGL.out;have h3:w8.drew.heap.size=w8.heap.size:=rfl;omega⟩);have HB5:=Lh (hb0.trans (hb5.mono hb0.size));replace hS:=(Chg.of_below HB5.out:Chg (fun q=>q=g) w8 w5);clear he5 hb5;refine ⟨_,rfl,.inr hS,?_⟩;(try simp only [Act.put,List.setIfInBounds_toArray,List.set_cons_zero,List.set_cons_succ])) | (refine runL_call (f:=?_) (args:=?_) (w1:=?_) (by rfl) (by rfl) ?_ ?_;rotate_left 3;(focus (go_simp;refine ⟨⟨?_,?_⟩,?_⟩ <;> with_reducible rfl));(with_reducible refine (HDC.out _ HB5.out Ae ne ce HE5.out).mono ?_);rintro e_ w6 ⟨hc6,_,hn6⟩;obtain ⟨rfl,hv6,_⟩:=hn6 v2 rfl;have HV6:=Lh hv6;replace hS:=hS.trans hc6;clear hc6 hn6 hv6;refine ⟨_,rfl,.inr hS,?_⟩;(try simp only [Act.put,List.setIfInBounds_toArray,List.set_cons_zero,List.set_cons_succ])))
   (refine runL_nil ?_)
   have HS:=Lh hS
   clear hS hb0
   obtain ⟨c0,c1,c2⟩:=HKB.out _ HS.out
   have HOU:=Lh (Out_any Av Ao Ar nv cv no co nr cr k w6 ((HKG.out w6 HS.out).mono fun q hq=>hq.1) HCC.out)
   have HBE:=Lh (HS.out.below (fun k_ hlt_ hk=>by subst hk;have:=HG8.out;omega) HB8.out.size)
   go_upto_region 12 with (first | ((with_reducible refine HOU.out.mono ?_);rintro e w9 ⟨Al,nl,cl,rfl,ho9,hn9,hb9⟩;have HO9:=Lh ho9;have HN9:=Lh hn9;have HB9:=Lh hb9;clear ho9 hn9 hb9 c0 c1 c2) | go_in)
   clear HOU HEN HDC HKB HKG
   have hnl:nl≤256:=by have:=HN9.out;have:=pickTo_len isOut k.vars k.vars.length;omega
   have HNL:=Lh (show NumsAt w9 (fun q=>q < w9.heap.size) (.slice Al nl cl) (outsK k.vars) from by
     have ho:=HO9.out
     rw [HN9.out] at ho
     rw [HN9.out]
     exact Rows.mono (nums_own ho) fun q hq=>(own_lt ho q hq).1)
   have HV9:=Lh (HV6.out.next HB9.out)
   obtain ⟨i0,hi,hz0,hz1,hz2⟩:=info_parts infoN
   have HI:=Lh (And.intro hi (And.intro hz0 (And.intro hz1 hz2)))
   clear hi hz0 hz1 hz2 HO9 HV6
   go_wp2
   go_loopw [9,10] (fun s9 s10 wr=>∃ (j:Nat) (A:Option Addr) (c:Nat),j≤nl∧s10=.int .i64 j∧s9=.slice A j c∧OutAt w9 wr A j c) (fun _ s10 _=>nl - (intOf s10).toNat)
   case atStart=>exact ⟨0,none,0,Nat.zero_le _,rfl,rfl,⟨[],World.ownsRow_nil _ _ _ _⟩,Below.refl _ _⟩
   case round =>
     obtain ⟨j,A,c,hj,rfl,rfl,hat⟩:=hrel
     have HAT:=Lh hat
     clear hat
     by_cases hlt:j < nl
     · have d1:decide (j < nl)=true:=decide_eq_true hlt
       obtain ⟨x,hx⟩:∃ x,(outsK k.vars)[j]? = some x:=⟨_,List.getElem?_eq_getElem (by have:=HN9.out;unfold outsK;omega)⟩
       obtain ⟨bl,ol,hAl,hbl,q0⟩:=NumsAt.at_ (rows_next HNL.out HAT.out.below) hx
       have hxm:=pickTo_mem (List.mem_of_getElem? hx)
       obtain ⟨px,rfl⟩:∃ p:Nat,x=p:=⟨x.toNat,by omega⟩
       have hpv:px < v2.length:=by have h1:=HV9.out.len;have h2:=HNV.out;omega
       obtain ⟨y,hy⟩:∃ y,v2[px]? = some y:=⟨_,List.getElem?_eq_getElem hpv⟩
       obtain ⟨A1,m1,e1,y0,_,hny⟩:=(HV9.out.next HAT.out.below).get hy
       subst hAl
       have HTR:=Lh (tTrim hny.num)
       obtain ⟨us,hown⟩:=HAT.out.own
       have HOWN:=Lh hown
       have i1:(0:Int)≤(j:Int):=by omega
       have i2:(j:Int) < (nl:Int):=by omega
       have i3:IntKind.i64.wrap (j:Int)=j:=by rw [IntKind.wrap_i64];omega
       have i5:(0:Int)≤(px:Int):=by omega
       have i6:(px:Int) < (nv:Int):=by have:=HNV.out;omega
       have i7:IntKind.i64.wrap (px:Int)=px:=by rw [IntKind.wrap_i64];omega
       clear hx hbl hxm hpv hy hny hown
       go_wp2_with (first
         | ((with_reducible refine HTR.out.mono ?_);rintro e_ w5 ⟨A5,n5,c5,rfl,g1_,g2_,g3_,hb5⟩;clear g1_ g2_ g3_;have HB5r:=Lh hb5;have HB5:=Lh (HAT.out.below.trans (hb5.mono HAT.out.below.size));clear hb5)
         | (at_builtin;refine wpList_append_own_at _ rfl _ _ 26 rfl w9.heap.size 68 i0 (.slice none 0 0) 1 24 Tryz.underlying26 HI.out.1 HI.out.2.1 HI.out.2.2.1 HI.out.2.2.2 rfl (by decide) (.slice A j c) j us rfl ((HOWN.out.kept (grownBy_of_below HB5r.out) (by cases hh:(Value.slice A j c).ownBlock <;> simp)).alloc _) ⟨w5.heap.size,0,none⟩ 1 1 [Value.slice A5 n5 c5] rfl (by rfl) (World.news_of_block (cs:=#[.slice A5 n5 c5]) (t:=68) (fr:=(0,0)) (heap_alloc_new w5 _)) (by simp [Value.oneCell']) (by unfold maxLen;omega) (by omega) (by have:=HB5.out.size;simp;omega) ?_;intro v' w7 ho7 hg7 _ _;obtain ⟨A7,c7,rfl⟩:=own_form ho7;have HO7:=Lh ho7;have HG7:=Lh hg7;clear ho7 hg7)
         | go_in)
       go_roundw
       case rel =>
         refine ⟨j+1,A7,c7,hlt,by go_num,rfl,⟨_,HO7.out⟩,?_⟩
         exact Below.grown (HB5.out.alloc HB5.out.size _) HG7.out (by have:=HB5.out.size;simp;omega) fun k hk=>(own_lt HOWN.out k hk).2
       case measure=>simp [intOf];omega
     · have d1:decide (j < nl)=false:=decide_eq_false hlt
       go_wp2
       go_ret2
       exact ⟨_,by rw [HX9.out];rfl,HB.out.trans (((HB8.out.trans HBE.out).trans ((HB9.out.trans (HAT.out.below.mono HB9.out.size)).mono (Nat.le_trans HB8.out.size HS.out.size))).mono HB.out.size)⟩
end Go.Proofs.YtjbabpnepjhllaaGreat
namespace Go.Proofs.YtjbabpnepjhllaaGreat
open Go.RowKit
set_option maxRecDepth 100000
def NumsNew (l:List Int) (w:World) (e:Ending) (w':World):Prop:=∃ A n c,e=.returned (.slice A n c)∧NumsAt w' (fun k=>w.heap.size≤k∧k < w'.heap.size) (.slice A n c) l∧Below w.heap.size w w'
set_option maxHeartbeats 8000000 in
theorem lends_new (Av Ao Ar:Option Addr) (nv cv no co nr cr:Nat) (k:Krn) (w:World) (F:Nat→Prop) (hk:KernAt w F [.slice Av nv cv,.slice Ao no co,.slice Ar nr cr] k) (hF:∀ k,F k→k < w.heap.size) (hvn:k.vars.length≤100000) (hc:checkK k=true) :
   Calls Tryz.prog 47 #[.agg #[.slice Av nv cv,.slice Ao no co,.slice Ar nr cr]] w (NumsNew (kEnds k.ops) w):=by
 obtain ⟨W,hW⟩:∃ W,W=w.alloc (.cells #[.slice Av nv cv,.slice Ao no co,.slice Ar nr cr] 25):=⟨_,rfl⟩
 have hb:Below w.heap.size w W:=by rw [hW];exact (Below.refl _ _).alloc (Nat.le_refl _) _
 have hz:W.heap.size=w.heap.size+1:=by rw [hW];simp
 have hbox:W.heap[w.heap.size]? = some (.cells #[.slice Av nv cv,.slice Ao no co,.slice Ar nr cr] 25 (0,0)):=by rw [hW];exact heap_alloc_new w _
 have hk2:KernAt W (fun k=>k < W.heap.size) [.slice Av nv cv,.slice Ao no co,.slice Ar nr cr] k:=(hk.keep (SameOn.of_below hb hF)).mono fun j hj=>by have:=hF j hj;omega
 have hkb:=kbox_of hbox hk2
 have hchk:=lcheck_any Av Ao Ar nv cv no co nr cr k W _ hk2 (fun k hk=>hk) hvn
 rw [show errK k=0 by unfold errK;rw [hc];rfl] at hchk
 have HW:=Lh hW
 have HB:=Lh hb
 have HK:=Lh hkb
 have HCH:=Lh hchk
 have HNO:=Lh hkb.nv.2.1
 have HBAL:=Lh (check_bal hc)
 have n6:no≤4096:=by have:=hkb.nv;have:=(checkK_parts hc).2.1;omega
 have c0:=hkb.c0
 have c1:=hkb.c1
 have c2:=hkb.c2
 clear hW hb hz hbox hk2 hkb hk hF hc hchk
 obtain ⟨i0,hi,hz0,hz1,hz2⟩:=info_parts infoI
 go_enter Tryz.func47,Tryz.ntmps47
 go_upto_region 1 with (first | go_in)
 rw [←HW.out]
 clear HW
 go_upto_region 3 with (first | ((with_reducible refine HCH.out.mono ?_);rintro e w1 ⟨rfl,hb1⟩;have HK1:=Lh (HK.out.next hb1);have HB1:=Lh (HB.out.trans (hb1.mono HB.out.size));clear hb1) | go_in)
 clear c0 c1 c2 HCH
 have hba:Below w1.heap.size w1 (w1.alloc (.cells #[.int .i64 (-1)] 3)):=(Below.refl _ _).alloc (Nat.le_refl _) _
 have c1:=(HK1.out.next hba).c1
 have HRP:=Lh (Repeat_Int [.int .i64 (-1)] rfl (by simp [Value.oneCell']) w1.heap.size 0 1 no (by omega) (w1.alloc (.cells #[.int .i64 (-1)] 3)) (by simp) (fun j v h=>by
   match j,h with
   | 0,h=>cases h;rw [Nat.zero_add];exact cell_new w1 _ _ rfl
   | j+1,h=>cases h))
 have HBA:=Lh hba
 clear hba
 go_upto_region 4 with (first | ((with_reducible refine HRP.out.mono ?_);rintro e w2 ⟨rfl,hg2,hb2⟩;have HG2:=Lh hg2;have HB2:=Lh (HBA.out.trans (hb2.mono HBA.out.size));clear hg2 hb2) | go_in)
 have hz1':(w1.alloc (.cells #[.int .i64 (-1)] 3)).heap.size=w1.heap.size+1:=by simp
 rw [hz1'] at HG2
 obtain ⟨g,hg⟩:∃ g,g=w1.heap.size+1:=⟨_,rfl⟩
 rw [←hg] at HG2 ⊢
 have HST:=Lh (show EndAt w1 w2 g (kTo k.ops 0).1 (kTo k.ops 0).2 (.slice none 0 0) 0 from ⟨HB2.out,by omega,by
   have h:=HG2.out
   rw [show (intV (kTo k.ops 0).1)=repV [.int .i64 (-1)] no by unfold kTo intV repV;rw [←HNO.out];simp]
   exact h,World.ownsRow_nil _ _ _ _,by simp [Value.ownBlock]⟩)
 have HK2:=Lh (HK1.out.next HB2.out)
 clear c1 hz1' hg HG2 HRP HBA
 have c1:=HK2.out.c1
 go_wp2
 go_loopw [4,5,6,7,19] (fun s4 _ _ _ i wr=>∃ (j m:Nat) (A:Option Addr) (c:Nat),j≤no∧i=.int .i64 j∧s4=.slice A m c∧EndAt w1 wr g (kTo k.ops j).1 (kTo k.ops j).2 (.slice A m c) m) (fun _ _ _ _ i _=>no - (intOf i).toNat)
 case atStart=>exact ⟨0,0,none,0,by omega,rfl,rfl,HST.out⟩
 case round =>
   obtain ⟨j,m,A,c,hj,rfl,rfl,he⟩:=hrel
   have HER:=Lh he
   by_cases hlt:j < no
   · have d1:decide (j < no)=true:=decide_eq_true hlt
     obtain ⟨o,hx⟩:∃ v,k.ops[j]? = some v:=⟨_,List.getElem?_eq_getElem (by have:=HNO.out;omega)⟩
     have HNX:=Lh (kTo_next hx)
     have hsl:m≤j:=by
       have h1:=he.len
       have h2:∀ i,(kTo k.ops i).2.length≤i:=by
         intro i
         induction i with
         | zero=>simp [kTo]
         | succ i ih =>
           unfold kTo
           split
           · unfold kStep
             split
             · simp only [List.length_cons];omega
             · split
               · split
                 · rename_i h;rw [h] at ih;simp only [List.length_cons] at ih;simp only;omega
                 · omega
               · omega
           · omega
       have:=h2 j
       omega
     have HSX:=Lh (show o.kind=16→(kTo k.ops j).2≠[] from HBAL.out.some_ j o hx)
     have hbx:∀ x∈(kTo k.ops j).2,x < j:=kS_lt k.ops j
     have HBX:=Lh hbx
     obtain ⟨gg,off,hA,hgg,x0,x1,x2,x3,x4,x5,x6⟩:=(HK1.out.next he.below).ops.at_ hx
     subst hA
     have i0':(0:Int)≤(j:Int):=by omega
     have i1:(j:Int) < (no:Int):=by omega
     clear he hgg hx hbx
     go_upto_region 8 with (first | go_in)
     obtain ⟨WO,hWO⟩:∃ W,W=wr.alloc (.cells #[.int .i64 o.kind,.int .i64 o.d,.int .i64 o.e,.int .i64 o.a,.int .i64 o.b,.int .i64 o.c,.int .u64 o.imm] 43):=⟨_,rfl⟩
     rw [←hWO]
     have hbo:Below wr.heap.size wr WO:=by rw [hWO];exact (Below.refl _ _).alloc (Nat.le_refl _) _
     have hob:OpBox WO wr.heap.size o:=OpBox.of (t:=43) (fr:=(0,0)) (by rw [hWO];exact heap_alloc_new wr _)
     have HEO:=Lh (HER.out.next hbo)
     have y0:=hob.kind
     clear hWO hbo hob x0 x1 x2 x3 x4 x5 x6
     by_cases h15:o.kind=15
     · have e15:(o.kind == 15)=true:=by rw [beq_iff_eq];exact h15
       have HN:=Lh (show kTo k.ops (j+1)=((kTo k.ops j).1,j :: (kTo k.ops j).2) by rw [HNX.out];unfold kStep;rw [if_pos h15])
       clear h15
       go_wp2_with (first
         | (at_builtin;refine wpList_append_own_at _ rfl _ _ 50 rfl w1.heap.size 3 i0 (.int .i64 0) 1 8 Tryz.underlying50 hi hz0 hz1 hz2 rfl (by decide) (.slice A m c) m _ rfl (HEO.out.row.alloc _) ⟨WO.heap.size,0,none⟩ 1 1 [Value.int .i64 (j:Int)] rfl (by rfl) (cells_new_at WO #[Value.int .i64 (j:Int)] 3) (by simp [Value.oneCell']) (by unfold maxLen;omega) (by omega) (by have:=HEO.out.below.size;simp;omega) ?_;intro v' w6 ho6 hg6 _ hw6
            have HO6:=Lh ho6
            have HG6:=Lh hg6
            have HW6:=Lh hw6
            obtain ⟨A6,c6,rfl⟩:=own_form ho6
            clear ho6 hg6 hw6)
         | go_in)
       go_roundw
       case rel =>
         refine ⟨j+1,m+1,A6,c6,hlt,by go_num,rfl,?_⟩
         rw [HN.out]
         have hlt2:=lt_of_block HEO.out.blk
         refine ⟨(HEO.out.below.alloc HEO.out.below.size _).grown HG6.out (by have:=HEO.out.below.size;simp;omega) (fun q e=>(own_lt HEO.out.row q e).2),HEO.out.ge,?_,?_,?_⟩
         · refine (HG6.out.block g (by simp;omega) (fun e=>HEO.out.ne e.symm)).trans ((Below.heap_alloc WO _ g hlt2).trans HEO.out.blk)
         · have:=HO6.out
           simpa [intV] using this
         · rcases HW6.out with h | h
           · rw [h];exact HEO.out.ne
           · rw [h];intro e
             have e2:=Option.some.inj e
             simp at e2
             omega
       case measure=>simp [intOf];omega
     have e15:(o.kind == 15)=false:=beq_eq_false_iff_ne.2 h15
     by_cases h16:o.kind=16
     · have e16:(o.kind == 16)=true:=by rw [beq_iff_eq];exact h16
       obtain ⟨q,st,hst⟩:∃ q st,(kTo k.ops j).2=q :: st:=by
         cases h:(kTo k.ops j).2 with
         | nil=>exact absurd h (HSX.out h16)
         | cons q st=>exact ⟨q,st,rfl⟩
       have hqj:q < j:=HBX.out q (by rw [hst];exact List.mem_cons_self ..)
       have HN:=Lh (show kTo k.ops (j+1)=(((kTo k.ops j).1.set j (q:Int)).set q (j:Int),st) by
         rw [HNX.out];unfold kStep;rw [if_neg h15,if_pos h16,hst]
         simp only
         rw [List.set_comm _ _ (by omega)])
       have hml:m=st.length+1:=by rw [←HEO.out.len,hst];rfl
       have hlo:=kTo_len k.ops j
       obtain ⟨uj,huj⟩:∃ u,(kTo k.ops j).1[j]? = some u:=⟨_,List.getElem?_eq_getElem (by have:=HNO.out;omega)⟩
       obtain ⟨uq,huq⟩:∃ u,((kTo k.ops j).1.set j (q:Int))[q]? = some u:=⟨_,List.getElem?_eq_getElem (by rw [List.length_set];have:=HNO.out;omega)⟩
       have HUJ:=Lh huj
       have HUQ:=Lh huq
       have HEO:=Lh (hst▸HEO.out)
       obtain ⟨gl,cl,hA,_,_⟩:=own_some HEO.out.row (by omega)
       cases hA
       have htop:∀ w_,EndAt w1 w_ g (kTo k.ops j).1 (q :: st) (.slice (some ⟨gl,0,none⟩) m c) m→w_.cell? ⟨gl,st.length,none⟩=some (.int .i64 (q:Int)):=fun w_ h=>own_cell h.row (by simp [intV])
       have HTOP:=Lh htop
       have i2:(0:Int)≤(st.length:Int):=by omega
       have i3:(st.length:Int) < (m:Int):=by omega
       have i4:IntKind.i64.wrap (st.length:Int)=st.length:=by rw [IntKind.wrap_i64];omega
       have i5:(0:Int)≤(q:Int):=by omega
       have i6:(q:Int) < (no:Int):=by omega
       have i7:IntKind.i64.wrap (q:Int)=q:=by rw [IntKind.wrap_i64];omega
       have i8:IntKind.i64.wrap (j:Int)=j:=by rw [IntKind.wrap_i64];omega
       have i9:(m:Int) - 1=(st.length:Int):=by omega
       obtain ⟨sl,hsl2⟩:∃ n,n=st.length:=⟨_,rfl⟩
       rw [←hsl2] at i2 i3 i4 i9 hml HTOP
       have HML:=Lh hml
       have HSL:=Lh hsl2
       clear h15 h16 hst hqj hlo huj huq htop hml hsl2
       go_upto_region 13 with (first | go_in)
       have HS1:=Lh (HEO.out.set j (q:Int))
       have HS2:=Lh (HS1.out.set q (j:Int))
       (refine wp_region_stages (fun k_ w_=>((fun k=>k == 6 || k == 10) k_=true→(fun w_=>EndAt w1 w_ g (kTo k.ops j).1 (q :: st) (.slice (some ⟨gl,0,none⟩) m c) m) w_)∧(fun _=>True) w_) (by kernel_rfl) (by kernel_rfl) (fun _=>⟨fun _=>((And.intro (HEO.out.next (Below.refl _ _).drew) trivial)).1,((And.intro (HEO.out.next (Below.refl _ _).drew) trivial)).2⟩) ?_)
       (try simp only [])
       repeat (first | (refine runK_no (by rfl) ?_;(try simp only [Act.put,List.setIfInBounds_toArray,List.set_cons_zero,List.set_cons_succ])) | (refine runK_val (v:=?_) (by rfl) ?_ ?_;rotate_left;(focus (intro w_ hw_;obtain ⟨hE_,f2_⟩:=hw_;skip;(try (replace hE_:=hE_ (by decide);have f1_:=HTOP.out _ hE_));go_simp;(try with_reducible rfl);done));(try simp only [Act.put,List.setIfInBounds_toArray,List.set_cons_zero,List.set_cons_succ])) | (refine runK_skip (w1:=WO.drew.setCell ⟨g,j,none⟩ (.int .i64 (q:Int))) (by rfl) (by rfl) (exec_store1 3 _ _ rfl g j _ rfl rfl (by kernel_rfl) (by show (World.cell? WO _).isSome=true;rw [HEO.out.cell HUJ.out];rfl) (HEO.out.frozen j) rfl) (fun k_ hk_=>⟨fun hc_=>(free_crit (C:=(fun k=>k == 6 || k == 10)) (by kernel_rfl) k_ hk_ hc_).elim,trivial⟩) ?_;(try simp only [Act.put])) | (refine runK_skip (w1:=(WO.drew.setCell ⟨g,j,none⟩ (.int .i64 (q:Int))).setCell ⟨g,q,none⟩ (.int .i64 (j:Int))) (by rfl) (by rfl) (exec_store1 3 _ _ rfl g q _ rfl rfl (by kernel_rfl) (by show (World.cell? (WO.setCell _ _) _).isSome=true;rw [HS1.out.cell HUQ.out];rfl) (HS1.out.frozen q) rfl) (fun k_ hk_=>⟨fun hc_=>(free_crit (C:=(fun k=>k == 6 || k == 10)) (by kernel_rfl) k_ hk_ hc_).elim,trivial⟩) ?_;(try simp only [Act.put])))
       (refine runK_nil ?_)
       have HS3:=Lh (show EndAt w1 ((WO.drew.setCell ⟨g,j,none⟩ (.int .i64 (q:Int))).setCell ⟨g,q,none⟩ (.int .i64 (j:Int))) g (((kTo k.ops j).1.set j (q:Int)).set q (j:Int)) st (.slice (some ⟨gl,0,none⟩) sl c) sl from by
         have h:=(HEO.out.next (Below.refl _ _).drew).set j (q:Int) |>.set q (j:Int)
         refine ⟨h.below,h.ge,h.blk,?_,h.ne⟩
         have h2:=own_cut h.row (m:=sl) (by have:=HML.out;omega)
         rw [HSL.out] at h2 ⊢
         simpa [intV] using h2)
       go_wp2
       go_roundw
       case rel=>exact ⟨j+1,sl,_,c,hlt,by go_num,rfl,by rw [HN.out];exact HS3.out⟩
       case measure=>simp [intOf];omega
     · have e16:(o.kind == 16)=false:=beq_eq_false_iff_ne.2 h16
       have HN:=Lh (show kTo k.ops (j+1)=kTo k.ops j by rw [HNX.out];unfold kStep;rw [if_neg h15,if_neg h16])
       clear h15 h16
       go_wp2
       go_roundw
       case rel=>exact ⟨j+1,m,A,c,hlt,by go_num,rfl,by rw [HN.out];exact HEO.out⟩
       case measure=>simp [intOf];omega
   · have d1:decide (j < no)=false:=decide_eq_false hlt
     have e:j=no:=by omega
     subst e
     have HL:=Lh (show (kTo k.ops j).1=kEnds k.ops by unfold kEnds;rw [←HNO.out])
     have hlen:(kEnds k.ops).length=j:=by rw [←HL.out,kTo_len,←HNO.out]
     have HLN:=Lh hlen
     clear he hlen
     go_wp2
     go_ret
     have hblk:=HER.out.blk
     rw [HL.out] at hblk
     have hn:=nums_blk hblk
     rw [HLN.out] at hn
     exact ⟨_,_,_,rfl,Rows.mono hn (fun q hq=>by subst hq;exact ⟨Nat.le_trans HB1.out.size HER.out.ge,lt_of_block hblk⟩),HB1.out.trans (HER.out.below.mono HB1.out.size)⟩
end Go.Proofs.YtjbabpnepjhllaaGreat
namespace Go.Proofs.YtjbabpnepjhllaaGreat
open Go.RowKit
set_option maxRecDepth 100000
set_option maxHeartbeats 8000000 in
theorem Start_new (Av Ao Ar:Option Addr) (nv cv no co nr cr:Nat) (k:Krn) (w:World) (F:Nat→Prop) (hk:KernAt w F [.slice Av nv cv,.slice Ao no co,.slice Ar nr cr] k) (hF:∀ k,F k→k < w.heap.size) (hvn:k.vars.length≤100000) :
   Calls Tryz.prog 25 #[.agg #[.slice Av nv cv,.slice Ao no co,.slice Ar nr cr]] w (FactsIn (fun _=>False) (startF k) w):=by
 obtain ⟨W,hW⟩:∃ W,W=w.alloc (.cells #[.slice Av nv cv,.slice Ao no co,.slice Ar nr cr] 25):=⟨_,rfl⟩
 have hb:Below w.heap.size w W:=by rw [hW];exact (Below.refl _ _).alloc (Nat.le_refl _) _
 have hz:W.heap.size=w.heap.size+1:=by rw [hW];simp
 have hbox:W.heap[w.heap.size]? = some (.cells #[.slice Av nv cv,.slice Ao no co,.slice Ar nr cr] 25 (0,0)):=by rw [hW];exact heap_alloc_new w _
 have hk2:KernAt W (fun k=>k < W.heap.size) [.slice Av nv cv,.slice Ao no co,.slice Ar nr cr] k:=(hk.keep (SameOn.of_below hb hF)).mono fun j hj=>by have:=hF j hj;omega
 have hkb:=kbox_of hbox hk2
 have HCH:=Lh (fun (w1:World) (h1:Below W.heap.size W w1)=>lcheck_any Av Ao Ar nv cv no co nr cr k w1 _ (kern_next hk2 h1) (fun k hk=>hk) hvn)
 have HW:=Lh hW
 have HB:=Lh hb
 have HK:=Lh hkb
 have HNR:=Lh hkb.nv.2.2
 have HOK:=Lh hk.reqs
 obtain ⟨WM,hWM⟩:∃ WM,WM=W.alloc (.map #[] 0):=⟨_,rfl⟩
 have hbm:Below W.heap.size W WM:=by rw [hWM];exact (Below.refl _ _).alloc (Nat.le_refl _) _
 have hs:SetAt WM W.heap.size 0 []:=by rw [hWM];exact SetAt.made W
 have HWM:=Lh hWM
 have HBM:=Lh hbm
 have HS:=Lh hs
 have c0:=(hkb.next hbm).c0
 have c1:=(hkb.next hbm).c1
 have c2:=(hkb.next hbm).c2
 have HZ:=Lh (show WM.heap.size=W.heap.size+1 by rw [hWM];simp)
 have hmm:=@run_makeMap Tryz.prog
 cases hc:checkK k
 · have HX:=Lh (show startF k=[] by unfold startF;rw [hc];rfl)
   have he:errK k=2:=by unfold errK;rw [hc];rfl
   rw [he] at HCH
   clear hW hb hz hbox hk2 hkb hk hF hWM hbm hs hc he
   go_enter Tryz.func25,Tryz.ntmps25
   go_upto_region 1 with (first | go_in)
   rw [←HW.out]
   clear HW
   go_upto_region 2 with (first | go_in)
   rw [←HWM.out]
   clear HWM
   go_wp2_with (first | ((with_reducible refine (HCH.out _ HBM.out).mono ?_);rintro e w1 ⟨rfl,hb1⟩;have HB1:=Lh hb1;clear hb1) | go_in)
   go_ret
   rw [HX.out]
   exact ⟨none,0,0,rfl,facts_nil _ _,HB.out.trans ((HBM.out.trans (HB1.out.mono HBM.out.size)).mono HB.out.size)⟩
 have HX:=Lh (show startF k=putsF [] (k.reqs.map needsF).flatten by unfold startF;rw [hc];rfl)
 have he:errK k=0:=by unfold errK;rw [hc];rfl
 have n5:nr≤4096:=by have:=hkb.nv;have:=(checkK_parts hc).2.2.1;omega
 rw [he] at HCH
 clear hW hb hz hbox hk2 hkb hk hF hWM hbm hs hc he
 go_enter Tryz.func25,Tryz.ntmps25
 go_upto_region 1 with (first | go_in)
 rw [←HW.out]
 clear HW
 go_upto_region 2 with (first | go_in)
 rw [←HWM.out]
 clear HWM
 go_upto_region 4 with (first | ((with_reducible refine (HCH.out _ HBM.out).mono ?_);rintro e w1 ⟨rfl,hb1⟩;have HB1:=Lh (HBM.out.trans (hb1.mono HBM.out.size));have HS1:=Lh (HS.out.keep (hb1.block W.heap.size (by have:=HZ.out;omega)));clear hb1) | go_in)
 clear c0 c1 c2
 have c2:=(HK.out.next HB1.out).c2
 have HSZ:=Lh (show W.heap.size < w1.heap.size from HS1.out.lt)
 go_wp2
 go_loopw [5,13] (fun _ i wr=>∃ j N:Nat,j≤nr∧i=.int .i64 j∧N≤3*j∧SetAt wr W.heap.size N (putsF [] ((k.reqs.take j).map needsF).flatten)∧Below W.heap.size W wr) (fun _ i _=>nr - (intOf i).toNat)
 case atStart=>exact ⟨0,0,by omega,rfl,by omega,HS1.out,HB1.out⟩
 case round =>
   obtain ⟨j,N,hj,rfl,hN,hs,hb⟩:=hrel
   have HSR:=Lh hs
   have HBR:=Lh hb
   by_cases hlt:j < nr
   · have d1:decide (j < nr)=true:=decide_eq_true hlt
     obtain ⟨o,hx⟩:∃ v,k.reqs[j]? = some v:=⟨_,List.getElem?_eq_getElem (by have:=HNR.out;omega)⟩
     obtain ⟨gg,off,hA,hgg,x0,x1,x2,x3,x4,x5,x6⟩:=(HK.out.next hb).reqs.at_ hx
     subst hA
     have HN:=Lh (show ((k.reqs.take (j+1)).map needsF).flatten=((k.reqs.take j).map needsF).flatten++needsF o by rw [List.take_add_one,hx];simp)
     have HOX:=Lh (needsF_ok (HOK.out o (List.mem_of_getElem? hx)))
     have i0:(0:Int)≤(j:Int):=by omega
     have i1:(j:Int) < (nr:Int):=by omega
     have hsl:=hs.lt
     clear hs hb hgg hx
     go_upto_region 7 with (first | go_in)
     obtain ⟨WO,hWO⟩:∃ W,W=wr.alloc (.cells #[.int .i64 o.kind,.int .i64 o.d,.int .i64 o.e,.int .i64 o.a,.int .i64 o.b,.int .i64 o.c,.int .u64 o.imm] 43):=⟨_,rfl⟩
     rw [←hWO]
     have hbo:Below wr.heap.size wr WO:=by rw [hWO];exact (Below.refl _ _).alloc (Nat.le_refl _) _
     have hob:OpBox WO wr.heap.size o:=OpBox.of (t:=43) (fr:=(0,0)) (by rw [hWO];exact heap_alloc_new wr _)
     have HBO:=Lh hbo
     have y0:=hob.kind
     have y1:=hob.d
     have y2:=hob.e
     have y3:=hob.a
     have y4:=hob.b
     have y5:=hob.c
     have y6:=hob.imm
     have HND:=Lh (show Calls Tryz.prog 39 #[.agg #[.int .i64 o.kind,.int .i64 o.d,.int .i64 o.e,.int .i64 o.a,.int .i64 o.b,.int .i64 o.c,.int .u64 o.imm]] WO (SortedSays WO.heap.size (needsF o) WO) from Needs_any o WO)
     have HPT:=Lh (fun (w2:World) (A:Option Addr) (c:Nat) (h1:Below WO.heap.size WO w2) (h2:w2.ownsRow WO.heap.size 45 3 (.slice A (needsF o).length c) (needsF o).length (cellsOfF (needsF o)))=>put_any (b:=W.heap.size) (N:=N) (l:=putsF [] ((k.reqs.take j).map needsF).flatten) w2 (fun q=>(Value.slice A (needsF o).length c).ownBlock=some q)
       (HSR.out.keep ((HBO.out.trans (h1.mono HBO.out.size)).block _ hsl)) (facts_own h2) (fun q hq=>by have:=own_lt h2 q hq;have:=HBO.out.size;exact ⟨this |> fun _=>(own_lt h2 q hq).1,by have:=(own_lt h2 q hq).2;omega⟩) HOX.out (by have:=needsF_len o;omega))
     clear hWO hbo hob x0 x1 x2 x3 x4 x5 x6
     go_wp2_with (first
       | ((with_reducible refine HND.out.mono ?_);rintro e w2 ⟨v2,rfl,ho2,hb2⟩;obtain ⟨A2,e2,rfl⟩:=own_form ho2;have HO2:=Lh ho2;have HB2:=Lh hb2;clear ho2 hb2)
       | ((with_reducible refine (HPT.out w2 A2 e2 HB2.out HO2.out).mono ?_);rintro e w3 ⟨rfl,hs3,hc3⟩;have HS3:=Lh hs3;have HC3:=Lh hc3;clear hs3 hc3)
       | go_in)
     go_roundw
     case rel =>
       refine ⟨j+1,N+(needsF o).length,hlt,by go_num,by have:=needsF_len o;omega,by rw [HN.out,puts_app];exact HS3.out,?_⟩
       have h1:=HBO.out.trans (HB2.out.mono HBO.out.size)
       have h2:=HBR.out.trans (h1.mono HBR.out.size)
       exact h2.trans (HC3.out.below (fun q hq e=>by omega) h2.size)
     case measure=>simp [intOf];omega
   · have d1:decide (j < nr)=false:=decide_eq_false hlt
     have HN:=Lh (show putsF [] ((k.reqs.take j).map needsF).flatten=startF k by rw [List.take_of_length_le (by have:=HNR.out;omega),HX.out])
     have HST:=Lh (sorted_any wr hs (ord_putsF List.Pairwise.nil) (by omega))
     clear hs hb
     go_wp2_with (first | ((with_reducible refine HST.out.mono ?_);rintro e w2 ⟨v2,rfl,ho2,hb2⟩;have HO2:=Lh ho2;have HB2:=Lh hb2;clear ho2 hb2) | go_in)
     go_ret
     rw [←HN.out]
     obtain ⟨A2,e2,rfl⟩:=own_form HO2.out
     exact ⟨A2,_,e2,rfl,Rows.mono (facts_own HO2.out) (fun q hq=>.inr ⟨by have:=(own_lt HO2.out q hq).2;have:=HB.out.size;have:=HBR.out.size;omega,(own_lt HO2.out q hq).1⟩),HB.out.trans ((HBR.out.trans (HB2.out.mono HBR.out.size)).mono HB.out.size)⟩
end Go.Proofs.YtjbabpnepjhllaaGreat
namespace Go.Proofs.YtjbabpnepjhllaaGreat
open Go.RowKit
set_option maxRecDepth 100000
theorem exec_mk {P:Program} {o:Oper} {a:Act} {w w':World} {t:TypeId} {x y:Operand} {v vx vy:Value} (ho:o.op=.makeSlice t x y) (hx:a.eval x=vx) (hy:a.eval y=vy) (h:(Instr.makeSlice t vx vy).run P w=.ok v w'):(execOp a.eval o).run P w=.ok (.value v) w':=by
 unfold execOp
 simp only [ho,hx,hy,Sem.run_bind,Sem.run_pure,h,Result.andThen_ok]
theorem exec_box {P:Program} {o:Oper} {a:Act} {w w':World} {t:TypeId} {x:Operand} {v vx:Value} (ho:o.op=.box t x) (hx:a.eval x=vx) (h:(Instr.box t vx).run P w=.ok v w'):(execOp a.eval o).run P w=.ok (.value v) w':=by
 unfold execOp
 simp only [ho,hx,Sem.run_bind,Sem.run_pure,h,Result.andThen_ok]
theorem infoLk:(Tryz.prog.info? 81).map (fun i=>(i.zero,i.size,i.bytes))=some (some (.agg #[.slice none 0 0,.slice none 0 0,.slice none 0 0,.slice none 0 0,.slice none 0 0]),5,120):=by kernel_rfl
theorem box_looker (Av Ao Ar Ae Ag:Option Addr) (nv cv no co nr cr ne ce ng cg:Nat) (w:World):(Instr.box 81 (.agg #[.slice Av nv cv,.slice Ao no co,.slice Ar nr cr,.slice Ae ne ce,.slice Ag ng cg])).run Tryz.prog w=.ok (.pointer (some ⟨w.heap.size,0,none⟩)) (w.alloc (.cells #[.slice Av nv cv,.slice Ao no co,.slice Ar nr cr,.slice Ae ne ce,.slice Ag ng cg] 81)):=by
 obtain ⟨i0,hi,hz0,hz1,hz2⟩:=info_parts infoLk
 go_simp
set_option maxHeartbeats 8000000 in
theorem Ahead_any (Av Ao Ar:Option Addr) (nv cv no co nr cr:Nat) (k:Krn) (A:List (List Fct)) (w:World) (F:Nat→Prop) (hk:KernAt w F [.slice Av nv cv,.slice Ao no co,.slice Ar nr cr] k) (hF:∀ k,F k→k < w.heap.size) (hv:k.vars.length≤190) (hA:AheadIs k A) :
   Calls Tryz.prog 18 #[.agg #[.slice Av nv cv,.slice Ao no co,.slice Ar nr cr]] w (AheadSay A w):=by
 obtain ⟨W,hW⟩:∃ W,W=w.alloc (.cells #[.slice Av nv cv,.slice Ao no co,.slice Ar nr cr] 25):=⟨_,rfl⟩
 have hb:Below w.heap.size w W:=by rw [hW];exact (Below.refl _ _).alloc (Nat.le_refl _) _
 have hz:W.heap.size=w.heap.size+1:=by rw [hW];simp
 have hbox:W.heap[w.heap.size]? = some (.cells #[.slice Av nv cv,.slice Ao no co,.slice Ar nr cr] 25 (0,0)):=by rw [hW];exact heap_alloc_new w _
 have hk2:KernAt W (fun k=>k < W.heap.size) [.slice Av nv cv,.slice Ao no co,.slice Ar nr cr] k:=(hk.keep (SameOn.of_below hb hF)).mono fun j hj=>by have:=hF j hj;omega
 have hkb:=kbox_of hbox hk2
 have HCH:=Lh (fun (w1:World) (h1:Below W.heap.size W w1)=>lcheck_any Av Ao Ar nv cv no co nr cr k w1 _ (kern_next hk2 h1) (fun k hk=>hk) (by omega))
 have HW:=Lh hW
 have HB:=Lh hb
 have HK:=Lh hkb
 have HKN:=Lh hk2
 have hon:=hkb.nv.2.1
 have HV:=Lh hv
 have c0:=hkb.c0
 have c1:=hkb.c1
 have c2:=hkb.c2
 unfold AheadIs at hA
 cases hc:checkK k
 · rw [hc,if_neg (by simp)] at hA
   subst hA
   have he:errK k=2:=by unfold errK;rw [hc];rfl
   rw [he] at HCH
   clear hW hb hz hbox hk2 hkb hk hF hc he hon
   go_enter Tryz.func18,Tryz.ntmps18
   go_upto_region 1 with (first | go_in)
   rw [←HW.out]
   clear HW
   go_wp2_with (first | ((with_reducible refine (HCH.out _ (Below.refl _ _)).mono ?_);rintro e w1 ⟨rfl,hb1⟩;have HB1:=Lh hb1;clear hb1) | go_in)
   go_ret
   exact ⟨none,0,0,rfl,⟨rfl,fun i l hl=>by simp at hl⟩,HB.out.trans (HB1.out.mono HB.out.size)⟩
 rw [hc,if_pos rfl] at hA
 obtain ⟨l',hr⟩:=hA
 have HR:=Lh (show RunD k.vars k.ops false 0 no (startF k) (List.replicate k.ops.length []) l' A by rw [hon];exact hr)
 have HWS:=Lh (start_well hc)
 have HKF:=Lh (kfine_of hc hk.ops hv)
 have HLV:=Lh (show LiveK k.ops 0 no by rw [hon];exact live_all k)
 have HNO:=Lh hon
 have hno:no≤100000:=by have:=(checkK_parts hc).2.1;omega
 have HEND:=Lh (fun (w1:World) (h1:Below W.heap.size W w1)=>lends_new Av Ao Ar nv cv no co nr cr k w1 _ (kern_next hk2 h1) (fun k hk=>hk) (by omega) hc)
 have he:errK k=0:=by unfold errK;rw [hc];rfl
 rw [he] at HCH
 have HWZ:=Lh hz
 clear hW hb hz hbox hk2 hkb hk hF hc he hon hr hv
 go_enter Tryz.func18,Tryz.ntmps18
 go_upto_region 1 with (first | go_in)
 rw [←HW.out]
 clear HW
 go_upto_region 3 with (first | ((with_reducible refine (HCH.out _ (Below.refl _ _)).mono ?_);rintro e w1 ⟨rfl,hb1⟩;have HB1:=Lh hb1;clear hb1) | go_in)
 clear c0 c1 c2
 have hS:=HB1.out.drew
 refine wp_region_branch (Below W.heap.size W) (by kernel_rfl) (by kernel_rfl) hS ?_
 show runB _ _ _ _ 10 [0,1,2,3,4,5,6,7,8,9] _ _
 refine runB_at 0 (v:=?_) (by rfl) (by rfl) (by rfl) (by kernel_rfl) (by rfl) ?_ ?_
 rotate_left
 focus (intro w_ hw_;have f0_:=(HK.out.next hw_).c0;have f1_:=(HK.out.next hw_).c1;have f2_:=(HK.out.next hw_).c2;go_simp;(try with_reducible rfl);done)
 (try dsimp only [Act.put])
 show runB _ _ _ _ 9 [1,2,3,4,5,6,7,8,9] _ _
 try simp only [List.setIfInBounds_toArray,List.set_cons_zero,List.set_cons_succ]
 refine runB_at 1 (v:=?_) (by rfl) (by rfl) (by rfl) (by kernel_rfl) (by rfl) ?_ ?_
 rotate_left
 focus (intro w_ hw_;have f0_:=(HK.out.next hw_).c0;have f1_:=(HK.out.next hw_).c1;have f2_:=(HK.out.next hw_).c2;go_simp;(try with_reducible rfl);done)
 (try dsimp only [Act.put])
 show runB _ _ _ _ 8 [2,3,4,5,6,7,8,9] _ _
 try simp only [List.setIfInBounds_toArray,List.set_cons_zero,List.set_cons_succ]
 refine runB_at 3 (v:=?_) (by rfl) (by rfl) (by rfl) (by kernel_rfl) (by rfl) ?_ ?_
 rotate_left
 focus (intro w_ hw_;have f0_:=(HK.out.next hw_).c0;have f1_:=(HK.out.next hw_).c1;have f2_:=(HK.out.next hw_).c2;go_simp;(try with_reducible rfl);done)
 (try dsimp only [Act.put])
 show runB _ _ _ _ 7 [2,4,5,6,7,8,9] _ _
 try simp only [List.setIfInBounds_toArray,List.set_cons_zero,List.set_cons_succ]
 refine runB_at 4 (v:=?_) (by rfl) (by rfl) (by rfl) (by kernel_rfl) (by rfl) ?_ ?_
 rotate_left
 focus (intro w_ hw_;have f0_:=(HK.out.next hw_).c0;have f1_:=(HK.out.next hw_).c1;have f2_:=(HK.out.next hw_).c2;go_simp;(try with_reducible rfl);done)
 (try dsimp only [Act.put])
 show runB _ _ _ _ 6 [2,5,6,7,8,9] _ _
 try simp only [List.setIfInBounds_toArray,List.set_cons_zero,List.set_cons_succ]
 refine runB_at 5 (v:=?_) (by rfl) (by rfl) (by rfl) (by kernel_rfl) (by rfl) ?_ ?_
 rotate_left
 focus (intro w_ hw_;have f0_:=(HK.out.next hw_).c0;have f1_:=(HK.out.next hw_).c1;have f2_:=(HK.out.next hw_).c2;go_simp;(try with_reducible rfl);done)
 (try dsimp only [Act.put])
 show runB _ _ _ _ 5 [2,6,7,8,9] _ _
 try simp only [List.setIfInBounds_toArray,List.set_cons_zero,List.set_cons_succ]
 refine runB_two 2 6 (by kernel_rfl) (by kernel_rfl) (by rfl) (by rfl) (by rfl) (by rfl) ?_ ?_
 · refine tdoes_call (f:=?_) (args:=?_) (w1:=?_) ?_ ?_
   rotate_left 3
   focus (go_simp;refine ⟨⟨?_,?_⟩,?_⟩ <;> with_reducible rfl)
   refine (HEND.out _ hS).mono ?_
   rintro e_ w2 ⟨Ae,ne,ce,rfl,hn2,hb2⟩
   refine ⟨_,rfl,hS.trans (hb2.mono hS.size),?_⟩
   (try dsimp only [Act.put])
   try simp only [List.setIfInBounds_toArray,List.set_cons_zero,List.set_cons_succ]
   have HE:=Lh hn2
   have HBE:=Lh hb2
   clear hn2 hb2
   show runB _ _ _ _ 4 [6,7,8,9] _ _
   have hS2:=hS.trans (HBE.out.mono hS.size)
   refine runB_one 6 (by kernel_rfl) (by kernel_rfl) (by rfl) (by rfl) ?_
   refine tdoes_op (w1:=w2.alloc (.cells (List.replicate no (Value.slice none 0 0)).toArray 39)) (v:=.slice (some ⟨w2.heap.size,0,none⟩) no no) (exec_mk (vx:=.int .i64 (no:Nat)) (vy:=.int .i64 (no:Nat)) rfl (by rfl) (by rfl) (make_rows no hno _)) ⟨hS2.alloc hS2.size _,?_⟩
   (try dsimp only [Act.put])
   try simp only [List.setIfInBounds_toArray,List.set_cons_zero,List.set_cons_succ]
   show runB _ _ _ _ 3 [7,8,9] _ _
   obtain ⟨w3,hw3⟩:∃ W,W=w2.alloc (.cells (List.replicate no (Value.slice none 0 0)).toArray 39):=⟨_,rfl⟩
   obtain ⟨ga,hgae⟩:∃ g,g=w2.heap.size:=⟨_,rfl⟩
   have hg3:w3.heap[ga]? = some (.cells (List.replicate no (Value.slice none 0 0)).toArray 39 (0,0)):=by rw [hw3,hgae];exact heap_alloc_new w2 _
   have hs3:w3.heap.size=w2.heap.size+1:=by rw [hw3];simp
   have hb3:Below w2.heap.size w2 w3:=by rw [hw3];exact (Below.refl _ _).alloc (Nat.le_refl _) _
   rw [←hw3,←hgae]
   have HE3:=Lh (show NumsAt w3 (fun q=>q < w3.heap.size∧q≠ga) (.slice Ae ne ce) (kEnds k.ops) from Rows.mono (Rows.keep HE.out (SameOn.of_below hb3 fun q hq=>hq.2)) fun q hq=>by have:=hq.2;omega)
   have hgw:W.heap.size≤ga:=by have:=hS2.size;omega
   have hS3:Below W.heap.size W w3:=hS2.trans (hb3.mono hS2.size)
   have hg3s:ga < w3.heap.size:=by omega
   clear hw3 hgae hs3 hb3 hS2 hS HE HBE
   refine runB_at 7 (v:=?_) (by rfl) (by rfl) (by rfl) (by kernel_rfl) (by rfl) ?_ ?_
   rotate_left
   focus (intro w_ hw_;have f0_:=(HK.out.next hw_).c0;have f1_:=(HK.out.next hw_).c1;have f2_:=(HK.out.next hw_).c2;go_simp;(try with_reducible rfl);done)
   (try dsimp only [Act.put])
   show runB _ _ _ _ 2 [8,9] _ _
   try simp only [List.setIfInBounds_toArray,List.set_cons_zero,List.set_cons_succ]
   refine runB_one 8 (by kernel_rfl) (by kernel_rfl) (by rfl) (by rfl) ?_
   refine tdoes_op (w1:=w3.alloc (.cells #[.slice Av nv cv,.slice Ao no co,.slice Ar nr cr,.slice Ae ne ce,.slice (some ⟨ga,0,none⟩) no no] 81)) (v:=.pointer (some ⟨w3.heap.size,0,none⟩)) (exec_box (vx:=.agg #[.slice Av nv cv,.slice Ao no co,.slice Ar nr cr,.slice Ae ne ce,.slice (some ⟨ga,0,none⟩) no no]) rfl (by rfl) (box_looker ..)) ⟨hS3.alloc hS3.size _,?_⟩
   (try dsimp only [Act.put])
   try simp only [List.setIfInBounds_toArray,List.set_cons_zero,List.set_cons_succ]
   show runB _ _ _ _ 1 [9] _ _
   obtain ⟨wl,hwl⟩:∃ W,W=w3.alloc (.cells #[.slice Av nv cv,.slice Ao no co,.slice Ar nr cr,.slice Ae ne ce,.slice (some ⟨ga,0,none⟩) no no] 81):=⟨_,rfl⟩
   obtain ⟨bx,hbxe⟩:∃ g,g=w3.heap.size:=⟨_,rfl⟩
   have hbox:wl.heap[bx]? = some (.cells #[.slice Av nv cv,.slice Ao no co,.slice Ar nr cr,.slice Ae ne ce,.slice (some ⟨ga,0,none⟩) no no] 81 (0,0)):=by rw [hwl,hbxe];exact heap_alloc_new w3 _
   have hbl3:Below w3.heap.size w3 wl:=by rw [hwl];exact (Below.refl _ _).alloc (Nat.le_refl _) _
   have hbl:Below W.heap.size W wl:=hS3.trans (hbl3.mono hS3.size)
   rw [←hwl,←hbxe]
   have hKB:=HK.out.next hbl
   have hmono:∀ q,q < W.heap.size→q < wl.heap.size∧q≠ga:=fun q hq=>by have:=hbl.size;omega
   have HLA:=Lh (look_new (k:=k) hbox ((hbl3.block ga hg3s).trans hg3) (by omega) HNO.out (Rows.mono (Rows.keep HK.out.vars (SameOn.of_below hbl fun q hq=>hq)) hmono) (Rows.mono (Rows.keep HK.out.ops (SameOn.of_below hbl fun q hq=>hq)) hmono) (Rows.mono (Rows.keep HE3.out (SameOn.of_below hbl3 fun q hq=>hq.1)) fun q hq=>⟨Nat.lt_of_lt_of_le hq.1 hbl3.size,hq.2⟩))
   have HBL:=Lh hbl
   have HGA:=Lh hgw
   have HCB:=Lh (show ∀ w_,Chg (fun q=>q=ga) wl w_→w_.cell? ⟨w.heap.size,0,none⟩=some (.slice Av nv cv)∧w_.cell? ⟨w.heap.size,1,none⟩=some (.slice Ao no co)∧w_.cell? ⟨w.heap.size,2,none⟩=some (.slice Ar nr cr) from fun w_ h_=>by
     have h1:Below W.heap.size wl w_:=h_.below (fun q hq e=>by omega) hbl.size
     have h2:=HK.out.next (hbl.trans h1)
     exact ⟨h2.c0,h2.c1,h2.c2⟩)
   clear hwl hbxe hbox hbl3 hbl hKB hmono hg3 hgw hS3 hg3s HE3
   refine runB_at 9 (v:=?_) (by rfl) (by rfl) (by rfl) (by kernel_rfl) (by rfl) ?_ ?_
   rotate_left
   focus (intro w_ hw_;have f0_:=(HK.out.next hw_).c0;have f1_:=(HK.out.next hw_).c1;have f2_:=(HK.out.next hw_).c2;go_simp;(try with_reducible rfl);done)
   (try dsimp only [Act.put])
   show runB _ _ _ _ 0 [] _ _
   try simp only [List.setIfInBounds_toArray,List.set_cons_zero,List.set_cons_succ]
   refine runB_nil ?_
   go_upto_region 4 with fail
   have HST:=Lh (fun (w5:World) (h5:Below wl.heap.size wl w5)=>Start_new Av Ao Ar nv cv no co nr cr k w5 _ (kern_next HKN.out (HBL.out.trans (h5.mono HBL.out.size))) (fun k hk=>hk) (by have:=HV.out;omega))
   have HTH:=Lh (fun (w5:World) (Al:Option Addr) (nl cl:Nat) (h5:Below wl.heap.size wl w5) (hf:FactsAt w5 (NG w5 ga) (.slice Al nl cl) (startF k))=>(show Calls Tryz.prog 48 #[.pointer (some ⟨bx,0,none⟩),.int .i64 0,.int .i64 (no:Nat),.slice Al nl cl] w5 (LookSays bx ga Av nv cv Ao no co (.slice Ar nr cr) Ae ne ce k l' A w5) from (look_all bx ga Av nv cv Ao no co (.slice Ar nr cr) Ae ne ce k HKF.out no).1 w5 (List.replicate k.ops.length []) A (startF k) l' Al nl cl 0 no (by omega) (HLA.out.next h5) hf HWS.out HLV.out HR.out))
   have hS:Chg (fun q=>q=ga) wl wl.drew:=(Chg.refl _ wl).drew
   have hS0:Below wl.heap.size wl wl.drew:=(Below.refl _ wl).drew
   (refine wp_region_lines (Chg (fun q=>q=ga) wl) (by kernel_rfl) (by kernel_rfl) ((Chg.refl (fun q=>q=ga) wl).drew) ?_)
   (try simp only [])
   repeat (first | (refine runL_no (by rfl) ?_;(try simp only [Act.put,List.setIfInBounds_toArray,List.set_cons_zero,List.set_cons_succ])) | (refine runL_val (v:=?_) (by rfl) ?_ ?_;rotate_left;(focus (intro w_ hw_;have f0_:=(HCB.out w_ hw_).1;have f1_:=(HCB.out w_ hw_).2.1;have f2_:=(HCB.out w_ hw_).2.2;go_simp;(try with_reducible rfl);done));(try simp only [Act.put,List.setIfInBounds_toArray,List.set_cons_zero,List.set_cons_succ])) | (refine runL_call (f:=?_) (args:=?_) (w1:=?_) (by rfl) (by rfl) ?_ ?_;rotate_left 3;(focus (go_simp;refine ⟨⟨?_,?_⟩,?_⟩ <;> with_reducible rfl));(with_reducible refine (HST.out _ hS0).mono ?_);rintro e_ w5 ⟨A5,n5,c5,rfl,hf5,hb5⟩;have HB5:=Lh (hS0.trans (hb5.mono hS0.size));have HF5:=Lh (show FactsAt w5 (NG w5 ga) (.slice A5 n5 c5) (startF k) from Rows.mono hf5 (fun q hq=>by rcases hq with hq | hq;exact hq.elim;have h1:=HLA.out.lt.2;have h2:wl.drew.heap.size=wl.heap.size:=rfl;exact ⟨hq.2,by omega⟩));replace hS:=hS.trans (Chg.of_below hb5);clear hf5 hb5;refine ⟨_,rfl,.inr hS,?_⟩;(try simp only [Act.put,List.setIfInBounds_toArray,List.set_cons_zero,List.set_cons_succ])) | (refine runL_call (f:=?_) (args:=?_) (w1:=?_) (by rfl) (by rfl) ?_ ?_;rotate_left 3;(focus (go_simp;refine ⟨⟨?_,?_⟩,?_⟩ <;> with_reducible rfl));(with_reducible refine (HTH.out w5 A5 n5 c5 HB5.out HF5.out).mono ?_);rintro e_ w6 ⟨A6,n6,c6,rfl,_,hla6,hch6⟩;have HL6:=Lh hla6;replace hS:=hS.trans hch6;clear hla6 hch6;refine ⟨_,rfl,.inr hS,?_⟩;(try simp only [Act.put,List.setIfInBounds_toArray,List.set_cons_zero,List.set_cons_succ])))
   (refine runL_nil ?_)
   have HS:=Lh hS
   clear hS hS0
   obtain ⟨c0,c1,c2,c3,c4⟩:=HL6.out.cell
   go_wp2
   go_ret
   exact ⟨_,_,_,rfl,HL6.out.rows,HB.out.trans ((HBL.out.trans (HS.out.below (fun q hq e=>by have:=HGA.out;omega) HBL.out.size)).mono HB.out.size)⟩
 · have hS2:=hS.alloc hS.size (.cells (List.replicate no (Value.slice none 0 0)).toArray 39)
   refine tdoes_op (w1:=w1.drew.alloc (.cells (List.replicate no (Value.slice none 0 0)).toArray 39)) (v:=.slice (some ⟨w1.drew.heap.size,0,none⟩) no no) (exec_mk (vx:=.int .i64 (no:Nat)) (vy:=.int .i64 (no:Nat)) rfl (by rfl) (by rfl) (make_rows no hno _)) ⟨hS.alloc hS.size _,?_⟩
   (try dsimp only [Act.put])
   try simp only [List.setIfInBounds_toArray,List.set_cons_zero,List.set_cons_succ]
   show runB _ _ _ _ 4 [2,7,8,9] _ _
   obtain ⟨w2,hw2⟩:∃ W,W=w1.drew.alloc (.cells (List.replicate no (Value.slice none 0 0)).toArray 39):=⟨_,rfl⟩
   obtain ⟨ga,hgae⟩:∃ g,g=w1.drew.heap.size:=⟨_,rfl⟩
   have hg2:w2.heap[ga]? = some (.cells (List.replicate no (Value.slice none 0 0)).toArray 39 (0,0)):=by rw [hw2,hgae];exact heap_alloc_new w1.drew _
   have hs2:w2.heap.size=ga+1:=by rw [hw2,hgae];simp
   rw [←hw2] at hS2 ⊢
   rw [←hgae]
   have hgw:W.heap.size≤ga:=by have:=hS.size;omega
   clear hw2 hgae hS
   refine runB_one 2 (by kernel_rfl) (by kernel_rfl) (by rfl) (by rfl) ?_
   refine tdoes_call (f:=?_) (args:=?_) (w1:=?_) ?_ ?_
   rotate_left 3
   focus (go_simp;refine ⟨⟨?_,?_⟩,?_⟩ <;> with_reducible rfl)
   refine (HEND.out _ hS2).mono ?_
   rintro e_ w3 ⟨Ae,ne,ce,rfl,hn2,hb2⟩
   refine ⟨_,rfl,hS2.trans (hb2.mono hS2.size),?_⟩
   (try dsimp only [Act.put])
   try simp only [List.setIfInBounds_toArray,List.set_cons_zero,List.set_cons_succ]
   have HE:=Lh hn2
   have HBE:=Lh hb2
   clear hn2 hb2
   show runB _ _ _ _ 3 [7,8,9] _ _
   have hS3:Below W.heap.size W w3:=hS2.trans (HBE.out.mono hS2.size)
   have hg3:w3.heap[ga]? = some (.cells (List.replicate no (Value.slice none 0 0)).toArray 39 (0,0)):=(HBE.out.block ga (by omega)).trans hg2
   have hg3s:ga < w3.heap.size:=by have:=HBE.out.size;omega
   have HE3:=Lh (show NumsAt w3 (fun q=>q < w3.heap.size∧q≠ga) (.slice Ae ne ce) (kEnds k.ops) from Rows.mono HE.out fun q hq=>by have:=hq.1;have:=hq.2;omega)
   clear hS2 hg2 hs2 HE HBE
   refine runB_at 7 (v:=?_) (by rfl) (by rfl) (by rfl) (by kernel_rfl) (by rfl) ?_ ?_
   rotate_left
   focus (intro w_ hw_;have f0_:=(HK.out.next hw_).c0;have f1_:=(HK.out.next hw_).c1;have f2_:=(HK.out.next hw_).c2;go_simp;(try with_reducible rfl);done)
   (try dsimp only [Act.put])
   show runB _ _ _ _ 2 [8,9] _ _
   try simp only [List.setIfInBounds_toArray,List.set_cons_zero,List.set_cons_succ]
   refine runB_one 8 (by kernel_rfl) (by kernel_rfl) (by rfl) (by rfl) ?_
   refine tdoes_op (w1:=w3.alloc (.cells #[.slice Av nv cv,.slice Ao no co,.slice Ar nr cr,.slice Ae ne ce,.slice (some ⟨ga,0,none⟩) no no] 81)) (v:=.pointer (some ⟨w3.heap.size,0,none⟩)) (exec_box (vx:=.agg #[.slice Av nv cv,.slice Ao no co,.slice Ar nr cr,.slice Ae ne ce,.slice (some ⟨ga,0,none⟩) no no]) rfl (by rfl) (box_looker ..)) ⟨hS3.alloc hS3.size _,?_⟩
   (try dsimp only [Act.put])
   try simp only [List.setIfInBounds_toArray,List.set_cons_zero,List.set_cons_succ]
   show runB _ _ _ _ 1 [9] _ _
   obtain ⟨wl,hwl⟩:∃ W,W=w3.alloc (.cells #[.slice Av nv cv,.slice Ao no co,.slice Ar nr cr,.slice Ae ne ce,.slice (some ⟨ga,0,none⟩) no no] 81):=⟨_,rfl⟩
   obtain ⟨bx,hbxe⟩:∃ g,g=w3.heap.size:=⟨_,rfl⟩
   have hbox:wl.heap[bx]? = some (.cells #[.slice Av nv cv,.slice Ao no co,.slice Ar nr cr,.slice Ae ne ce,.slice (some ⟨ga,0,none⟩) no no] 81 (0,0)):=by rw [hwl,hbxe];exact heap_alloc_new w3 _
   have hbl3:Below w3.heap.size w3 wl:=by rw [hwl];exact (Below.refl _ _).alloc (Nat.le_refl _) _
   have hbl:Below W.heap.size W wl:=hS3.trans (hbl3.mono hS3.size)
   rw [←hwl,←hbxe]
   have hKB:=HK.out.next hbl
   have hmono:∀ q,q < W.heap.size→q < wl.heap.size∧q≠ga:=fun q hq=>by have:=hbl.size;omega
   have HLA:=Lh (look_new (k:=k) hbox ((hbl3.block ga hg3s).trans hg3) (by omega) HNO.out (Rows.mono (Rows.keep HK.out.vars (SameOn.of_below hbl fun q hq=>hq)) hmono) (Rows.mono (Rows.keep HK.out.ops (SameOn.of_below hbl fun q hq=>hq)) hmono) (Rows.mono (Rows.keep HE3.out (SameOn.of_below hbl3 fun q hq=>hq.1)) fun q hq=>⟨Nat.lt_of_lt_of_le hq.1 hbl3.size,hq.2⟩))
   have HBL:=Lh hbl
   have HGA:=Lh hgw
   have HCB:=Lh (show ∀ w_,Chg (fun q=>q=ga) wl w_→w_.cell? ⟨w.heap.size,0,none⟩=some (.slice Av nv cv)∧w_.cell? ⟨w.heap.size,1,none⟩=some (.slice Ao no co)∧w_.cell? ⟨w.heap.size,2,none⟩=some (.slice Ar nr cr) from fun w_ h_=>by
     have h1:Below W.heap.size wl w_:=h_.below (fun q hq e=>by omega) hbl.size
     have h2:=HK.out.next (hbl.trans h1)
     exact ⟨h2.c0,h2.c1,h2.c2⟩)
   clear hwl hbxe hbox hbl3 hbl hKB hmono hg3 hgw hS3 hg3s HE3
   refine runB_at 9 (v:=?_) (by rfl) (by rfl) (by rfl) (by kernel_rfl) (by rfl) ?_ ?_
   rotate_left
   focus (intro w_ hw_;have f0_:=(HK.out.next hw_).c0;have f1_:=(HK.out.next hw_).c1;have f2_:=(HK.out.next hw_).c2;go_simp;(try with_reducible rfl);done)
   (try dsimp only [Act.put])
   show runB _ _ _ _ 0 [] _ _
   try simp only [List.setIfInBounds_toArray,List.set_cons_zero,List.set_cons_succ]
   refine runB_nil ?_
   go_upto_region 4 with fail
   have HST:=Lh (fun (w5:World) (h5:Below wl.heap.size wl w5)=>Start_new Av Ao Ar nv cv no co nr cr k w5 _ (kern_next HKN.out (HBL.out.trans (h5.mono HBL.out.size))) (fun k hk=>hk) (by have:=HV.out;omega))
   have HTH:=Lh (fun (w5:World) (Al:Option Addr) (nl cl:Nat) (h5:Below wl.heap.size wl w5) (hf:FactsAt w5 (NG w5 ga) (.slice Al nl cl) (startF k))=>(show Calls Tryz.prog 48 #[.pointer (some ⟨bx,0,none⟩),.int .i64 0,.int .i64 (no:Nat),.slice Al nl cl] w5 (LookSays bx ga Av nv cv Ao no co (.slice Ar nr cr) Ae ne ce k l' A w5) from (look_all bx ga Av nv cv Ao no co (.slice Ar nr cr) Ae ne ce k HKF.out no).1 w5 (List.replicate k.ops.length []) A (startF k) l' Al nl cl 0 no (by omega) (HLA.out.next h5) hf HWS.out HLV.out HR.out))
   have hS:Chg (fun q=>q=ga) wl wl.drew:=(Chg.refl _ wl).drew
   have hS0:Below wl.heap.size wl wl.drew:=(Below.refl _ wl).drew
   (refine wp_region_lines (Chg (fun q=>q=ga) wl) (by kernel_rfl) (by kernel_rfl) ((Chg.refl (fun q=>q=ga) wl).drew) ?_)
   (try simp only [])
   repeat (first | (refine runL_no (by rfl) ?_;(try simp only [Act.put,List.setIfInBounds_toArray,List.set_cons_zero,List.set_cons_succ])) | (refine runL_val (v:=?_) (by rfl) ?_ ?_;rotate_left;(focus (intro w_ hw_;have f0_:=(HCB.out w_ hw_).1;have f1_:=(HCB.out w_ hw_).2.1;have f2_:=(HCB.out w_ hw_).2.2;go_simp;(try with_reducible rfl);done));(try simp only [Act.put,List.setIfInBounds_toArray,List.set_cons_zero,List.set_cons_succ])) | (refine runL_call (f:=?_) (args:=?_) (w1:=?_) (by rfl) (by rfl) ?_ ?_;rotate_left 3;(focus (go_simp;refine ⟨⟨?_,?_⟩,?_⟩ <;> with_reducible rfl));(with_reducible refine (HST.out _ hS0).mono ?_);rintro e_ w5 ⟨A5,n5,c5,rfl,hf5,hb5⟩;have HB5:=Lh (hS0.trans (hb5.mono hS0.size));have HF5:=Lh (show FactsAt w5 (NG w5 ga) (.slice A5 n5 c5) (startF k) from Rows.mono hf5 (fun q hq=>by rcases hq with hq | hq;exact hq.elim;have h1:=HLA.out.lt.2;have h2:wl.drew.heap.size=wl.heap.size:=rfl;exact ⟨hq.2,by omega⟩));replace hS:=hS.trans (Chg.of_below hb5);clear hf5 hb5;refine ⟨_,rfl,.inr hS,?_⟩;(try simp only [Act.put,List.setIfInBounds_toArray,List.set_cons_zero,List.set_cons_succ])) | (refine runL_call (f:=?_) (args:=?_) (w1:=?_) (by rfl) (by rfl) ?_ ?_;rotate_left 3;(focus (go_simp;refine ⟨⟨?_,?_⟩,?_⟩ <;> with_reducible rfl));(with_reducible refine (HTH.out w5 A5 n5 c5 HB5.out HF5.out).mono ?_);rintro e_ w6 ⟨A6,n6,c6,rfl,_,hla6,hch6⟩;have HL6:=Lh hla6;replace hS:=hS.trans hch6;clear hla6 hch6;refine ⟨_,rfl,.inr hS,?_⟩;(try simp only [Act.put,List.setIfInBounds_toArray,List.set_cons_zero,List.set_cons_succ])))
   (refine runL_nil ?_)
   have HS:=Lh hS
   clear hS hS0
   obtain ⟨c0,c1,c2,c3,c4⟩:=HL6.out.cell
   go_wp2
   go_ret
   exact ⟨_,_,_,rfl,HL6.out.rows,HB.out.trans ((HBL.out.trans (HS.out.below (fun q hq e=>by have:=HGA.out;omega) HBL.out.size)).mono HB.out.size)⟩
end Go.Proofs.YtjbabpnepjhllaaGreat
