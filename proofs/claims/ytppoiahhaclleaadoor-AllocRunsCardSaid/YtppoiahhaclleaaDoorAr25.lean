/- Part 25 of a claim; what it proves stands in its last text. -/
import Derived.Test.YtppoiahhaclleaaDoorAr24
import Derived.Test.YtppoiahhaclleaaDoorAr10
import Derived.Test.YtppoiahhaclleaaDoorAr20
import Derived.Deep.LoopGhost
import Derived.Test.YtppoiahhaclleaaDoorAr18
namespace Go.Proofs.YtppoiahhaclleaaDoor
open Go.RowKit
set_option maxRecDepth 100000
theorem own_pos {w:World} {B n c:Nat} {A:Option Addr} {xs:List Value} (h:w.ownsRow B 3 1 (.slice A (n+1) c) (n+1) xs):∃ g,A=some ⟨g,0,none⟩∧n+1≤c:=by
 rcases h.2 with ⟨h1,_⟩ | ⟨g,cap,cur,hv,hg,hh,hnc,_⟩
 · cases h1
 · cases hv;exact ⟨g,rfl,hnc⟩
theorem own_last {w:World} {B m c g:Nat} {l:List Int} {x:Int} (h:w.ownsRow B 3 1 (.slice (some ⟨g,0,none⟩) (m+1) c) (m+1) (intV (l++[x]))) (hl:l.length=m):w.cell? ⟨g,m,none⟩=some (.int .i64 x):=by
 have e:(l++[x]).length=m+1:=by simp [hl]
 have h2:=nums_own (l:=l++[x]) (by rw [e];exact h)
 obtain ⟨b,o,hA,_,hc⟩:=h2.at_ (k:=m) (x:=x) (by rw [List.getElem?_append_right (by omega),hl,Nat.sub_self];rfl)
 cases hA
 simpa using hc
set_option maxHeartbeats 16000000 in
theorem Steps_ok (p:LP) (Ab Ao:Option Addr) (nb cb no co:Nat) (w:World) (hp:ProgAt w (fun k=>k < w.heap.size) [.int .i64 p.regs,.slice Ab nb cb,.slice Ao no co] p) (h0:(checkF p 64).2=0) :
   Calls Tryd.prog 11 #[.agg #[.int .i64 p.regs,.slice Ab nb cb,.slice Ao no co]] w fun e w'=>e=.returned (.int .i64 (stepsF p.ops))∧Below w.heap.size w w':=by
 obtain ⟨W,hW,hbW,hzW,hl_,hr_⟩:=boxed w #[.int .i64 p.regs,.slice Ab nb cb,.slice Ao no co] 25
 have c0:W.cell? ⟨w.heap.size,0,none⟩=some (.int .i64 p.regs):=by rw [hl_];rfl
 have c1:W.cell? ⟨w.heap.size,1,none⟩=some (.slice Ab nb cb):=by rw [hl_];rfl
 have c2:W.cell? ⟨w.heap.size,2,none⟩=some (.slice Ao no co):=by rw [hl_];rfl
 have hlt:w.heap.size < W.heap.size:=by omega
 have hp1:=prog_next hp hbW
 have HC:=Lh (Rcheck_any p Ab Ao nb cb no co W hp1)
 rw [check_same] at HC
 have hOps:OpsAt w (fun k=>k < w.heap.size) (.slice Ao no co) p.ops:=by
   obtain ⟨vb,vo,h,h1,h2⟩:=hp.row
   simp only [List.cons.injEq] at h
   rw [h.2.2.1];exact h2
 have hno:p.ops.length=no:=by obtain ⟨A,c,hv,_⟩:=rows_form hOps;cases hv;rfl
 have hno6:no≤65536:=by have:=head_ok (check_run h0).1;omega
 have HW:=Lh hW
 have HB:=Lh hbW
 have HOPS:=Lh hOps
 have HNO:=Lh hno
 have HST:=Lh (st_ok h0)
 have HBAL:=Lh (check_bal h0)
 have HCF:=Lh (fun (k:Nat) (o:LOp) (ho:p.ops[k]? = some o)=>check_fields h0 ho)
 have HC2:=Lh (And.intro c2 hlt)
 obtain ⟨x,hx⟩:∃ x,(checkF p 64).1=x:=⟨_,rfl⟩
 rw [hx,h0] at HC
 clear hW hbW hzW hl_ hr_ hp hp1 hOps hno h0 hx
 go_enter Tryd.func11,Tryd.ntmps11
 go_upto_region 1 with fail
 rw [←HW.out]
 go_upto_region 4 with ((with_reducible refine (HC.out).mono ?_);rintro e w1 ⟨rfl,hb1⟩;have H1:=Lh hb1;clear hb1)
 clear c0 c1 c2 hlt
 go_wp2
 go_loopw [5,6,7,8] (fun pD pP mK j wr=>∃ (k:Nat) (A1 A2:Option Addr) (c1 c2:Nat),k≤no∧j=.int .i64 k∧pD=.slice A1 (stTo p.ops k).2.length c1∧pP=.int .i64 (stTo p.ops k).1∧mK=.slice A2 (stTo p.ops k).2.length c2∧Hid (TwoOwn wr W.heap.size A1 c1 A2 c2 (stTo p.ops k).2∧Below W.heap.size W wr)) (fun _ _ _ j _=>no - (intOf j).toNat)
 case atStart=>exact ⟨0,none,none,0,0,by omega,rfl,rfl,rfl,rfl,Lh ⟨⟨World.ownsRow_nil _ _ _ _,World.ownsRow_nil _ _ _ _,fun g h=>by cases h⟩,H1.out⟩⟩
 case round =>
   obtain ⟨k,A1,A2,d1,d2,hk,rfl,rfl,rfl,rfl,HJ⟩:=hrel
   have b2:=(HJ.out.2.cell (p:=⟨w.heap.size,2,none⟩) HC2.out.2).trans HC2.out.1
   by_cases hlt:k < no
   · obtain ⟨o,ho⟩:∃ o,p.ops[k]? = some o:=⟨_,List.getElem?_eq_getElem (by rw [HNO.out];omega)⟩
     obtain ⟨g,off,hA,hFg,x0,x1,x2,x3,x4,x5,x6,x7⟩:=HOPS.out.at_ ho
     subst hA
     have hgW:g < W.heap.size:=Nat.lt_of_lt_of_le hFg HB.out.size
     have y0:=(HJ.out.2.cell (p:=⟨g,off+k*8,none⟩) hgW).trans ((HB.out.cell (p:=⟨g,off+k*8,none⟩) hFg).trans x0)
     have HNX:=Lh (st_next ho)
     have HO:=Lh ho
     have HY7:=Lh ((HJ.out.2.cell (p:=⟨g,off+k*8+7,none⟩) hgW).trans ((HB.out.cell (p:=⟨g,off+k*8+7,none⟩) hFg).trans x7))
     have HSO:=Lh (HST.out k (by rw [HNO.out];omega))
     obtain ⟨sm,hsm⟩:∃ q,(stTo p.ops k).1=q:=⟨_,rfl⟩
     obtain ⟨ls,hls⟩:∃ q,(stTo p.ops k).2=q:=⟨_,rfl⟩
     obtain ⟨kd,hkd⟩:∃ q,o.kind=q:=⟨_,rfl⟩
     have i0:(0:Int)≤(k:Int):=by omega
     have i1:(k:Int) < (no:Int):=by omega
     have hkd1:decide (k < no)=true:=decide_eq_true hlt
     rw [hkd] at y0
     rw [hsm,hls]
     have HKD:=Lh (And.intro hkd (And.intro hsm hls))
     have b7:sm+1≤1125899906842625∧0≤sm:=by have h1:=HSO.out.1.lo;have h2:=HSO.out.1.hi;rw [hsm] at h1 h2;omega
     have q5:IntKind.i64.wrap (sm+1)=sm+1:=by rw [IntKind.wrap_i64];omega
     clear x0 x1 x2 x3 x4 x5 x6 x7 ho hkd hsm hls
     by_cases h16:kd=16
     · subst h16
       have HI:=Lh (loop_imm (HCF.out k o HO.out) HKD.out.1)
       have HN:=Lh (show stTo p.ops (k+1)=(1,ls++[(sm,(o.imm:Int))]) by rw [HNX.out];unfold stOp;rw [if_pos HKD.out.1,HKD.out.2.1,HKD.out.2.2])
       have hT:=HJ.out.1
       rw [HKD.out.2.2] at hT
       have HTT:=Lh hT
       have HLN:=Lh (show ls.length≤65536 by have h1:=HSO.out.2;rw [HKD.out.2.2] at h1;have:=stk_len p.ops k;unfold stk at h1;omega)
       have HBX:=Lh b2
       clear hT
       go_wp2
       refine wp_code (c:=partR Tryd.f11 13) (by kernel_rfl) ?_
       refine st_r13 (B:=W.heap.size) (g:=g) (off:=off) (no:=no) (co:=co) (imm:=o.imm) (sum:=sm) (l:=ls) _ _ HTT.out HBX.out HY7.out ⟨hlt,hno6,HI.out.2⟩ ⟨HC2.out.2,hgW⟩ HJ.out.2.size HLN.out ?_
       intro A1' A2' c1' c2' mW mX lD lE lF lG lH lI lJ lK lL lM lN lO w5 h5
       have H5:=Lh h5
       clear h5 b2 y0
       go_wp2
       go_roundw
       case rel =>
         refine ⟨k+1,A1',A2',c1',c2',by omega,by go_num,?_,?_,?_,Lh ⟨?_,HJ.out.2.trans H5.out.2⟩⟩
         · rw [HN.out];simp
         · rw [HN.out]
         · rw [HN.out];simp
         · rw [HN.out];exact H5.out.1
       case measure=>simp [intOf];omega
     by_cases h17:kd=17
     · subst h17
       have hne:ls≠[]:=fun e=>HBAL.out.some_ k o HO.out HKD.out.1 (by
         have h1:=HSO.out.2
         rw [HKD.out.2.2,e] at h1
         exact List.eq_nil_of_length_eq_zero h1.symm)
       obtain ⟨init,ut,hls⟩:∃ init ut,ls=init++[ut]:=by
         rcases List.eq_nil_or_concat ls with h | ⟨L,b,h⟩
         · exact absurd h hne
         · exact ⟨L,b,by rw [h,List.concat_eq_append]⟩
       obtain ⟨u,t⟩:=ut
       subst hls
       have hut:=HSO.out.1.all (u,t) (by rw [HKD.out.2.2];simp)
       simp only at hut
       obtain ⟨m,hm⟩:∃ m,init.length=m:=⟨_,rfl⟩
       have hln:(init++[(u,t)]).length=m+1:=by simp [hm]
       have hT:=HJ.out.1
       rw [HKD.out.2.2] at hT
       have o1:=hT.o1
       have o2:=hT.o2
       have hne2:=hT.ne
       rw [hln,List.map_append] at o1 o2
       rw [hln] at hne2
       obtain ⟨g1,rfl,hc1⟩:=own_pos o1
       obtain ⟨g2,rfl,hc2⟩:=own_pos o2
       have l1:=own_last o1 (by simpa using hm)
       have l2:=own_last o2 (by simpa using hm)
       have HN:=Lh (show stTo p.ops (k+1)=(min 1125899906842624 ((if 1125899906842624 / t < sm then 1125899906842624 else sm*t)+u),init) by
         rw [HNX.out];unfold stOp
         rw [if_neg (by rw [HKD.out.1];decide),if_pos HKD.out.1,HKD.out.2.1,HKD.out.2.2]
         simp)
       have HTO:=Lh (show TwoOwn wr W.heap.size (some ⟨g1,0,none⟩) d1 (some ⟨g2,0,none⟩) d2 init from ⟨by
           have h:=own_take o1 (k:=m) (by omega)
           rw [hm]
           simpa [intV,hm] using h,by
           have h:=own_take o2 (k:=m) (by omega)
           rw [hm]
           simpa [intV,hm] using h,fun j hj=>hne2 j hj⟩)
       have hm6:m≤65535:=by
         have h1:=HSO.out.2
         rw [HKD.out.2.2,hln] at h1
         have:=stk_len p.ops k
         unfold stk at h1
         omega
       rw [hln]
       have i5:(0:Int)≤(m:Int):=by omega
       have i6:(m:Int) < (m:Int)+1:=by omega
       have q6:IntKind.i64.wrap ((m:Int)+1 - 1)=m:=by rw [IntKind.wrap_i64];omega
       have q7:Int.tdiv 1125899906842624 t=1125899906842624 / t:=Int.tdiv_eq_ediv_of_nonneg (by decide)
       have ht0:(t == 0)=false:=by simp;omega
       have ht1:¬ t=0:=by omega
       have hd0:0≤1125899906842624 / t:=Int.ediv_nonneg (by decide) (by omega)
       have hd1:1125899906842624 / t≤1125899906842624:=Int.ediv_le_self _ (by decide)
       have w1:IntKind.i64.wrap (1125899906842624 / t)=1125899906842624 / t:=by rw [IntKind.wrap_i64];omega
       have w2:IntKind.i64.wrap (1125899906842624+u)=1125899906842624+u:=by rw [IntKind.wrap_i64];omega
       have HMM:=Lh (And.intro hm (And.intro hc1 (And.intro hc2 hut)))
       clear hne hT o1 o2 hne2 hln hm
       cases d9:decide (1125899906842624 / t < sm)
       · have hle:sm≤1125899906842624 / t:=by have:=of_decide_eq_false d9;omega
         have hmul:sm*t≤1125899906842624:=Int.mul_le_of_le_ediv (by omega) hle
         have hmul0:0≤sm*t:=Int.mul_nonneg (by omega) (by omega)
         have w3:IntKind.i64.wrap (sm*t)=sm*t:=by rw [IntKind.wrap_i64];omega
         have w4:IntKind.i64.wrap (sm*t+u)=sm*t+u:=by rw [IntKind.wrap_i64];omega
         have HIF:=Lh (show (if 1125899906842624 / t < sm then 1125899906842624 else sm*t)=sm*t from if_neg (by omega))
         clear hd0 hd1 hle hmul hmul0
         go_wp2
         refine wp_code (c:=partR Tryd.f11 21) (by kernel_rfl) ?_
         refine st_r21 (x1:=g1) (x2:=g2) (m:=m) (c1:=d1) (c2:=d2) _ _ HMM.out.2.1 HMM.out.2.2.1 (by omega) ?_
         intro mJ mY iS iT iU iV w5 h5
         subst h5
         go_wp2
         go_roundw
         case rel =>
           refine ⟨k+1,some ⟨g1,0,none⟩,some ⟨g2,0,none⟩,d1,d2,by omega,by go_num,?_,?_,?_,Lh ⟨?_,HJ.out.2.drew⟩⟩
           · rw [HN.out,HMM.out.1]
           · rw [HN.out,HIF.out]
           · rw [HN.out,HMM.out.1]
           · rw [HN.out];exact ⟨HTO.out.o1,HTO.out.o2,HTO.out.ne⟩
         case measure=>simp [intOf];omega
       · have HIF:=Lh (show (if 1125899906842624 / t < sm then 1125899906842624 else sm*t)=1125899906842624 from if_pos (of_decide_eq_true d9))
         clear hd0 hd1
         go_wp2
         refine wp_code (c:=partR Tryd.f11 21) (by kernel_rfl) ?_
         refine st_r21 (x1:=g1) (x2:=g2) (m:=m) (c1:=d1) (c2:=d2) _ _ HMM.out.2.1 HMM.out.2.2.1 (by omega) ?_
         intro mJ mY iS iT iU iV w5 h5
         subst h5
         go_wp2
         go_roundw
         case rel =>
           refine ⟨k+1,some ⟨g1,0,none⟩,some ⟨g2,0,none⟩,d1,d2,by omega,by go_num,?_,?_,?_,Lh ⟨?_,HJ.out.2.drew⟩⟩
           · rw [HN.out,HMM.out.1]
           · rw [HN.out,HIF.out]
           · rw [HN.out,HMM.out.1]
           · rw [HN.out];exact ⟨HTO.out.o1,HTO.out.o2,HTO.out.ne⟩
         case measure=>simp [intOf];omega
     have e16:(kd == 16)=false:=by simpa using h16
     have e17:(kd == 17)=false:=by simpa using h17
     go_wp2
     go_roundw
     case rel =>
       have hN:stTo p.ops (k+1)=(min 1125899906842624 (sm+1),ls):=by rw [HNX.out];unfold stOp;rw [if_neg (by rw [HKD.out.1];exact h16),if_neg (by rw [HKD.out.1];exact h17),HKD.out.2.1,HKD.out.2.2]
       have hT:=HJ.out.1
       rw [HKD.out.2.2] at hT
       exact ⟨k+1,A1,A2,d1,d2,by omega,by go_num,by rw [hN],by rw [hN],by rw [hN],Lh ⟨by rw [hN];exact hT,HJ.out.2⟩⟩
     case measure=>simp [intOf];omega
   · have hkd1:decide (k < no)=false:=decide_eq_false hlt
     have HE:=Lh (show (stTo p.ops k).1=stepsF p.ops by unfold stepsF;rw [show k=p.ops.length by have:=HNO.out;omega])
     have HBW:=Lh (HB.out.trans (HJ.out.2.mono HB.out.size))
     go_wp2
     go_ret
     exact ⟨by rw [←HE.out];rfl,HBW.out⟩
end Go.Proofs.YtppoiahhaclleaaDoor
namespace Go.Proofs.YtppoiahhaclleaaDoor
open Go.RowKit
set_option maxRecDepth 100000
variable {aB aA kW aC aD kX kY kZ lB lC aH aI aJ aK aL aM aN aO aP aQ aR aS aT aU aV aW aX aY aZ a8 bA bB bC bD bE bF bG bH bI bJ bK bL bM bN bO bP bQ bS bT bU bV bW bX bY bZ b4 b6 cA cC cD cE cF cG cH cI cJ cK cL cM cN cO cP cQ cR cT cU cV cW cX cY cZ c8 dA dB dC dD dE dF dG dH dI dJ dK dL dM dN dO dP dQ dR dS dT dU dV dW dX dY dZ d7 eA eB eC eD eE eF eG eH eI eJ eK eL eM eN eO eP eQ eR eS eT eU eV eW eX eY eZ fA fB fC fD fE fF fG fH fI fJ fK fL fM fN fO fP fQ fR fS fT fU fV fW fX fY : Value}
structure InvS (p:LP) (s:RS):Prop where
 len:(s.r.length:Int)=p.regs
 bl:s.bufs.length=p.bufs.length
 rl:∀ row∈s.bufs,row.length≤1000000
 ru:∀ x∈s.r,x < 18446744073709551616
 bu:∀ row∈s.bufs,∀ x∈row,x < 18446744073709551616
 i:s.i≤p.ops.length
theorem putR_lt {r:List Nat} {k:Int} {v:Nat} (h:∀ x∈r,x < 18446744073709551616) (hv:v < 18446744073709551616):∀ x∈putR r k v,x < 18446744073709551616:=fun x hx=>by
 unfold putR at hx
 split at hx
 · rcases List.mem_or_eq_of_mem_set hx with h1 | rfl
   · exact h x h1
   · exact hv
 · exact h x hx
theorem InvS.step {p:LP} {s s':RS} (h:InvS p s) (h0:(checkF p 64).2=0) (himm:∀ o∈p.ops,o.imm < 18446744073709551616) (hs:stepF doP p.ops (endsF p.ops) s=some s'):InvS p s':=by
 unfold stepF at hs
 cases ho:p.ops[s.i]? with
 | none=>rw [ho] at hs;cases hs
 | some o =>
   rw [ho] at hs
   have hi:=(List.getElem?_eq_some_iff.1 ho).1
   simp only at hs
   split at hs
   · cases hs
     refine ⟨?_,h.bl,h.rl,?_,h.bu,hi⟩
     · simp only;split <;> simp [putR_len,h.len]
     · simp only
       split
       · exact putR_lt h.ru (by decide)
       · exact h.ru
   · split at hs
     · rename_i h17
       obtain ⟨m,q,hm,hem,hq,hq16⟩:=ends_end (check_bal h0) ho h17
       rw [hem,Int.toNat_natCast,hq] at hs
       simp only at hs
       split at hs
       · cases hs
         exact ⟨by simp [putR_len,h.len],h.bl,h.rl,putR_lt h.ru (Nat.mod_lt _ (by decide)),h.bu,Nat.le_of_lt (List.getElem?_eq_some_iff.1 hq).1⟩
       · cases hs
         exact ⟨h.len,h.bl,h.rl,h.ru,h.bu,hi⟩
     · split at hs
       · cases hs
       · rename_i d e pl bufs hD
         cases hs
         obtain ⟨g1,g2,g3,g4⟩:=doP_lt hD (himm o (List.mem_of_getElem? ho)) (atR_lt h.ru _) (atR_lt h.ru _) h.bu
         have e1:bufs.length=s.bufs.length:=by have:=congrArg List.length g4;simpa using this
         refine ⟨by simp [putR_len,h.len],by rw [←h.bl];exact e1,fun row hr=>?_,putR_lt (putR_lt h.ru g1) g2,g3,hi⟩
         obtain ⟨j,hj⟩:=List.getElem?_of_mem hr
         have h1:(bufs.map List.length)[j]? = some row.length:=by rw [List.getElem?_map,hj];rfl
         rw [g4,List.getElem?_map] at h1
         cases hj2:s.bufs[j]? with
         | none=>rw [hj2] at h1;cases h1
         | some row' =>
           rw [hj2] at h1
           have:=Option.some.inj h1
           have:=h.rl row' (List.mem_of_getElem? hj2)
           omega
structure LoopI (p:LP) (B:Nat) (w0:World) (F0:Nat→Prop) (wr:World) (bx gr:Nat) (vb vo vB:Value) (gs:List Nat) (f:Nat) (s0:RS) (g:Nat) (s:RS) (vl:Value):Prop where
 win:within doP p.ops (endsF p.ops) 5000 g s
 fin:∀ r,finF doP p.ops (endsF p.ops) g s=some r→finF doP p.ops (endsF p.ops) f s0=some r
 run:RunAt B w0 F0 wr bx gr p.regs vb vo vB gs vl s.r s.bufs s.l
 inv:InvS p s
theorem LoopI.step {p:LP} {B:Nat} {F0:Nat→Prop} {w0 wr wr':World} {bx gr:Nat} {vb vo vB vl vl':Value} {gs:List Nat} {f g:Nat} {s0 s s':RS} (h:LoopI p B w0 F0 wr bx gr vb vo vB gs f s0 (g+1) s vl) (h0:(checkF p 64).2=0) (himm:∀ o∈p.ops,o.imm < 18446744073709551616) (hi:s.i < p.ops.length)
   (hs:stepF doP p.ops (endsF p.ops) s=some s') (hr:RunAt B w0 F0 wr' bx gr p.regs vb vo vB gs vl' s'.r s'.bufs s'.l):LoopI p B w0 F0 wr' bx gr vb vo vB gs f s0 g s' vl' :=
 ⟨h.win.2 hi s' hs,fun r hr=>h.fin r (by unfold finF;rw [if_neg (by omega),hs];exact hr),hr,h.inv.step h0 himm hs⟩
theorem LoopI.pos {p:LP} {B:Nat} {F0:Nat→Prop} {w0 wr:World} {bx gr:Nat} {vb vo vB vl:Value} {gs:List Nat} {f g:Nat} {s0 s:RS} (h:LoopI p B w0 F0 wr bx gr vb vo vB gs f s0 g s vl):∃ n,g=n+1:=by
 cases g with
 | zero=>exact h.win.elim
 | succ n=>exact ⟨n,rfl⟩
theorem RunAt.apart {B:Nat} {F0:Nat→Prop} {w0 w:World} {bx gr bo:Nat} {regs:Int} {vb vo vB vl:Value} {gs r:List Nat} {bufs:List (List Nat)} {l:List (Int×Int)} (h:RunAt B w0 F0 w bx gr regs vb vo vB gs vl r bufs l) (hb:w.heap.size≤bo):bx≠bo∧gr≠bo∧∀ g∈gs,g≠bo:=by
 refine ⟨by have:=h.lt.1;omega,by have:=h.lt.2;omega,fun g' hg'=>?_⟩
 obtain ⟨m,hm⟩:=List.getElem?_of_mem hg'
 obtain ⟨row,hrow⟩:∃ row,bufs[m]? = some row:=⟨_,List.getElem?_eq_getElem (by have:=(List.getElem?_eq_some_iff.1 hm).1;have:=h.len;omega)⟩
 have:=h.sep.lt _ (List.mem_of_getElem? (h.buf hrow hm)) g' rfl
 omega
theorem RunAt.ev_form {B:Nat} {F0:Nat→Prop} {w0 w:World} {bx gr:Nat} {regs:Int} {vb vo vB vl:Value} {gs r:List Nat} {bufs:List (List Nat)} {l:List (Int×Int)} (h:RunAt B w0 F0 w bx gr regs vb vo vB gs vl r bufs l):∃ A n c,vl=.slice A n c:=by
 have ho:w.ownsRow B 84 2 vl l.length (evV l):=h.sep.get 3 rfl
 obtain ⟨A,c,h⟩:=own_form ho
 exact ⟨A,_,c,h⟩
theorem RunAt.buf_form {B:Nat} {F0:Nat→Prop} {w0 w:World} {bx gr:Nat} {regs:Int} {vb vo vB vl:Value} {gs r:List Nat} {bufs:List (List Nat)} {l:List (Int×Int)} (h:RunAt B w0 F0 w bx gr regs vb vo vB gs vl r bufs l):∃ A n c,vB=.slice A n c:=by
 have ho:w.ownsRow B 65 1 vB gs.length (refV gs bufs):=h.sep.get 2 rfl
 obtain ⟨A,c,h⟩:=own_form ho
 exact ⟨A,_,c,h⟩
set_option maxHeartbeats 4000000 in
theorem run_l2 {p:LP} {B:Nat} {w0:World} {F0 G:Nat→Prop} {bp bx gr ge no co f:Nat} {Ao:Option Addr} {vb vB vl0:Value} {gs:List Nat} {s0:RS} (w:World) (Q:Exit→Act→World→Prop) (h:LoopI p B w0 F0 w bx gr vb (.slice Ao no co) vB gs f s0 f s0 vl0) (hs0:s0.first=true∧s0.i=0) (h0:(checkF p 64).2=0) (himm:∀ o∈p.ops,o.imm < 18446744073709551616) (b2:w0.cell? ⟨bp,2,none⟩=some (.slice Ao no co)) (hops:OpsAt w0 G (.slice Ao no co) p.ops) (hE:EndsAt w0 ge (endsF p.ops)) (hap:∀ k,(k=bp∨k=ge∨G k)→k < w0.heap.size∧¬ F0 k)
   (k1:∀ (s:RS) (vl:Value),finF doP p.ops (endsF p.ops) f s0=some (some s)→∀ (pC pD pP nA nQ pQ pZ iT iU iV iW iX iY iZ i7 i8 i9 jA jB jC jD jE jF jG jH jI jJ jK jL jM jO jP jQ jR jS jT jU jV jW jX jY jZ j5 j6 j7 j8 j9 kF kG kH kI kJ kK kL kN kO kP kQ kR kS kT kU m5 m6 m7 m8 oB oC oD oE oF oG oH oI oJ oK oL oM oN oO oP oQ oS oT oU oV nB:Value) (w':World),RunAt B w0 F0 w' bx gr p.regs vb (.slice Ao no co) vB gs vl s.r s.bufs s.l→Q (.exit 2) ⟨#[aB,aA,.pointer (some ⟨bp,0,none⟩),kW,pC,pD,pP,kY,kZ,.pointer (some ⟨bx,0,none⟩),lB,lC,.slice (some ⟨ge,0,none⟩) no no,nA,nQ,pQ,pZ,aJ,aK,aL,aM,aN,aO,aP,aQ,aR,aS,aT,aU,aV,aW,aX,aY,aZ,a8,bA,bB,bC,bD,bE,bF,bG,bH,bI,bJ,bK,bL,bM,bN,bO,bP,bQ,bS,bT,bU,bV,bW,bX,bY,bZ,b4,b6,cA,cC,cD,cE,cF,cG,cH,cI,cJ,cK,cL,cM,cN,cO,cP,iT,iU,iV,iW,iX,iY,iZ,i7,i8,i9,jA,jB,jC,jD,jE,jF,jG,jH,jI,jJ,jK,jL,jM,jO,jP,jQ,jR,jS,jT,jU,jV,jW,jX,jY,jZ,j5,j6,j7,j8,j9,kF,kG,kH,kI,kJ,kK,kL,kN,kO,kP,kQ,kR,kS,kT,kU,m5,m6,m7,m8,oB,oC,oD,oE,oF,oG,oH,oI,oJ,oK,oL,oM,oN,oO,oP,oQ,oS,oT,oU,oV,nB,fR,fS,fT,fU,fV,fW,fX,fY],[]⟩ w') (k2:finF doP p.ops (endsF p.ops) f s0=some none→∀ (pD nA nQ pQ pZ iT iU iV iW iX iY iZ i7 i8 i9 jA jB jC jD jE jF jG jH jI jJ jK jL jM jO jP jQ jR jS jT jU jV jW jX jY jZ j5 j6 j7 j8 j9 kF kG kH kI kJ kK kL kN kO kP kQ kR kS kT kU m5 m6 m7 m8 oB oC oD oE oF oG oH oI oJ oK oL oM oN oO oP oQ oS oT oU oV nB:Value) (w':World),(∃ R,Sep w0 F0 w' R)→Q (.ret) ⟨#[aB,aA,.pointer (some ⟨bp,0,none⟩),kW,.slice none 0 0,pD,.int .i64 11,kY,kZ,.pointer (some ⟨bx,0,none⟩),lB,lC,.slice (some ⟨ge,0,none⟩) no no,nA,nQ,pQ,pZ,aJ,aK,aL,aM,aN,aO,aP,aQ,aR,aS,aT,aU,aV,aW,aX,aY,aZ,a8,bA,bB,bC,bD,bE,bF,bG,bH,bI,bJ,bK,bL,bM,bN,bO,bP,bQ,bS,bT,bU,bV,bW,bX,bY,bZ,b4,b6,cA,cC,cD,cE,cF,cG,cH,cI,cJ,cK,cL,cM,cN,cO,cP,iT,iU,iV,iW,iX,iY,iZ,i7,i8,i9,jA,jB,jC,jD,jE,jF,jG,jH,jI,jJ,jK,jL,jM,jO,jP,jQ,jR,jS,jT,jU,jV,jW,jX,jY,jZ,j5,j6,j7,j8,j9,kF,kG,kH,kI,kJ,kK,kL,kN,kO,kP,kQ,kR,kS,kT,kU,m5,m6,m7,m8,oB,oC,oD,oE,oF,oG,oH,oI,oJ,oK,oL,oM,oN,oO,oP,oQ,oS,oT,oU,oV,nB,fR,fS,fT,fU,fV,fW,fX,fY],[]⟩ w'):(partL Tryd.f18 2).wp Tryd.prog Q ⟨#[aB,aA,.pointer (some ⟨bp,0,none⟩),kW,aC,aD,kX,kY,kZ,.pointer (some ⟨bx,0,none⟩),lB,lC,.slice (some ⟨ge,0,none⟩) no no,.bool true,.int .i64 0,aH,aI,aJ,aK,aL,aM,aN,aO,aP,aQ,aR,aS,aT,aU,aV,aW,aX,aY,aZ,a8,bA,bB,bC,bD,bE,bF,bG,bH,bI,bJ,bK,bL,bM,bN,bO,bP,bQ,bS,bT,bU,bV,bW,bX,bY,bZ,b4,b6,cA,cC,cD,cE,cF,cG,cH,cI,cJ,cK,cL,cM,cN,cO,cP,cQ,cR,cT,cU,cV,cW,cX,cY,cZ,c8,dA,dB,dC,dD,dE,dF,dG,dH,dI,dJ,dK,dL,dM,dN,dO,dP,dQ,dR,dS,dT,dU,dV,dW,dX,dY,dZ,d7,eA,eB,eC,eD,eE,eF,eG,eH,eI,eJ,eK,eL,eM,eN,eO,eP,eQ,eR,eS,eT,eU,eV,eW,eX,eY,eZ,fA,fB,fC,fD,fE,fF,fG,fH,fI,fJ,fK,fL,fM,fN,fO,fP,fQ,fR,fS,fT,fU,fV,fW,fX,fY],[]⟩ w:=by
 have HI0:=Lh h
 have HK1:=Lh k1
 have HK2:=Lh k2
 have HP:=Lh (fun (wr:World) (vl:Value) (r:List Nat) (bufs:List (List Nat)) (l:List (Int×Int)) (hR:RunAt B w0 F0 wr bx gr p.regs vb (.slice Ao no co) vB gs vl r bufs l)=>(show wr.cell? ⟨bp,2,none⟩=some (.slice Ao no co)∧OpsAt wr G (.slice Ao no co) p.ops∧EndsAt wr ge (endsF p.ops) from by
   have hk:SameOn (fun k=>k=bp∨k=ge∨G k) w0 wr:=fun k hk=>hR.sep.chg.block k (hap k hk).1 (fun h=>h.elim (hap k hk).2 (fun h=>by have:=(hap k hk).1;omega))
   exact ⟨(World.cell?_of_block (w:=w0) (a:=⟨bp,2,none⟩) (hk bp (.inl rfl))).trans b2,Rows.keep hops (fun k h=>hk k (.inr (.inr h))),(hk ge (.inr (.inl rfl))).trans hE⟩))
 have hno:p.ops.length=no:=by obtain ⟨A,c,hv,_⟩:=rows_form hops;cases hv;simp
 have HNO:=Lh hno
 have H0:=Lh (And.intro h0 himm)
 have HF:=Lh (fun (k:Nat) (o:LOp) (ho:p.ops[k]? = some o)=>check_fields h0 ho)
 have h64:p.regs≤64:=(head_ok (check_run h0).1).1
 have hno6:no≤65536:=by have:=head_ok (check_run h0).1;omega
 have H64:=Lh h64
 clear h k1 k2 hE hops hno h0 himm b2 hap h64
 conv=>arg 2;whnf
 go_wp2
 go_loopg [13,14] f (fun gk fv iv wr=>∃ (s:RS) (vl:Value),fv=.bool s.first∧iv=.int .i64 (s.i:Nat)∧Hid (LoopI p B w0 F0 wr bx gr vb (.slice Ao no co) vB gs f s0 gk s vl))
 case atStart=>exact ⟨s0,vl0,by rw [hs0.1],by rw [hs0.2];rfl,HI0⟩
 case round =>
   obtain ⟨s,vl,rfl,rfl,HT⟩:=hrel
   obtain ⟨g,rfl⟩:=HT.out.pos
   obtain ⟨si,sf,sr,sb,sl⟩:=s
   have hR:RunAt B w0 F0 wr bx gr p.regs vb (.slice Ao no co) vB gs vl sr sb sl:=HT.out.run
   obtain ⟨c2,hops,hE⟩:=HP.out wr vl sr sb sl hR
   have hsi:si≤no:=by have:=HT.out.inv.i;rw [HNO.out] at this;exact this
   by_cases hlt:si < no
   · obtain ⟨o,ho⟩:∃ o,p.ops[si]? = some o:=⟨_,List.getElem?_eq_getElem (by rw [HNO.out];omega)⟩
     obtain ⟨gb,off,hA,hFg,y0,y1,y2,y3,y4,y5,y6,y7⟩:=hops.at_ ho
     subst hA
     have HO:=Lh ho
     obtain ⟨W1,hW1⟩:∃ q,q=wr.alloc (.cells #[.int .i64 o.kind,.int .i64 o.d,.int .i64 o.e,.int .i64 o.a,.int .i64 o.b,.int .i64 o.c,.int .i64 o.buf,.int .u64 o.imm] 47):=⟨_,rfl⟩
     have hbW:Below wr.heap.size wr W1:=by rw [hW1];exact (Below.refl _ _).alloc (Nat.le_refl _) _
     have HD1:=Lh (show DoAt B w0 F0 W1 bx gr wr.heap.size o p.regs vb (.slice (some ⟨gb,off,none⟩) no co) vB gs vl sr sb sl from ⟨hR.next hbW,by unfold OpAt;rw [hW1];exact heap_alloc_new wr _,hR.apart (Nat.le_refl _)⟩)
     have HW1:=Lh hW1
     have HZ1:=Lh (show W1.heap.size=wr.heap.size+1 by rw [hW1];exact Array.size_push _)
     have hf:=HF.out si o ho
     have HFD:=Lh hf
     have h5:sl.length≤5000:=HT.out.win.1
     have H5:=Lh h5
     have hlen:(sr.length:Int)=p.regs:=HT.out.inv.len
     have HLEN:=Lh hlen
     have i0:(0:Int)≤(si:Int):=by omega
     have i1:(si:Int) < (no:Int):=by omega
     have q0:decide (si < no)=true:=decide_eq_true hlt
     have HLT:=Lh (show si < p.ops.length by rw [HNO.out];exact hlt)
     obtain ⟨kd,hkd⟩:∃ q,o.kind=q:=⟨_,rfl⟩
     have HKD:=Lh hkd
     clear hops hE ho hFg hW1 hbW hf h5 hlen hkd hR
     go_upto_region 21 with fail
     rw [←HW1.out]
     clear y0 y1 y2 y3 y4 y5 y6 y7 c2
     have o0:=cell_row HD1.out.op (k:=0) (v:=.int .i64 o.kind) rfl
     rw [HKD.out] at o0
     obtain ⟨c2,_,_⟩:=HP.out W1 vl sr sb sl HD1.out.run
     by_cases h16:kd=16
     · have hd:=loop_d HFD.out (HKD.out.trans h16)
       obtain ⟨dn,hdn⟩:∃ n:Nat,o.d=n:=⟨o.d.toNat,by omega⟩
       have HDN:=Lh hdn
       have HDL:=Lh (show dn < sr.length by have:=HLEN.out;omega)
       have HST:=Lh (show stepF doP p.ops (endsF p.ops) ⟨si,sf,sr,sb,sl⟩=some ⟨si+1,true,if sf then sr.set dn 0 else sr,sb,sl++[((si:Int),-1)]⟩ by
         have hp:putR sr o.d 0=sr.set dn 0:=by unfold putR;rw [if_pos hd.1,hdn,Int.toNat_natCast]
         unfold stepF
         simp only [HO.out]
         rw [if_pos (HKD.out.trans h16),hp])
       subst h16
       clear hd hdn
       cases sf
       · go_upto_region 27 with fail
         refine wp_code (c:=partR Tryd.f18 27) (by kernel_rfl) ?_
         refine run_r27 (i:=(si:Nat)) _ _ HD1.out.run H5.out ?_
         intro vl_ jX jY jZ j5 j6 j7 j8 j9 kF kG kH w3 h3
         have H3:=Lh h3
         clear h3 o0 c2
         go_wp2
         go_roundg g
         case measure=>omega
         case rel=>exact ⟨_,vl_,rfl,by go_num,Lh (HT.out.step H0.out.1 H0.out.2 HLT.out HST.out H3.out)⟩
       · go_wp2
         refine wp_code (c:=partR Tryd.f18 26) (by kernel_rfl) ?_
         refine run_r26 (dn:=dn) _ _ HD1.out HDN.out HDL.out ?_
         intro jQ jR jS jT jU jV jW w2 h2
         have H2:=Lh h2
         clear h2 o0 c2
         go_upto_region 27 with fail
         refine wp_code (c:=partR Tryd.f18 27) (by kernel_rfl) ?_
         refine run_r27 (i:=(si:Nat)) _ _ H2.out.run H5.out ?_
         intro vl_ jX jY jZ j5 j6 j7 j8 j9 kF kG kH w3 h3
         have H3:=Lh h3
         clear h3
         go_wp2
         go_roundg g
         case measure=>omega
         case rel=>exact ⟨_,vl_,rfl,by go_num,Lh (HT.out.step H0.out.1 H0.out.2 HLT.out HST.out H3.out)⟩
     by_cases h17:kd=17
     · obtain ⟨m,q,hm,hem,hq,hq16⟩:=ends_end (check_bal H0.out.1) HO.out (HKD.out.trans h17)
       have hEm:(endsF p.ops)[si]? = some (m:Int):=by
         have hl:=ends_len (check_bal H0.out.1)
         rw [List.getD_eq_getElem?_getD] at hem
         obtain ⟨e,he⟩:∃ e,(endsF p.ops)[si]? = some e:=⟨_,List.getElem?_eq_getElem (by rw [hl];exact HLT.out)⟩
         rw [he] at hem ⊢
         exact congrArg some hem
       have hfq:=HF.out m q hq
       have hd:=loop_d hfq hq16
       obtain ⟨dn,hdn⟩:∃ n:Nat,q.d=n:=⟨q.d.toNat,by omega⟩
       have hdl:dn < sr.length:=by have:=HLEN.out;omega
       obtain ⟨x,hx⟩:∃ x,sr[dn]? = some x:=⟨_,List.getElem?_eq_getElem hdl⟩
       obtain ⟨tb,htb⟩:∃ t,t=decide ((x+1) % 18446744073709551616 < q.imm):=⟨_,rfl⟩
       have HST:=Lh (show stepF doP p.ops (endsF p.ops) ⟨si,sf,sr,sb,sl⟩=if tb=true then some ⟨m,false,sr.set dn ((x+1) % 18446744073709551616),sb,sl⟩ else some ⟨si+1,sf,sr,sb,sl⟩ by
         have hp:putR sr q.d ((x+1) % 18446744073709551616)=sr.set dn ((x+1) % 18446744073709551616):=by unfold putR;rw [if_pos hd.1,hdn,Int.toNat_natCast]
         have hat:atR sr q.d=x:=by rw [hdn,atR_nat,List.getD_eq_getElem?_getD,hx];rfl
         unfold stepF
         simp only [HO.out]
         rw [if_neg (by rw [HKD.out,h17];decide),if_pos (HKD.out.trans h17),hem,Int.toNat_natCast,hq]
         simp only
         rw [hat,hp,htb]
         simp only [decide_eq_true_eq])
       have HDN:=Lh (And.intro hdn (And.intro hdl (And.intro hx htb)))
       have HEM:=Lh (And.intro hEm (And.intro hq hm))
       have hmn:m < no:=by have:=HLT.out;have:=HNO.out;omega
       subst h17
       clear hm hem hq hq16 hEm hfq hd hdn hdl hx htb
       go_wp2
       refine wp_code (c:=partR Tryd.f18 30) (by kernel_rfl) ?_
       refine run_r30 (o:=q) (i:=si) (m:=m) (ops:=p.ops) (E:=endsF p.ops) _ _ (HP.out W1 vl sr sb sl HD1.out.run).1 (HP.out W1 vl sr sb sl HD1.out.run).2.1 (HP.out W1 vl sr sb sl HD1.out.run).2.2 HEM.out.1 hlt HEM.out.2.1 ?_
       intro kK kL kN kO kP kQ kR kS w2 h2
       have HD2:=Lh (show DoAt B w0 F0 w2 bx gr W1.heap.size q p.regs vb (.slice (some ⟨gb,off,none⟩) no co) vB gs vl sr sb sl from ⟨HD1.out.run.next h2.2,h2.1,HD1.out.run.apart (Nat.le_refl _)⟩)
       clear h2 o0 c2
       go_wp2
       refine wp_code (c:=partR Tryd.f18 31) (by kernel_rfl) ?_
       refine run_r31 (dn:=dn) (x:=x) (q:=tb) _ _ HD2.out HDN.out.1 HDN.out.2.1 HDN.out.2.2.1 HDN.out.2.2.2 ?_
       intro kT kU m5 m6 m7 m8 oB oC oD oE oF w3 h3
       have H3:=Lh h3
       clear h3
       cases tb
       · have HST:=Lh (show stepF doP p.ops (endsF p.ops) ⟨si,sf,sr,sb,sl⟩=some ⟨si+1,sf,sr,sb,sl⟩ from HST.out)
         go_wp2
         go_roundg g
         case measure=>omega
         case rel=>exact ⟨_,vl,rfl,by go_num,Lh (HT.out.step H0.out.1 H0.out.2 HLT.out HST.out H3.out.run)⟩
       · have HST:=Lh (show stepF doP p.ops (endsF p.ops) ⟨si,sf,sr,sb,sl⟩=some ⟨m,false,sr.set dn ((x+1) % 18446744073709551616),sb,sl⟩ from HST.out)
         go_wp2
         refine wp_code (c:=partR Tryd.f18 32) (by kernel_rfl) ?_
         refine run_r32 (dn:=dn) (x:=x) _ _ H3.out HDN.out.1 HDN.out.2.1 HDN.out.2.2.1 ?_
         intro oH oI oJ oK oL oM oN oO oP oQ w4 h4
         have H4:=Lh h4
         have ce:=(HP.out w4 vl _ sb sl h4.run).2.2.cell HEM.out.1
         have q5:IntKind.i64.wrap ((m:Int) - 1)=(m:Int) - 1:=by rw [IntKind.wrap_i64];omega
         have q6:IntKind.i64.wrap (m:Int)=(m:Int):=by rw [IntKind.wrap_i64];omega
         have q7:(m:Int) - 1+1=(m:Int):=by omega
         clear h4
         go_wp2
         go_roundg g
         case measure=>omega
         case rel=>exact ⟨_,vl,rfl,by go_num,Lh (HT.out.step H0.out.1 H0.out.2 HLT.out HST.out H4.out.run)⟩
     have e16:(kd == 16)=false:=by simpa using h16
     have e17:(kd == 17)=false:=by simpa using h17
     have HDO:=Lh (do_any (p:=p) (o:=o) si W1 HD1.out.run (HP.out W1 vl sr sb sl HD1.out.run).2.1 HO.out HFD.out (by have:=(regs_is HFD.out).2.1;have:=HKD.out;omega) HLEN.out ⟨HT.out.inv.bl,HT.out.inv.rl⟩ HT.out.inv.ru H5.out H64.out)
     have HN:=Lh (And.intro h16 h17)
     clear h16 h17 c2
     cases hD:doP o.kind o.imm o.buf sb (atR sr o.a) (atR sr o.b) (atR sr o.c) with
     | none =>
       have HST:=Lh (show stepF doP p.ops (endsF p.ops) ⟨si,sf,sr,sb,sl⟩=none by
         unfold stepF
         simp only [HO.out]
         rw [if_neg (by rw [HKD.out];exact HN.out.1),if_neg (by rw [HKD.out];exact HN.out.2),hD])
       have HDO:=Lh (HDO.out.mono (R':=fun e w'=>e=.returned (.bool false)∧RunAt B w0 F0 w' bx gr p.regs vb (.slice (some ⟨gb,off,none⟩) no co) vB gs vl sr sb sl) (fun e w' h=>by unfold DoSays at h;rw [hD] at h;exact h))
       clear hD
       go_wp2_with ((with_reducible refine (HDO.out).mono ?_);rintro e w3 ⟨rfl,h3⟩;have H3:=Lh h3;clear h3)
       obtain ⟨Al,nl,cl,hvl⟩:=H3.out.ev_form
       subst hvl
       obtain ⟨A4,n4,c4,hvB⟩:=H3.out.buf_form
       refine wp_code (c:=partR Tryd.f18 23) (by kernel_rfl) ?_
       refine run_r23 (A:=A4) (n:=n4) (c:=c4) _ _ (by rw [←hvB];exact H3.out.box 4 rfl) (H3.out.box 5 rfl) ?_
       intro jI jJ jK jL w4 h4
       subst h4
       go_wp2
       exact HK2.out (HT.out.fin none (by unfold finF;rw [if_neg (by have:=HLT.out;show ¬ _≤si;omega),HST.out])) _ _ _ _ _ _ _ _ _ _ _ _ _ _ _ _ _ _ _ _ _ _ _ _ _ _ _ _ _ _ _ _ _ _ _ _ _ _ _ _ _ _ _ _ _ _ _ _ _ _ _ _ _ _ _ _ _ _ _ _ _ _ _ _ _ _ _ _ _ _ _ _ _ _ _ _ _ _ _ _ _ _ _ _ _ _ ⟨_,(H3.out.next (Below.refl _ _).drew).sep⟩
     | some dd =>
       obtain ⟨d,e2,pl,bufs2⟩:=dd
       have HST:=Lh (show stepF doP p.ops (endsF p.ops) ⟨si,sf,sr,sb,sl⟩=some ⟨si+1,sf,putR (putR sr o.d d) o.e e2,bufs2,sl++[((si:Int),pl)]⟩ by
         unfold stepF
         simp only [HO.out]
         rw [if_neg (by rw [HKD.out];exact HN.out.1),if_neg (by rw [HKD.out];exact HN.out.2),hD])
       have HDO:=Lh (HDO.out.mono (R':=fun e w'=>e=.returned (.bool true)∧∃ vl',RunAt B w0 F0 w' bx gr p.regs vb (.slice (some ⟨gb,off,none⟩) no co) vB gs vl' (putR (putR sr o.d d) o.e e2) bufs2 (sl++[((si:Int),pl)])) (fun e w' h=>by unfold DoSays at h;rw [hD] at h;exact h))
       clear hD
       go_wp2_with ((with_reducible refine (HDO.out).mono ?_);rintro e w3 ⟨rfl,vl3,h3⟩;have H3:=Lh h3;clear h3)
       go_roundg g
       case measure=>omega
       case rel=>exact ⟨_,vl3,rfl,by go_num,Lh (HT.out.step H0.out.1 H0.out.2 HLT.out HST.out H3.out)⟩
   · have q0:decide (si < no)=false:=decide_eq_false hlt
     have HR:=Lh hR
     have HFI:=Lh (HT.out.fin (some ⟨si,sf,sr,sb,sl⟩) (by unfold finF;rw [if_pos (by rw [HNO.out];show no≤si;omega)]))
     clear hops hE hR
     go_wp2
     exact HK1.out _ vl HFI.out _ _ _ _ _ _ _ _ _ _ _ _ _ _ _ _ _ _ _ _ _ _ _ _ _ _ _ _ _ _ _ _ _ _ _ _ _ _ _ _ _ _ _ _ _ _ _ _ _ _ _ _ _ _ _ _ _ _ _ _ _ _ _ _ _ _ _ _ _ _ _ _ _ _ _ _ _ _ _ _ _ _ _ _ _ _ _ _ HR.out
end Go.Proofs.YtppoiahhaclleaaDoor
namespace Go.Proofs.YtppoiahhaclleaaDoor
open Go.RowKit
set_option maxRecDepth 100000
theorem rowsTo_all {bs:List Bf} {rows:List (List Nat)}:∀ n,rowsTo bs rows n=true→∀ k,k < n→fitsF bs rows k=true:=by
 intro n
 induction n with
 | zero=>exact fun _ k hk=>absurd hk (by omega)
 | succ n ih =>
   intro h k hk
   unfold rowsTo at h
   rw [Bool.and_eq_true] at h
   by_cases e:k=n
   · subst e;exact h.2
   · exact ih h.1 k (by omega)
theorem rowsB_all {bs:List Bf} {rows:List (List Nat)} (h:rowsB bs rows=true):rows.length=bs.length∧∀ (k:Nat) (x:List Nat) (y:Bf),rows[k]? = some x→bs[k]? = some y→(x.length:Int)=if y.kind=3 then 0 else y.size:=by
 unfold rowsB at h
 rw [Bool.and_eq_true] at h
 refine ⟨by simpa using h.1,fun k x y hx hy=>?_⟩
 have:=rowsTo_all _ h.2 k (List.getElem?_eq_some_iff.1 hx).1
 unfold fitsF at this
 rw [hx,hy] at this
 simpa using this
theorem rows_fit {p:LP} {rows:List (List Nat)} (hh:headF p=0) (h:rowsB p.bufs rows=true):∀ (k:Nat) (x:List Nat) (y:Bf),rows[k]? = some x→p.bufs[k]? = some y→∃ sz:Nat,y.size=sz∧sz≤65536∧(x.length=sz∨x.length=0):=fun k x y hx hy=>by
 have h1:=(rowsB_all h).2 k x y hx hy
 have h2:=(head_ok hh).2.2.2.2 y (List.mem_of_getElem? hy)
 refine ⟨y.size.toNat,by omega,by omega,?_⟩
 split at h1
 · right;omega
 · left;omega
theorem padF_get {bs:List Bf} {rows:List (List Nat)} {row:List Nat} (hl:rows.length=bs.length) (h:row∈padF bs rows):∃ (k:Nat) (x:List Nat) (y:Bf),rows[k]? = some x∧bs[k]? = some y∧row=x++List.replicate (y.size.toNat - x.length) 0:=by
 unfold padF at h
 obtain ⟨k,hk,rfl⟩:=List.mem_map.1 h
 have hk:=List.mem_range.1 hk
 refine ⟨k,rows.getD k [],bs.getD k ⟨0,0,false⟩,?_,?_,rfl⟩
 · rw [List.getD_eq_getElem?_getD,List.getElem?_eq_getElem (by omega)];rfl
 · rw [List.getD_eq_getElem?_getD,List.getElem?_eq_getElem hk];rfl
theorem inv_start {p:LP} {rows:List (List Nat)} (hh:headF p=0) (h:rowsB p.bufs rows=true) (hx:∀ r∈rows,∀ x∈r,x < 18446744073709551616):InvS p (st0 p rows):=by
 have hl:=(rowsB_all h).1
 refine ⟨?_,padF_len _ _,fun row hr=>?_,fun x hx=>?_,fun row hr x hxr=>?_,Nat.zero_le _⟩
 · have:=(head_ok hh).2.1
   show (((List.replicate p.regs.toNat 0).length:Nat):Int)=p.regs
   simp;omega
 · obtain ⟨k,x,y,h1,h2,rfl⟩:=padF_get hl hr
   obtain ⟨sz,g1,g2,g3⟩:=rows_fit hh h k x y h1 h2
   simp only [List.length_append,List.length_replicate]
   omega
 · have:x=0:=(List.mem_replicate.1 hx).2
   omega
 · obtain ⟨k,x',y,h1,h2,rfl⟩:=padF_get hl hr
   rcases List.mem_append.1 hxr with h3 | h3
   · exact hx x' (List.mem_of_getElem? h1) x h3
   · have:x=0:=(List.mem_replicate.1 h3).2
     omega
theorem rowsU_nil (w:World) (G:Nat→Prop):RowsU w G (.slice none 0 0) []:=⟨[],rfl,⟨none,0,rfl,by simp,by simp,fun h=>absurd rfl h⟩,fun i r u h=>by simp at h⟩
theorem RunAt.rebase {B:Nat} {F0:Nat→Prop} {w0 w:World} {bx gr:Nat} {regs:Int} {vb vo vB vl:Value} {gs r:List Nat} {bufs:List (List Nat)} {l:List (Int×Int)} (h:RunAt B w0 F0 w bx gr regs vb vo vB gs vl r bufs l) :
   ∃ F1:Nat→Prop,(∀ k,F1 k→Ov F0 w0.heap.size k∧k < w.heap.size)∧∀ w',Below w.heap.size w w'→RunAt B w' F1 w' bx gr regs vb vo vB gs vl r bufs l:=by
 refine ⟨fun k=>∃ q∈(boxR bx 82 (runRow regs vb vo gr vB vl r) :: boxR gr 45 (usV r) :: rowR B 65 1 gs.length vB (refV gs bufs) :: rowR B 84 2 l.length vl (evV l) :: bufR gs bufs),q.F k,fun k ⟨q,hq,hk⟩=>⟨h.sep.over q hq k hk,h.sep.lt q hq k hk⟩,fun w' hb=>?_⟩
 have h2:=h.next hb
 exact ⟨h2.len,h2.size,⟨Chg.refl _ _,h2.sep.lt,fun q hq k hk=>.inl ⟨q,hq,hk⟩,h2.sep.dis,h2.sep.holds⟩⟩
def RunSays (w:World) (p:LP) (a:List (List Nat)) (e:Ending) (w':World):Prop :=
 ∃ (p4 mZ:Value) (g:Int) (out:List (List Nat)),e=.returned (.tuple #[p4,mZ,.int .i64 g])∧Below w.heap.size w w'∧RowsU w' (fun k=>k < w'.heap.size) p4 out∧RunOut p a out g
set_option maxHeartbeats 16000000 in
theorem Run_any (p:LP) (Ab Ao A:Option Addr) (nb cb no co n c:Nat) (w:World) (a:List (List Nat)) (hp:ProgAt w (fun k=>k < w.heap.size) [.int .i64 p.regs,.slice Ab nb cb,.slice Ao no co] p) (ha:RowsU w (fun k=>k < w.heap.size) (.slice A n c) a) (h5:(checkF p 64).2=0→stepsF p.ops≤5000)
   (hx:∀ r∈a,∀ x∈r,x < 18446744073709551616) (hb:p.bufs.length≤1000000) :
   Calls Tryd.prog 18 #[.agg #[.int .i64 p.regs,.slice Ab nb cb,.slice Ao no co],.slice A n c] w (RunSays w p a):=by
 obtain ⟨W,hW,hbW,hzW,hl_,hr_⟩:=boxed w #[.int .i64 p.regs,.slice Ab nb cb,.slice Ao no co] 25
 have c0:W.cell? ⟨w.heap.size,0,none⟩=some (.int .i64 p.regs):=by rw [hl_];rfl
 have c1:W.cell? ⟨w.heap.size,1,none⟩=some (.slice Ab nb cb):=by rw [hl_];rfl
 have c2:W.cell? ⟨w.heap.size,2,none⟩=some (.slice Ao no co):=by rw [hl_];rfl
 have hlt:w.heap.size < W.heap.size:=by omega
 have hp1:=prog_next hp hbW
 have HP:=Lh (fun wr (hb:Below W.heap.size W wr)=>prog_next hp1 hb)
 have HA:=Lh (fun wr (hb:Below W.heap.size W wr)=>(ha.next hbW).next hb)
 have HCS:=Lh (fun wr (hb:Below W.heap.size W wr)=>And.intro ((hb.cell (p:=⟨w.heap.size,0,none⟩) hlt).trans c0) (And.intro ((hb.cell (p:=⟨w.heap.size,1,none⟩) hlt).trans c1) ((hb.cell (p:=⟨w.heap.size,2,none⟩) hlt).trans c2)))
 have HCK:Hid (Calls Tryd.prog 8 #[.agg #[.int .i64 p.regs,.slice Ab nb cb,.slice Ao no co]] W fun e w'=>e=.returned (.tuple #[.int .i64 (checkF p 64).1,.int .i64 (checkF p 64).2])∧Below W.heap.size W w'):=Lh (by
   have h:=Rcheck_any p Ab Ao nb cb no co W hp1
   rw [check_same] at h
   exact h)
 have HRW:=Lh (fun wr (hb1:Below W.heap.size W wr)=>RRows_any p Ab Ao A nb cb no co n c wr a (HP.out wr hb1) (HA.out wr hb1) hb)
 have hal:a.length=n:=by obtain ⟨A,c,hv,_⟩:=ha.form;cases hv;rfl
 have HAL:=Lh hal
 have HX:=Lh hx
 have HW:=Lh hW
 have HB:=Lh hbW
 have HLT:=Lh hlt
 have H5:=Lh h5
 obtain ⟨x,hx'⟩:∃ x,(checkF p 64).1=x:=⟨_,rfl⟩
 obtain ⟨y,hy⟩:∃ x,(checkF p 64).2=x:=⟨_,rfl⟩
 have HY:=Lh hy
 rw [hx',hy] at HCK
 clear hp ha h5 hx hb hW hbW hzW hl_ hr_ hp1 hx' hy c0 c1 c2 hlt hal
 by_cases h0:y=0
 rotate_left
 · have d0:(y == 0)=false:=by simpa using h0
   have HN:=Lh h0
   clear h0
   go_enter Tryd.func18,Tryd.ntmps18
   go_upto_region 1 with fail
   rw [←HW.out]
   obtain ⟨c0,c1,c2⟩:=HCS.out W (Below.refl _ _)
   go_wp2_with ((with_reducible refine (HCK.out).mono ?_);rintro e w1 ⟨rfl,hb1⟩;have H1:=Lh hb1;clear hb1)
   go_ret3
   exact ⟨_,_,_,[],rfl,HB.out.trans (H1.out.mono HB.out.size),rowsU_nil _ _,.inl ⟨by rw [HY.out];exact HN.out,rfl,HY.out.symm⟩⟩
 subst h0
 have HV:=Lh HY.out
 have HH:=Lh (check_run HY.out).1
 have HST:=Lh (fun wr (hb:Below W.heap.size W wr)=>Steps_ok p Ab Ao nb cb no co wr (HP.out wr hb) HV.out)
 obtain ⟨st,hst⟩:∃ q,stepsF p.ops=q:=⟨_,rfl⟩
 have hst5:st≤5000:=by rw [←hst];exact H5.out HV.out
 have H55:=Lh (show stepsF p.ops≤5000 from H5.out HV.out)
 rw [hst] at HST
 have d1:decide ((16777216:Int) < st)=false:=decide_eq_false (by omega)
 obtain ⟨b,hb⟩:∃ b,rowsB p.bufs a=b:=⟨_,rfl⟩
 rw [hb] at HRW
 have HBB:=Lh hb
 clear hst hb H5
 cases b
 · go_enter Tryd.func18,Tryd.ntmps18
   go_upto_region 1 with fail
   rw [←HW.out]
   obtain ⟨c0,c1,c2⟩:=HCS.out W (Below.refl _ _)
   go_upto_region 2 with ((with_reducible refine (HCK.out).mono ?_);rintro e w1 ⟨rfl,hb1⟩;have H1:=Lh hb1;clear hb1)
   clear c0 c1 c2
   obtain ⟨c0,c1,c2⟩:=HCS.out w1 H1.out
   go_upto_region 4 with ((with_reducible refine (HST.out _ H1.out).mono ?_);rintro e w2 ⟨rfl,hb2⟩;have H2:=Lh (H1.out.trans (hb2.mono H1.out.size));clear hb2)
   clear c0 c1 c2
   obtain ⟨c0,c1,c2⟩:=HCS.out w2 H2.out
   go_wp2_with ((with_reducible refine (HRW.out _ H2.out).mono ?_);rintro e w3 ⟨rfl,hb3⟩;have H3:=Lh (H2.out.trans (hb3.mono H2.out.size));clear hb3)
   go_ret3
   exact ⟨_,_,_,[],rfl,HB.out.trans (H3.out.mono HB.out.size),rowsU_nil _ _,.inr (.inl ⟨HV.out,HBB.out,rfl,rfl⟩)⟩
 obtain ⟨f,hwin⟩:=run_within (D:=doP) HV.out H55.out (padF p.bufs a)
 have HWIN:=Lh hwin
 clear hwin
 obtain ⟨rg,hrg⟩:∃ q:Nat,p.regs=q:=⟨p.regs.toNat,by have:=(head_ok HH.out).2.1;omega⟩
 have HRG:=Lh hrg
 have hrg6:rg≤65536:=by have:=(head_ok HH.out).1;omega
 rw [hrg] at HCS HCK HST HRW
 have HIV:=Lh (inv_start HH.out HBB.out HX.out)
 have HLN:=Lh (show p.bufs.length=n∧n≤40 by
   have h1:=(rowsB_all HBB.out).1
   have h2:=(head_ok HH.out).2.2.1
   have h3:=HAL.out
   exact ⟨by omega,by omega⟩)
 clear hrg
 rw [HRG.out]
 go_enter Tryd.func18,Tryd.ntmps18
 go_upto_region 1 with fail
 rw [←HRG.out,←HW.out]
 obtain ⟨c0,c1,c2⟩:=HCS.out W (Below.refl _ _)
 go_upto_region 2 with ((with_reducible refine (HCK.out).mono ?_);rintro e w1 ⟨rfl,hb1⟩;have H1:=Lh hb1;clear hb1)
 clear c0 c1 c2
 obtain ⟨c0,c1,c2⟩:=HCS.out w1 H1.out
 go_upto_region 4 with ((with_reducible refine (HST.out _ H1.out).mono ?_);rintro e w2 ⟨rfl,hb2⟩;have H2:=Lh (H1.out.trans (hb2.mono H1.out.size));clear hb2)
 clear c0 c1 c2
 obtain ⟨c0,c1,c2⟩:=HCS.out w2 H2.out
 go_wp2_with ((with_reducible refine (HRW.out _ H2.out).mono ?_);rintro e w3 ⟨rfl,hb3⟩;have H3:=Lh (H2.out.trans (hb3.mono H2.out.size));clear hb3)
 clear c0 c1 c2
 refine wp_code (c:=partR Tryd.f18 8) (by kernel_rfl) ?_
 refine run_r8 (n:=rg) (bp:=w.heap.size) _ _ (HCS.out w3 H3.out).1 (HCS.out w3 H3.out).2.1 (HCS.out w3 H3.out).2.2 hrg6 ?_
 intro lG lH lI lJ lK lL w4 h4
 have H4:=Lh h4
 clear h4
 have HBUF:=Lh (show BufsAt w3 (fun k=>k < w3.heap.size) (.slice Ab nb cb) p.bufs∧OpsAt w3 (fun k=>k < w3.heap.size) (.slice Ao no co) p.ops by
   obtain ⟨vb,vo,h,h1,h2⟩:=(HP.out w3 H3.out).row
   simp only [List.cons.injEq] at h
   rw [←h.2.1] at h1
   rw [←h.2.2.1] at h2
   exact ⟨h1,h2⟩)
 go_wp2
 refine wp_code (c:=partL Tryd.f18 0) (by kernel_rfl) ?_
 refine run_l0 (w0:=w3) (nb:=nb) (cb:=cb) (Ab:=Ab) (rows:=a) (bs:=p.bufs) _ _ H4.out (HA.out w3 H3.out) HBUF.out.1 (HCS.out w3 H3.out).2.1 (Nat.lt_of_lt_of_le HLT.out H3.out.size) HLN.out.1 HLN.out.2 (rows_fit HH.out HBB.out) ?_
 intro gs vB mN mO lM lN lO lP lQ lR lS lT lU lV lW lX lY lZ l5 l6 l7 l8 l9 mA mB mC mD mE mF mG mH mI mJ w5 h5
 obtain ⟨F1,hF1,hRB⟩:=h5.rebase
 have H53:=Lh h5.below
 have H5W:=Lh (show Below W.heap.size W w5 from H3.out.trans (h5.below.mono H3.out.size))
 have HRB:=Lh (And.intro hF1 hRB)
 have HEN:=Lh (Rends_any p Ab Ao nb cb no co w5 (HP.out w5 H5W.out) (by rw [check_same];exact HV.out))
 rw [HRG.out] at HEN
 obtain ⟨c0,c1,c2⟩:=HCS.out w5 H5W.out
 clear h5 hF1 hRB
 go_upto_region 16 with ((with_reducible refine (HEN.out).mono ?_);rintro e w6 ⟨ge,rfl,hge,hE,hb6⟩;have HE:=Lh (And.intro hge hE);have H6:=Lh hb6;clear hge hE hb6)
 clear c0 c1 c2
 have HNO:=Lh (show p.ops.length=no by obtain ⟨A',c',hv,_⟩:=rows_form HBUF.out.2;cases hv;simp)
 rw [HNO.out]
 have H6W:=Lh (show Below W.heap.size W w6 from H5W.out.trans (H6.out.mono H5W.out.size))
 have H63:=Lh (show Below w3.heap.size w3 w6 from H53.out.trans (H6.out.mono H53.out.size))
 have HFB:=Lh (show ∀ k,F1 k→w3.heap.size≤k∧k < w5.heap.size from fun k hk=>⟨by
   have:=(HRB.out.1 k hk).1
   unfold Ov at this
   exact this.elim (fun h=>h.elim) (fun h=>h),(HRB.out.1 k hk).2⟩)
 go_wp2
 refine wp_code (c:=partL Tryd.f18 2) (by kernel_rfl) ?_
 refine run_l2 (p:=p) (B:=w3.heap.size) (w0:=w6) (F0:=F1) (G:=fun k=>k < w3.heap.size) (bp:=w.heap.size) (ge:=ge) (f:=f) (s0:=st0 p a) (co:=co) (Ao:=Ao) (vl0:=.slice none 0 0) (gs:=gs) (vB:=vB) (vb:=.slice Ab nb cb) (gr:=w3.heap.size) _ _ ⟨HWIN.out,fun r h=>h,?_,HIV.out⟩ ⟨rfl,rfl⟩ HV.out (HP.out w3 H3.out).imm (HCS.out w6 H6W.out).2.2 (Rows.keep HBUF.out.2 (fun k hk=>H63.out.block k hk)) HE.out.2 ?_ ?_ ?_
 · have h:=HRB.out.2 w6 H6.out
   show RunAt _ _ _ _ _ _ p.regs _ _ _ _ _ (List.replicate p.regs.toNat 0) (padF p.bufs a) []
   rw [HRG.out,Int.toNat_natCast]
   exact h
 · intro k hk
   have z1:=HLT.out
   have z2:=H3.out.size
   have z3:=H63.out.size
   rcases hk with rfl | rfl | hk
   · exact ⟨by omega,fun h=>by have:=(HFB.out _ h).1;omega⟩
   · exact ⟨lt_of_block HE.out.2,fun h=>by have:=(HFB.out _ h).2;have:=HE.out.1;omega⟩
   · have hk':k < w3.heap.size:=hk
     exact ⟨by omega,fun h=>by have:=(HFB.out _ h).1;omega⟩
 · intro s vl hfin pC pD pP nA nQ pQ pZ iT iU iV iW iX iY iZ i7 i8 i9 jA jB jC jD jE jF jG jH jI jJ jK jL jM jO jP jQ jR jS jT jU jV jW jX jY jZ j5 j6 j7 j8 j9 kF kG kH kI kJ kK kL kN kO kP kQ kR kS kT kU m5 m6 m7 m8 oB oC oD oE oF oG oH oI oJ oK oL oM oN oO oP oQ oS oT oU oV nB w7 h7
   have H7:=Lh h7
   have HFIN:=Lh hfin
   clear h7 hfin
   obtain ⟨Al,nl,cl,hvl⟩:=H7.out.ev_form
   subst hvl
   obtain ⟨A4,n4,c4,hvB⟩:=H7.out.buf_form
   subst hvB
   go_wp2
   refine wp_code (c:=partR Tryd.f18 35) (by kernel_rfl) ?_
   refine run_r35 (A:=A4) (n:=n4) (c:=c4) _ _ (H7.out.box 4 rfl) (H7.out.box 5 rfl) ?_
   intro nC nD nE nF nG nH nI nJ w8 h8
   subst h8
   go_wp2
   go_ret3
   have h8:=H7.out.next (Below.refl _ _).drew
   refine ⟨_,_,_,s.bufs,rfl,?_,h8.rows,.inr (.inr ⟨HV.out,HBB.out,f,.inr ⟨s,HFIN.out,rfl,rfl⟩⟩)⟩
   have hb7:Below w3.heap.size w6 w7.drew:=h8.sep.chg.below (fun k hk h=>by
     have:=H63.out.size
     unfold Ov at h
     exact h.elim (fun h=>by have:=(HFB.out k h).1;omega) (fun h=>by omega)) H63.out.size
   exact HB.out.trans ((H3.out.trans ((H63.out.trans hb7).mono H3.out.size)).mono HB.out.size)
 · intro hfin pD nA nQ pQ pZ iT iU iV iW iX iY iZ i7 i8 i9 jA jB jC jD jE jF jG jH jI jJ jK jL jM jO jP jQ jR jS jT jU jV jW jX jY jZ j5 j6 j7 j8 j9 kF kG kH kI kJ kK kL kN kO kP kQ kR kS kT kU m5 m6 m7 m8 oB oC oD oE oF oG oH oI oJ oK oL oM oN oO oP oQ oS oT oU oV nB w7 h7
   have H7:=Lh h7
   have HFIN:=Lh hfin
   clear h7 hfin
   go_wp2
   go_ret3
   obtain ⟨R,hR⟩:=H7.out
   refine ⟨_,_,_,[],rfl,?_,rowsU_nil _ _,.inr (.inr ⟨HV.out,HBB.out,f,.inl ⟨HFIN.out,rfl,rfl⟩⟩)⟩
   have hb7:Below w3.heap.size w6 w7:=hR.chg.below (fun k hk h=>by
     have:=H63.out.size
     unfold Ov at h
     exact h.elim (fun h=>by have:=(HFB.out k h).1;omega) (fun h=>by omega)) H63.out.size
   exact HB.out.trans ((H3.out.trans ((H63.out.trans hb7).mono H3.out.size)).mono HB.out.size)
end Go.Proofs.YtppoiahhaclleaaDoor
namespace Go.Proofs.YtppoiahhaclleaaDoor
open Go.RowKit
def rnoteF (s:Int×Int) (i:Int):Int×Int:=(if s.1 < 0 then i else s.1,i)
def rnoteL (sp:List (Int×Int)) (r i:Int):List (Int×Int):=sp.modify r.toNat (fun s=>rnoteF s i)
theorem rnote_same {s:Int×Int} {i:Int} (h:s.2≤i):rnoteF s i=noteF s i:=by
 unfold rnoteF noteF
 rw [Int.max_eq_right h]
theorem rnoteL_len (sp:List (Int×Int)) (r i:Int):(rnoteL sp r i).length=sp.length:=by simp [rnoteL]
theorem rfold_len (l:List Int) (i:Int):∀ sp:List (Int×Int),(l.foldl (fun sp r=>rnoteL sp r i) sp).length=sp.length:=by
 induction l with
 | nil=>exact fun _=>rfl
 | cons r l ih=>intro sp;rw [List.foldl_cons,ih,rnoteL_len]
theorem rnoteL_eq {sp:List (Int×Int)} {r i:Int} (h:∀ s∈sp,s.2≤i) (hr:0≤r):rnoteL sp r i=noteR sp r i∧∀ s∈noteR sp r i,s.2≤i:=by
 unfold rnoteL noteR
 rw [if_pos hr]
 refine ⟨List.ext_getElem? fun j=>?_,fun s hs=>?_⟩
 · rw [List.getElem?_modify,List.getElem?_modify]
   cases hj:sp[j]? with
   | none=>rfl
   | some s =>
     have:=h s (List.mem_of_getElem? hj)
     simp only [Option.map_eq_map,Option.map_some]
     split
     · rw [rnote_same this]
     · rfl
 · obtain ⟨j,hj⟩:=List.getElem?_of_mem hs
   rw [List.getElem?_modify] at hj
   cases hj2:sp[j]? with
   | none=>rw [hj2] at hj;cases hj
   | some t =>
     have:=h t (List.mem_of_getElem? hj2)
     rw [hj2] at hj
     simp only [Option.map_eq_map,Option.map_some,Option.some.injEq] at hj
     split at hj
     · rw [←hj];unfold noteF;simp only;omega
     · rw [←hj];exact this
theorem rfold_eq {l:List Int} {i:Int}:∀ {sp:List (Int×Int)},(∀ s∈sp,s.2≤i)→(∀ r∈l,0≤r)→l.foldl (fun sp r=>rnoteL sp r i) sp=l.foldl (fun sp r=>noteR sp r i) sp:=by
 induction l with
 | nil=>exact fun _ _=>rfl
 | cons r l ih =>
   intro sp h hr
   obtain ⟨h1,h2⟩:=rnoteL_eq h (hr r (List.mem_cons_self))
   rw [List.foldl_cons,List.foldl_cons,h1]
   exact ih h2 fun x hx=>hr x (List.mem_cons_of_mem _ hx)
theorem fold_mem {l l':List Int} (h:∀ j:Nat,(j:Int)∈l↔(j:Int)∈l') (i:Int) (sp:List (Int×Int)):l.foldl (fun sp r=>noteR sp r i) sp=l'.foldl (fun sp r=>noteR sp r i) sp:=by
 refine List.ext_getElem? fun j=>?_
 rw [notes_fold_get,notes_fold_get]
 simp only [h j]
theorem kind_or {k:Int} (h1:1≤k) (h2:k≤17):k=1∨k=2∨k=3∨k=4∨k=5∨k=6∨k=7∨k=8∨k=9∨k=10∨k=11∨k=12∨k=13∨k=14∨k=15∨k=16∨k=17:=by omega
theorem regs_same {p:LP} {o:LOp} (h:fieldsF p o=true):(∀ j:Nat,(j:Int)∈takesF o++makesF o↔(j:Int)∈[o.a,o.b,o.c,o.d,o.e])∧(∀ r∈takesF o++makesF o,0≤r∧r < p.regs):=by
 obtain ⟨h1,h2,hr⟩:=regs_is h
 obtain ⟨hd,he,ha,hb,hc⟩:=hr
 obtain ⟨k,d,e,a,b,c,buf,imm⟩:=o
 simp only at h1 h2 hd he ha hb hc ⊢
 unfold takesF makesF
 rcases kind_or h1 h2 with rfl | rfl | rfl | rfl | rfl | rfl | rfl | rfl | rfl | rfl | rfl | rfl | rfl | rfl | rfl | rfl | rfl <;>
   simp [kD,kE,kA,kB,kC,kM] at hd he ha hb hc ⊢ <;> (try split) <;> simp_all <;> (refine ⟨fun j=>?_,?_⟩ <;> omega)
end Go.Proofs.YtppoiahhaclleaaDoor
