/- Part 26 of a claim; what it proves stands in its last text. -/
import Derived.Test.YtppoiahhaclleaaDoorAr25
import Derived.Test.YtppoiahhaclleaaDoorAr11
import Derived.Maps.OwnSet
import Derived.Maps.OwnOps
import Derived.Maps.Views
namespace Go.Proofs.YtppoiahhaclleaaDoor
open Go.RowKit
set_option maxRecDepth 100000
variable {aB aA kV kW aC aD kY lA lB lC aE aF aG aH aI aJ aK aL aM aN aO aP aQ aR aS aT aU aV aW aX aY aZ a8 bA bB bC bD bE bF bG bH bI bJ bK bL bM bN bO bP bQ bS bT bU bV bW bX bY bZ b4 b6 cA cC cD cE cF cG cH cI cJ cK cL cM cN cO cP cQ cR cT cU cV cW cX cY cZ c8 dA dB dC dD dE dF dG dH dI dJ dK dL dM dN dO dP dQ dR dS dT dU dV dW dX dY dZ d7 eA eB eC eD eE eF eG eH eI eJ eK eL eM eN eO eP eQ eR eS eT eU eV eW eX eY eZ fA fB fC fD fE fF fG fH fI fJ fK fL fM fN fO fP fQ fR fS fT fU fV fW fX fY fZ gA gC gD gE : Value}
def SpansR (w:World) (g:Nat) (sp:List (Int×Int)):Prop:=w.heap[g]? = some (.cells (spV sp).toArray 43 (0,0))
theorem SpansR.cells {w:World} {g:Nat} {sp:List (Int×Int)} (h:SpansR w g sp) {r:Nat} {s:Int×Int} (hr:sp[r]? = some s):w.cell? ⟨g,r*2,none⟩=some (.int .i64 s.1)∧w.cell? ⟨g,r*2+1,none⟩=some (.int .i64 s.2) :=
 ⟨cell_row h (spV_get hr).1,cell_row h (spV_get hr).2⟩
theorem SpansR.next {w w':World} {g:Nat} {sp:List (Int×Int)} (h:SpansR w g sp) (hb:Below w.heap.size w w'):SpansR w' g sp:=(hb.block g (lt_of_block h)).trans h
set_option maxHeartbeats 1600000 in
theorem rnote_any (g r n:Nat) (sp:List (Int×Int)) (s:Int×Int) (i:Int) (w:World) (hg:SpansR w g sp) (hr:sp[r]? = some s) (hn:sp.length=n) :
   Calls Tryd.prog 39 #[.slice (some ⟨g,0,none⟩) n n,.int .i64 (r:Nat),.int .i64 i] w fun e w'=>e=.returned (.tuple #[])∧Chg (fun k=>k=g) w w'∧SpansR w' g (sp.set r (rnoteF s i)):=by
 have hlt:=(List.getElem?_eq_some_iff.1 hr).1
 have hc:=hg.cells hr
 have hf:∀ k,w.frozen? ⟨g,k,none⟩=false:=fun k=>frozen_row hg k
 obtain ⟨a,ha⟩:∃ a,s.1=a:=⟨_,rfl⟩
 obtain ⟨b,hb⟩:∃ a,s.2=a:=⟨_,rfl⟩
 have hn0:rnoteF s i=(if a < 0 then i else a,i):=by unfold rnoteF;rw [ha]
 rw [ha,hb] at hc
 have i0:(0:Int)≤(r:Int):=by omega
 have i1:(r:Int) < (n:Int):=by omega
 have HN:=Lh hn0
 have HG:=Lh hg
 have HR:=Lh hr
 have HA:=Lh (And.intro ha hb)
 have hc0:=hc.1
 have hc1:=hc.2
 have hf0:=hf (r*2)
 have hf1:=hf (r*2+1)
 clear hg hr ha hb hn0 hc hf hlt hn
 by_cases h0:a < 0
 · have d0:decide (a < (0:Int))=true:=decide_eq_true h0
   have hn2:rnoteF s i=(i,i):=by rw [HN.out,if_pos h0]
   have hS1:=setCell_row HG.out (r*2) (.int .i64 i)
   have hS2:=setCell_row hS1 (r*2+1) (.int .i64 i)
   rw [spV_set HR.out i i,←hn2] at hS2
   have HS2:=Lh hS2
   have hc2:(w.setCell ⟨g,r*2,none⟩ (.int .i64 i)).cell? ⟨g,r*2+1,none⟩=some (.int .i64 b):=cell_row hS1 (by rw [List.getElem?_set_ne (by omega),←HA.out.2];exact (spV_get HR.out).2)
   have hf2:(w.setCell ⟨g,r*2,none⟩ (.int .i64 i)).frozen? ⟨g,r*2+1,none⟩=false:=frozen_row hS1 _
   clear h0 hn2 hS1 hS2
   go_enter Tryd.func39,Tryd.ntmps39
   go_wp2
   refine bodyPost_end (v:=.tuple #[]) (results_none rfl _ _ _) rfl ?_
   exact ⟨rfl,((Chg.refl (fun k=>k=g) w).setCell (.inl rfl) _).setCell (.inl rfl) _,HS2.out⟩
 · have d0:decide (a < (0:Int))=false:=decide_eq_false h0
   have hn2:rnoteF s i=(a,i):=by rw [HN.out,if_neg h0]
   have hS2:=setCell_row HG.out (r*2+1) (.int .i64 i)
   rw [spV_set2 HR.out,HA.out.1,←hn2] at hS2
   have HS2:=Lh hS2
   clear h0 hn2 hS2
   go_enter Tryd.func39,Tryd.ntmps39
   go_wp2
   refine bodyPost_end (v:=.tuple #[]) (results_none rfl _ _ _) rfl ?_
   exact ⟨rfl,(Chg.refl (fun k=>k=g) w).setCell (.inl rfl) _,HS2.out⟩
theorem rnoteL_pos {sp:List (Int×Int)} {q:Nat} {i:Int} {s:Int×Int} (h:sp[q]? = some s):rnoteL sp (q:Int) i=sp.set q (rnoteF s i):=by
 unfold rnoteL
 rw [Int.toNat_natCast]
 refine List.ext_getElem? fun j=>?_
 rw [List.getElem?_modify,List.getElem?_set]
 by_cases e:q=j
 · subst e
   rw [if_pos rfl,h]
   simp [(List.getElem?_eq_some_iff.1 h).1]
 · rw [if_neg e]
   cases sp[j]? <;> simp [e]
theorem rnotes_take {l:List Int} {k:Nat} {r:Int} (h:l[k]? = some r) (sp:List (Int×Int)) (i:Int):(l.take (k+1)).foldl (fun sp r=>rnoteL sp r i) sp=rnoteL ((l.take k).foldl (fun sp r=>rnoteL sp r i) sp) r i:=by
 rw [List.take_add_one,h,List.foldl_append]
 rfl
set_option maxHeartbeats 4000000 in
theorem rl_l4 {Al:Option Addr} {gs n nl cl:Nat} {i:Int} {sp:List (Int×Int)} {l:List Int} {G:Nat→Prop} (w:World) (Q:Exit→Act→World→Prop) (hg:SpansR w gs sp) (hn:sp.length=n) (hl:NumsAt w G (.slice Al nl cl) l) (hG:∀ k,G k→k≠gs∧k < w.heap.size) (hnl:l.length=nl) (hn3:nl≤1000) (hr:∀ r∈l,0≤r∧r < n)
   (k1:∀ (mO lX lY lZ l5 l6 l7 l8 l9 mA mB mC mD mE:Value) (w':World),Chg (fun k=>k=gs) w w'∧SpansR w' gs (l.foldl (fun sp r=>rnoteL sp r i) sp)→Q (.exit 4) ⟨#[aB,aA,kV,kW,aC,aD,.slice (some ⟨gs,0,none⟩) n n,kY,.int .i64 i,.slice Al nl cl,lB,mO,aE,aF,aG,aH,aI,aJ,aK,aL,aM,aN,aO,aP,aQ,aR,aS,aT,aU,aV,aW,aX,aY,aZ,a8,bA,bB,bC,bD,bE,bF,bG,bH,bI,bJ,bK,bL,bM,bN,bO,bP,bQ,bS,bT,bU,bV,bW,lX,lY,lZ,l5,l6,l7,l8,l9,mA,mB,mC,mD,mE,cJ,cK,cL,cM,cN,cO,cP,cQ,cR,cT,cU,cV,cW,cX,cY,cZ,c8,dA,dB,dC,dD,dE,dF,dG,dH,dI,dJ,dK,dL,dM,dN,dO,dP,dQ,dR,dS,dT,dU,dV,dW,dX,dY,dZ,d7,eA,eB,eC,eD,eE,eF,eG,eH,eI,eJ,eK,eL,eM,eN,eO,eP,eQ,eR,eS,eT,eU,eV,eW,eX,eY,eZ,fA,fB,fC,fD,fE,fF,fG,fH,fI,fJ,fK,fL,fM,fN,fO,fP,fQ,fR,fS,fT,fU,fV,fW,fX,fY,fZ,gA,gC,gD,gE],[]⟩ w'):(partL Tryd.f15 4).wp Tryd.prog Q ⟨#[aB,aA,kV,kW,aC,aD,.slice (some ⟨gs,0,none⟩) n n,kY,.int .i64 i,.slice Al nl cl,lB,.int .i64 0,aE,aF,aG,aH,aI,aJ,aK,aL,aM,aN,aO,aP,aQ,aR,aS,aT,aU,aV,aW,aX,aY,aZ,a8,bA,bB,bC,bD,bE,bF,bG,bH,bI,bJ,bK,bL,bM,bN,bO,bP,bQ,bS,bT,bU,bV,bW,bX,bY,bZ,b4,b6,cA,cC,cD,cE,cF,cG,cH,cI,cJ,cK,cL,cM,cN,cO,cP,cQ,cR,cT,cU,cV,cW,cX,cY,cZ,c8,dA,dB,dC,dD,dE,dF,dG,dH,dI,dJ,dK,dL,dM,dN,dO,dP,dQ,dR,dS,dT,dU,dV,dW,dX,dY,dZ,d7,eA,eB,eC,eD,eE,eF,eG,eH,eI,eJ,eK,eL,eM,eN,eO,eP,eQ,eR,eS,eT,eU,eV,eW,eX,eY,eZ,fA,fB,fC,fD,fE,fF,fG,fH,fI,fJ,fK,fL,fM,fN,fO,fP,fQ,fR,fS,fT,fU,fV,fW,fX,fY,fZ,gA,gC,gD,gE],[]⟩ w:=by
 have HG:=Lh hg
 have HGG:=Lh hG
 have HN:=Lh hn
 have HL:=Lh hl
 have HNL:=Lh hnl
 have HR:=Lh hr
 have K1:=Lh k1
 clear hg hG hn hl hnl hr k1
 conv=>arg 2;whnf
 go_wp2
 go_loopw [11] (fun j wr=>∃ k:Nat,k≤nl∧j=.int .i64 k∧Hid (Chg (fun k=>k=gs) w wr∧SpansR wr gs ((l.take k).foldl (fun sp r=>rnoteL sp r i) sp))) (fun j _=>nl - (intOf j).toNat)
 case atStart=>exact ⟨0,by omega,rfl,Lh ⟨Chg.refl _ _,by simpa using HG.out⟩⟩
 case round =>
   obtain ⟨k,hk,rfl,HJ⟩:=hrel
   by_cases hlt:k < nl
   · obtain ⟨x,hx⟩:∃ x,l[k]? = some x:=⟨_,List.getElem?_eq_getElem (by have:=HNL.out;omega)⟩
     obtain ⟨b,o,rfl,hb,hc⟩:=HL.out.at_ hx
     have hc2:=(World.cell?_of_block (w:=w) (w':=wr) (a:=⟨b,o+k,none⟩) (HJ.out.1.block b (HGG.out b hb).2 (HGG.out b hb).1)).trans hc
     have hx2:=HR.out x (List.mem_of_getElem? hx)
     have HT:=Lh (rnotes_take hx sp i)
     have i0:(0:Int)≤(k:Int):=by omega
     have i1:(k:Int) < (nl:Int):=by omega
     obtain ⟨q,rfl⟩:∃ q:Nat,x=q:=⟨x.toNat,by omega⟩
     have hlen:((l.take k).foldl (fun sp r=>rnoteL sp r i) sp).length=n:=by rw [rfold_len];exact HN.out
     obtain ⟨s,hs⟩:∃ s,((l.take k).foldl (fun sp r=>rnoteL sp r i) sp)[q]? = some s:=⟨_,List.getElem?_eq_getElem (by omega)⟩
     have HNT:=Lh (rnote_any gs q n _ s i wr HJ.out.2 hs hlen)
     have HP:=Lh (rnoteL_pos (i:=i) hs)
     clear hx hx2 hlen hs hc hb
     go_wp2_with ((with_reducible refine (HNT.out).mono ?_);rintro e w1 ⟨rfl,hch1,hsp1⟩;have H1:=Lh (And.intro hch1 hsp1);clear hch1 hsp1)
     go_roundw
     case rel=>exact ⟨k+1,by omega,by go_num,Lh ⟨HJ.out.1.trans H1.out.1,by rw [HT.out,HP.out];exact H1.out.2⟩⟩
     case measure=>simp [intOf];omega
   · have HZ:=Lh (show SpansR wr gs (l.foldl (fun sp r=>rnoteL sp r i) sp) by have:=HJ.out.2;rwa [List.take_of_length_le (by have:=HNL.out;omega)] at this)
     go_wp2
     exact K1.out _ _ _ _ _ _ _ _ _ _ _ _ _ _ _ ⟨HJ.out.1,HZ.out⟩
set_option maxHeartbeats 4000000 in
theorem rl_l6 {Al:Option Addr} {gs n nl cl:Nat} {i:Int} {sp:List (Int×Int)} {l:List Int} {G:Nat→Prop} (w:World) (Q:Exit→Act→World→Prop) (hg:SpansR w gs sp) (hn:sp.length=n) (hl:NumsAt w G (.slice Al nl cl) l) (hG:∀ k,G k→k≠gs∧k < w.heap.size) (hnl:l.length=nl) (hn3:nl≤1000) (hr:∀ r∈l,0≤r∧r < n)
   (k1:∀ (mP mF mG mH mI mJ mY iS iT iU iV iW iX iY:Value) (w':World),Chg (fun k=>k=gs) w w'∧SpansR w' gs (l.foldl (fun sp r=>rnoteL sp r i) sp)→Q (.exit 6) ⟨#[aB,aA,kV,kW,aC,aD,.slice (some ⟨gs,0,none⟩) n n,kY,.int .i64 i,lA,.slice Al nl cl,lC,mP,aF,aG,aH,aI,aJ,aK,aL,aM,aN,aO,aP,aQ,aR,aS,aT,aU,aV,aW,aX,aY,aZ,a8,bA,bB,bC,bD,bE,bF,bG,bH,bI,bJ,bK,bL,bM,bN,bO,bP,bQ,bS,bT,bU,bV,bW,bX,bY,bZ,b4,b6,cA,cC,cD,cE,cF,cG,cH,cI,mF,mG,mH,mI,mJ,mY,iS,iT,iU,iV,iW,iX,iY,cX,cY,cZ,c8,dA,dB,dC,dD,dE,dF,dG,dH,dI,dJ,dK,dL,dM,dN,dO,dP,dQ,dR,dS,dT,dU,dV,dW,dX,dY,dZ,d7,eA,eB,eC,eD,eE,eF,eG,eH,eI,eJ,eK,eL,eM,eN,eO,eP,eQ,eR,eS,eT,eU,eV,eW,eX,eY,eZ,fA,fB,fC,fD,fE,fF,fG,fH,fI,fJ,fK,fL,fM,fN,fO,fP,fQ,fR,fS,fT,fU,fV,fW,fX,fY,fZ,gA,gC,gD,gE],[]⟩ w'):(partL Tryd.f15 6).wp Tryd.prog Q ⟨#[aB,aA,kV,kW,aC,aD,.slice (some ⟨gs,0,none⟩) n n,kY,.int .i64 i,lA,.slice Al nl cl,lC,.int .i64 0,aF,aG,aH,aI,aJ,aK,aL,aM,aN,aO,aP,aQ,aR,aS,aT,aU,aV,aW,aX,aY,aZ,a8,bA,bB,bC,bD,bE,bF,bG,bH,bI,bJ,bK,bL,bM,bN,bO,bP,bQ,bS,bT,bU,bV,bW,bX,bY,bZ,b4,b6,cA,cC,cD,cE,cF,cG,cH,cI,cJ,cK,cL,cM,cN,cO,cP,cQ,cR,cT,cU,cV,cW,cX,cY,cZ,c8,dA,dB,dC,dD,dE,dF,dG,dH,dI,dJ,dK,dL,dM,dN,dO,dP,dQ,dR,dS,dT,dU,dV,dW,dX,dY,dZ,d7,eA,eB,eC,eD,eE,eF,eG,eH,eI,eJ,eK,eL,eM,eN,eO,eP,eQ,eR,eS,eT,eU,eV,eW,eX,eY,eZ,fA,fB,fC,fD,fE,fF,fG,fH,fI,fJ,fK,fL,fM,fN,fO,fP,fQ,fR,fS,fT,fU,fV,fW,fX,fY,fZ,gA,gC,gD,gE],[]⟩ w:=by
 have HG:=Lh hg
 have HGG:=Lh hG
 have HN:=Lh hn
 have HL:=Lh hl
 have HNL:=Lh hnl
 have HR:=Lh hr
 have K1:=Lh k1
 clear hg hG hn hl hnl hr k1
 conv=>arg 2;whnf
 go_wp2
 go_loopw [12] (fun j wr=>∃ k:Nat,k≤nl∧j=.int .i64 k∧Hid (Chg (fun k=>k=gs) w wr∧SpansR wr gs ((l.take k).foldl (fun sp r=>rnoteL sp r i) sp))) (fun j _=>nl - (intOf j).toNat)
 case atStart=>exact ⟨0,by omega,rfl,Lh ⟨Chg.refl _ _,by simpa using HG.out⟩⟩
 case round =>
   obtain ⟨k,hk,rfl,HJ⟩:=hrel
   by_cases hlt:k < nl
   · obtain ⟨x,hx⟩:∃ x,l[k]? = some x:=⟨_,List.getElem?_eq_getElem (by have:=HNL.out;omega)⟩
     obtain ⟨b,o,rfl,hb,hc⟩:=HL.out.at_ hx
     have hc2:=(World.cell?_of_block (w:=w) (w':=wr) (a:=⟨b,o+k,none⟩) (HJ.out.1.block b (HGG.out b hb).2 (HGG.out b hb).1)).trans hc
     have hx2:=HR.out x (List.mem_of_getElem? hx)
     have HT:=Lh (rnotes_take hx sp i)
     have i0:(0:Int)≤(k:Int):=by omega
     have i1:(k:Int) < (nl:Int):=by omega
     obtain ⟨q,rfl⟩:∃ q:Nat,x=q:=⟨x.toNat,by omega⟩
     have hlen:((l.take k).foldl (fun sp r=>rnoteL sp r i) sp).length=n:=by rw [rfold_len];exact HN.out
     obtain ⟨s,hs⟩:∃ s,((l.take k).foldl (fun sp r=>rnoteL sp r i) sp)[q]? = some s:=⟨_,List.getElem?_eq_getElem (by omega)⟩
     have HNT:=Lh (rnote_any gs q n _ s i wr HJ.out.2 hs hlen)
     have HP:=Lh (rnoteL_pos (i:=i) hs)
     clear hx hx2 hlen hs hc hb
     go_wp2_with ((with_reducible refine (HNT.out).mono ?_);rintro e w1 ⟨rfl,hch1,hsp1⟩;have H1:=Lh (And.intro hch1 hsp1);clear hch1 hsp1)
     go_roundw
     case rel=>exact ⟨k+1,by omega,by go_num,Lh ⟨HJ.out.1.trans H1.out.1,by rw [HT.out,HP.out];exact H1.out.2⟩⟩
     case measure=>simp [intOf];omega
   · have HZ:=Lh (show SpansR wr gs (l.foldl (fun sp r=>rnoteL sp r i) sp) by have:=HJ.out.2;rwa [List.take_of_length_le (by have:=HNL.out;omega)] at this)
     go_wp2
     exact K1.out _ _ _ _ _ _ _ _ _ _ _ _ _ _ _ ⟨HJ.out.1,HZ.out⟩
end Go.Proofs.YtppoiahhaclleaaDoor
namespace Go.Proofs.YtppoiahhaclleaaDoor
open Go.RowKit Go.Maps
set_option maxRecDepth 100000
variable {aB aA kV aC aD kX kY kZ lB aI aJ aK aL aM aN aO aP aQ aR aS aT aU aV aW aX aY aZ a8 bA bB bC bD bE bF bG bH bI bJ bK bL bM bN bO bP bQ bS bT bU bV bW bX bY bZ b4 b6 cA cC cD cE cF cG cH cI cJ cK cL cM cN cO cP cQ cR cT cU cV cW cX cY cZ c8 dA dB dC dD dE dF dG dH dI dJ dK dL dM dN dO dP dQ dR dS dT dU dV dW dX dY dZ d7 eA eB eC eD eE eF eG eH eI eJ eK eL eM eN eO eP eQ eR eS eT eU eV eW eX eY eZ fA fB fC fD fE fF fG fH fI fJ fK fL fM fN fO fP fQ fR fS fT fU fV fW fX fY fZ gA gC gD gE gF gG gH gI gJ gK gL gM gN gO gP gQ gR gS gT gU gV gW gX gY gZ g9 hJ hY hZ iA iB iC iD iE iF iG : Value}
theorem lawI:Keyed Tryd.prog 3:=int_keyed Tryd.underlying3
theorem zeroI (w:World):(zeroValue 3).run Tryd.prog w=.ok (.int .i64 0) w:=by kernel_rfl
def mapR (b n:Nat) (D:DataW Unit):Res:=⟨fun k=>k=b,fun w=>w.ownsMap Tryd.prog 3 (plainElem (H:=Unit) Tryd.prog 3) b n D,fun h hp=>by
 obtain ⟨es,clock,hb,r⟩:=hp
 exact ⟨es,clock,(h b rfl).trans hb,r⟩⟩
structure MapN (D:DataW Unit) (N:Int→Option Nat):Prop where
 is_:IsMap D
 has:∀ a:Int,Maps.has D (.int .i64 a)=(N a).isSome
 at_:∀ (a:Int) (v:Nat),N a=some v→D.atKey (.int .i64 a) (.lit (.int .i64 0))=.lit (.int .i64 (v:Nat))
theorem MapN.start:MapN (.map []) (fun _=>none):=⟨isMap_empty,fun _=>rfl,fun a v h=>by cases h⟩
theorem lit_ne {a b:Int} (h:a≠b):Lit.int .i64 a≠Lit.int .i64 b:=fun e=>h (by injection e)
theorem MapN.new {D:DataW Unit} {N:Int→Option Nat} (h:MapN D N) (a:Int) (m:Nat):MapN (D.put (.int .i64 a) (.lit (.int .i64 (m:Nat)))) (fun b=>if b=a then some m else N b):=by
 refine ⟨h.is_.put _ _,fun b=>?_,fun b v hv=>?_⟩
 · by_cases e:b=a
   · subst e
     rw [has_put_same h.is_ (by trivial)]
     simp
   · rw [has_put_other (lit_ne e),h.has b,if_neg e]
 · by_cases e:b=a
   · subst e
     rw [if_pos rfl] at hv
     cases hv
     exact atKey_put_same h.is_ (by trivial) _ _
   · rw [if_neg e] at hv
     rw [atKey_put_other (lit_ne e)]
     exact h.at_ b v hv
theorem exec_mapUpdate {P:Program} {o:Oper} {a:Act} {w w':World} {t:TypeId} {m k x:Operand} {vm vk vx:Value} (ho:o.op=.mapUpdate t m k x) (hm:a.eval m=vm) (hk:a.eval k=vk) (hx:a.eval x=vx) (h:(Instr.mapUpdate t vm vk vx).run P w=.ok () w'):(execOp a.eval o).run P w=.ok .skip w':=by
 unfold execOp
 simp only [ho,hm,hk,hx,Sem.run_bind,Sem.run_pure,h,Result.andThen_ok]
theorem bad_of {p:LP} {pool:Int} {pl:List Int} (h:placesF p pool pl=0) (h0:(checkF p 64).2=0):∀ (x:Nat) (s:Int×Int) (a:Int),(spansF p)[x]? = some s→pl[x]? = some a→0≤s.1→-64≤a∧a < 17:=by
 intro x s a h1 h2 h3
 unfold placesF at h
 rw [if_neg (by rw [h0];decide)] at h
 split at h
 · cases h
 · rename_i hp
   split at h
   · cases h
   · rename_i hb
     have h4:badP pool s a=false:=by
       cases hq:badP pool s a with
       | false=>rfl
       | true=>exact absurd (bad_yes ⟨x,s,a,h1,h2,hq⟩) hb
     unfold badP at h4
     simp at h4
     have:=h4 h3
     omega
theorem map_more {w0 w:World} {F0:Nat→Prop} {b n:Nat} {D:DataW Unit} {R:List Res} (h:Sep w0 F0 w (mapR b n D :: R)):Sep w0 F0 w (mapR b (n+1) D :: R) :=
 ⟨h.chg,fun r hr k hk=>by
   rcases List.mem_cons.1 hr with rfl | hr
   · exact h.lt (mapR b n D) List.mem_cons_self k hk
   · exact h.lt r (List.mem_cons_of_mem _ hr) k hk,fun r hr k hk=>by
   rcases List.mem_cons.1 hr with rfl | hr
   · exact h.over (mapR b n D) List.mem_cons_self k hk
   · exact h.over r (List.mem_cons_of_mem _ hr) k hk,List.pairwise_cons.2 ⟨fun q hq=>(List.pairwise_cons.1 h.dis).1 q hq,(List.pairwise_cons.1 h.dis).2⟩,fun r hr=>by
   rcases List.mem_cons.1 hr with rfl | hr
   · exact (show w.ownsMap Tryd.prog 3 (plainElem (H:=Unit) Tryd.prog 3) b n D from h.holds (mapR b n D) List.mem_cons_self).mono (Nat.le_succ n)
   · exact h.holds r (List.mem_cons_of_mem _ hr)⟩
theorem map_put {w0 w w':World} {F0:Nat→Prop} {b n n':Nat} {D D':DataW Unit} {R:List Res} (h:Sep w0 F0 w (mapR b n D :: R)) (ho:w'.ownsMap Tryd.prog 3 (plainElem (H:=Unit) Tryd.prog 3) b n' D') (hg:w.grownBy w' (some b)):Sep w0 F0 w' (mapR b n' D' :: R) :=
 h.put 0 rfl (r':=mapR b n' D') ⟨hg.os,hg.tape,hg.output,hg.size,fun k hk hF=>hg.block k hk (fun e=>hF (.inl (Option.some.inj e)))⟩ ho (fun k hk=>⟨.inl hk,by
   have:k=b:=hk
   subst this
   exact Nat.lt_of_lt_of_le (h.lt _ List.mem_cons_self k rfl) hg.size⟩)
set_option maxHeartbeats 4000000 in
theorem runs_l0 {w0:World} {bp gl gs bm bq bt go gb n:Nat} {vb vo:Value} {sp:List (Int×Int)} {pl:List Int} {ops bfs:List (List Value)} (w:World) (Q:Exit→Act→World→Prop) (hS:Sep w0 (fun _=>False) w [mapR bm 0 (.map []),boxR bq 25 [.int .i64 ((0:Nat):Int),vb,vo],boxR bt 3 (intV (List.replicate n 0)),rowsR go 47 8 ops,rowsR gb 60 3 bfs]) (hL:SpansR w0 gs sp) (hE:EndsAt w0 gl pl) (b0:w0.cell? ⟨bp,0,none⟩=some (.int .i64 (n:Nat))) (hlt:gs < w0.heap.size∧gl < w0.heap.size∧bp < w0.heap.size) (hsl:sp.length=n) (hpl:pl.length=n) (hn:n≤64) (hbd:∀ (x:Nat) (s:Int×Int) (a:Int),sp[x]? = some s→pl[x]? = some a→0≤s.1→-64≤a∧a < 17)
   (k1:∀ (D:DataW Unit) (N:Int→Option Nat) (m:Nat) (tl:List Int),∀ (pQ pZ p3 i8 i9 jA jB jC jD jE jF jG jH jI jJ jK jL jM jO jP jQ jR jS jT jU jV jW jX jY jZ j5 j6 j7 j8 j9 kF kG kH kI kJ kK kL kN kO kP kQ:Value) (w':World),Sep w0 (fun _=>False) w' [mapR bm n D,boxR bq 25 [.int .i64 (m:Nat),vb,vo],boxR bt 3 (intV tl),rowsR go 47 8 ops,rowsR gb 60 3 bfs]→NmI sp pl n N m tl→Q (.exit 0) ⟨#[aB,aA,kV,.pointer (some ⟨bp,0,none⟩),aC,aD,kX,kY,kZ,.slice (some ⟨gl,0,none⟩) n n,lB,.slice (some ⟨gs,0,none⟩) n n,.map (some bm),.pointer (some ⟨bq,0,none⟩),.slice (some ⟨bt,0,none⟩) n n,pQ,pZ,p3,aK,aL,aM,aN,aO,aP,aQ,aR,aS,aT,aU,aV,aW,aX,aY,aZ,a8,bA,bB,bC,bD,bE,bF,bG,bH,bI,bJ,bK,bL,bM,bN,bO,bP,bQ,bS,bT,bU,bV,bW,bX,bY,bZ,b4,b6,cA,cC,cD,cE,cF,cG,cH,cI,cJ,cK,cL,cM,cN,cO,cP,cQ,cR,cT,cU,cV,cW,cX,cY,i8,i9,jA,jB,jC,jD,jE,jF,jG,jH,jI,jJ,jK,jL,jM,jO,jP,jQ,jR,jS,jT,jU,jV,jW,jX,jY,jZ,j5,j6,j7,j8,j9,kF,kG,kH,kI,kJ,kK,kL,kN,kO,kP,kQ,eO,eP,eQ,eR,eS,eT,eU,eV,eW,eX,eY,eZ,fA,fB,fC,fD,fE,fF,fG,fH,fI,fJ,fK,fL,fM,fN,fO,fP,fQ,fR,fS,fT,fU,fV,fW,fX,fY,fZ,gA,gC,gD,gE,gF,gG,gH,gI,gJ,gK,gL,gM,gN,gO,gP,gQ,gR,gS,gT,gU,gV,gW,gX,gY,gZ,g9,hJ,hY,hZ,iA,iB,iC,iD,iE,iF,iG],[]⟩ w'):(partL Tryd.f3 0).wp Tryd.prog Q ⟨#[aB,aA,kV,.pointer (some ⟨bp,0,none⟩),aC,aD,kX,kY,kZ,.slice (some ⟨gl,0,none⟩) n n,lB,.slice (some ⟨gs,0,none⟩) n n,.map (some bm),.pointer (some ⟨bq,0,none⟩),.slice (some ⟨bt,0,none⟩) n n,.int .i64 0,aI,aJ,aK,aL,aM,aN,aO,aP,aQ,aR,aS,aT,aU,aV,aW,aX,aY,aZ,a8,bA,bB,bC,bD,bE,bF,bG,bH,bI,bJ,bK,bL,bM,bN,bO,bP,bQ,bS,bT,bU,bV,bW,bX,bY,bZ,b4,b6,cA,cC,cD,cE,cF,cG,cH,cI,cJ,cK,cL,cM,cN,cO,cP,cQ,cR,cT,cU,cV,cW,cX,cY,cZ,c8,dA,dB,dC,dD,dE,dF,dG,dH,dI,dJ,dK,dL,dM,dN,dO,dP,dQ,dR,dS,dT,dU,dV,dW,dX,dY,dZ,d7,eA,eB,eC,eD,eE,eF,eG,eH,eI,eJ,eK,eL,eM,eN,eO,eP,eQ,eR,eS,eT,eU,eV,eW,eX,eY,eZ,fA,fB,fC,fD,fE,fF,fG,fH,fI,fJ,fK,fL,fM,fN,fO,fP,fQ,fR,fS,fT,fU,fV,fW,fX,fY,fZ,gA,gC,gD,gE,gF,gG,gH,gI,gJ,gK,gL,gM,gN,gO,gP,gQ,gR,gS,gT,gU,gV,gW,gX,gY,gZ,g9,hJ,hY,hZ,iA,iB,iC,iD,iE,iF,iG],[]⟩ w:=by
 have HS0:=Lh hS
 have HK1:=Lh k1
 have HPL:=Lh (And.intro hL (And.intro hE (And.intro b0 hlt)))
 have HLN:=Lh (And.intro hsl hpl)
 have HBD:=Lh hbd
 have hn64:n≤64:=hn
 have HH:=Lh (fun wr (hb:Below w0.heap.size w0 wr)=>And.intro ((hb.block gs hlt.1).trans hL) (And.intro ((hb.block gl hlt.2.1).trans hE) ((hb.cell (p:=⟨bp,0,none⟩) hlt.2.2).trans b0)))
 clear hS k1 hL hE b0 hlt hsl hpl hbd hn
 conv=>arg 2;whnf
 go_wp2
 go_loopw [15] (fun j wr=>∃ k:Nat,k≤n∧j=.int .i64 k∧Hid (∃ (D:DataW Unit) (N:Int→Option Nat) (m:Nat) (tl:List Int),Sep w0 (fun _=>False) wr [mapR bm k D,boxR bq 25 [.int .i64 (m:Nat),vb,vo],boxR bt 3 (intV tl),rowsR go 47 8 ops,rowsR gb 60 3 bfs]∧NmI sp pl k N m tl∧MapN D N)) (fun j _=>n - (intOf j).toNat)
 case atStart=>exact ⟨0,by omega,rfl,Lh ⟨_,_,0,_,HS0.out,NmI.start sp pl n HLN.out.1,MapN.start⟩⟩
 case round =>
   obtain ⟨k,hk,rfl,HT⟩:=hrel
   obtain ⟨D,N,m,tl,hT⟩:=HT.out
   have HT:=Lh hT
   have hB:=hT.1.below
   obtain ⟨x1,x2,c0⟩:=HH.out wr hB
   by_cases hlt:k < n
   · obtain ⟨s,hs⟩:∃ s,sp[k]? = some s:=⟨_,List.getElem?_eq_getElem (by rw [HLN.out.1];exact hlt)⟩
     obtain ⟨a,ha⟩:∃ a,pl[k]? = some a:=⟨_,List.getElem?_eq_getElem (by rw [HLN.out.2];exact hlt)⟩
     have y0:=(SpansR.cells x1 hs).1
     have y0':wr.cell? ⟨gs,k*2+0,none⟩=some (.int .i64 s.1):=y0
     have y1:=EndsAt.cell x2 ha
     have HSA:=Lh (And.intro hs ha)
     obtain ⟨s1,hs1⟩:∃ q,s.1=q:=⟨_,rfl⟩
     have HS1:=Lh hs1
     rw [hs1] at y0 y0'
     have i0:(0:Int)≤(k:Int):=by omega
     have i1:(k:Int) < (n:Int):=by omega
     have q0:decide (k < n)=true:=decide_eq_true hlt
     clear hT hB x1 x2 hs ha hs1
     by_cases hneg:s1 < 0
     · have d1:decide (s1 < (0:Int))=true:=decide_eq_true hneg
       have HN:=Lh hneg
       clear hneg
       go_wp2
       go_roundw
       case rel=>exact ⟨k+1,by omega,by go_num,Lh ⟨D,N,m,tl,map_more HT.out.1,HT.out.2.1.skip HSA.out.1 (by rw [HS1.out];exact HN.out),HT.out.2.2⟩⟩
       case measure=>simp [intOf];omega
     have d1:decide (s1 < (0:Int))=false:=decide_eq_false hneg
     have hbda:=HBD.out k s a HSA.out.1 HSA.out.2 (by rw [HS1.out];omega)
     have hwf:(Lit.int .i64 a).wf=true:=WalkArith.wf_i64 (by omega)
     have HKEY:=Lh (show keyOf Tryd.prog 3 (.int .i64 a)=some (.int .i64 a) from keyOf_int_mk Tryd.underlying3 hwf)
     have HTL:=Lh (show tl.length=n by rw [HT.out.2.1.len,HLN.out.1])
     have HML:=Lh (show m≤k from HT.out.2.1.le)
     obtain ⟨t0,ht0⟩:∃ t0,tl[k]? = some t0:=⟨_,List.getElem?_eq_getElem (by rw [HTL.out];exact hlt)⟩
     have t1:=HT.out.1.cell 2 k rfl (intV_get ht0)
     have t2:=HT.out.1.frozen 2 k rfl
     have q1:=HT.out.1.cell 1 0 rfl rfl
     have q2:=HT.out.1.frozen 1 0 rfl
     have HOW:=Lh (show wr.ownsMap Tryd.prog 3 (plainElem (H:=Unit) Tryd.prog 3) bm k D from HT.out.1.get 0 rfl)
     clear hneg hbda hwf ht0
     cases hN:N a with
     | some v =>
       have hhas:Maps.has D (.int .i64 a)=true:=by rw [HT.out.2.2.has a,hN];rfl
       have HAT:=Lh (HT.out.2.2.at_ a v hN)
       have HN:=Lh hN
       clear hN
       go_wp2_with (first
         | (at_lookup;refine wpList_lookup_own_ok_int _ rfl _ _ 41 rfl 3 3 .i64 lawI Tryd.underlying41 Tryd.underlying3 (zeroI _) bm k D rfl HOW.out _ _ rfl HKEY.out ?_;intro cc hcc _;rw [hhas];clear hcc)
         | (at_lookup;refine wpList_lookup_own_int _ rfl _ _ 41 rfl 3 3 .i64 lawI Tryd.underlying41 Tryd.underlying3 (zeroI _) bm k D rfl HOW.out _ _ rfl HKEY.out ?_;intro cc hcc _;(have hcv:cc=(v:Nat):=by rw [HAT.out] at hcc;simpa using hcc.symm);subst hcv;clear hcc))
       go_roundw
       case rel=>exact ⟨k+1,by omega,by go_num,Lh ⟨D,N,m,tl.set k (v:Nat),map_more (HT.out.1.setCell 2 rfl k (.int .i64 (v:Nat)) (intV_set tl k v)),HT.out.2.1.old (by rw [HLN.out.1];exact hlt) HSA.out.2 HN.out,HT.out.2.2⟩⟩
       case measure=>simp [intOf];omega
     | none =>
       have hhas:Maps.has D (.int .i64 a)=false:=by rw [HT.out.2.2.has a,hN];rfl
       have HN:=Lh hN
       clear hN
       obtain ⟨w6,hup,hown6,hgr6⟩:=(show wr.drew.ownsMap Tryd.prog 3 (plainElem (H:=Unit) Tryd.prog 3) bm k D from HOW.out).update lawI Tryd.underlying41 (by unfold maxLen;omega) (val:=.int .i64 (m:Nat)) HKEY.out (plainElem_int Tryd.underlying3 (WalkArith.wf_i64 (by have:=HML.out;omega)))
       have HUP:=Lh hup
       have HS6:=Lh (show Sep w0 (fun _=>False) w6 [mapR bm (k+1) (D.put (.int .i64 a) (.lit (.int .i64 (m:Nat)))),boxR bq 25 [.int .i64 (m:Nat),vb,vo],boxR bt 3 (intV tl),rowsR go 47 8 ops,rowsR gb 60 3 bfs] from map_put HT.out.1.drew hown6 hgr6)
       have HC:=Lh (And.intro y1 q1)
       have HZ:=Lh (show ∀ kk,(HT.out.2.2.new a m).at_=kk→True from fun _ _=>trivial)
       clear hup hown6 hgr6
       go_wp2_with (at_lookup;refine wpList_lookup_own_ok_int _ rfl _ _ 41 rfl 3 3 .i64 lawI Tryd.underlying41 Tryd.underlying3 (zeroI _) bm k D rfl HOW.out _ _ rfl HKEY.out ?_;intro cc hcc _;rw [hhas];clear hcc)
       (refine wp_region_lines (fun w_=>w_.cell? ⟨gl,k,none⟩=some (.int .i64 a)∧w_.cell? ⟨bq,0,none⟩=some (.int .i64 (m:Nat))) (by kernel_rfl) (by kernel_rfl) HC.out ?_)
       (try simp only [])
       repeat (first | (refine runL_no (by rfl) ?_;(try simp only [Act.put,List.setIfInBounds_toArray,List.set_cons_zero,List.set_cons_succ])) | (refine runL_val (v:=?_) (by rfl) ?_ ?_;rotate_left;(focus (intro w_ hw_;obtain ⟨f1_,f2_⟩:=hw_;go_simp;(try with_reducible rfl);done));(try simp only [Act.put,List.setIfInBounds_toArray,List.set_cons_zero,List.set_cons_succ])) | (refine runL_skip (w1:=w6) (by rfl) (by rfl) (exec_mapUpdate rfl rfl rfl rfl HUP.out) (.inl ⟨rfl,by kernel_rfl⟩) ?_;(try simp only [Act.put])))
       (refine runL_nil ?_)
       clear y0 y0' y1 t1 t2 q1 q2 c0
       have HAT:=Lh ((HT.out.2.2.new a m).at_ a m (by simp))
       have HS7:=Lh (HS6.out.setCell 1 rfl 0 (.int .i64 ((m:Int)+1)) rfl)
       have q1:=HS6.out.cell 1 0 rfl rfl
       have q2:=HS6.out.frozen 1 0 rfl
       have y1:=EndsAt.cell (HH.out w6 HS6.out.below).2.1 HSA.out.2
       obtain ⟨w7,hw7⟩:∃ q,q=w6.setCell ⟨bq,0,none⟩ (.int .i64 ((m:Int)+1)):=⟨_,rfl⟩
       rw [←hw7] at HS7
       have q5:IntKind.i64.wrap ((m:Int)+1)=(m:Int)+1:=by rw [IntKind.wrap_i64];have:=HML.out;omega
       have HW7:=Lh hw7
       clear hw7
       go_upto_region 23 with fail
       rw [←HW7.out]
       clear q1 q2 y1
       have y1:=EndsAt.cell (HH.out w7 HS7.out.below).2.1 HSA.out.2
       obtain ⟨t0,ht0⟩:∃ t0,tl[k]? = some t0:=⟨_,List.getElem?_eq_getElem (by rw [HTL.out];exact hlt)⟩
       have t1:=HS7.out.cell 2 k rfl (intV_get ht0)
       have t2:=HS7.out.frozen 2 k rfl
       have HOW7:=Lh (show w7.ownsMap Tryd.prog 3 (plainElem (H:=Unit) Tryd.prog 3) bm (k+1) (D.put (.int .i64 a) (.lit (.int .i64 (m:Nat)))) from HS7.out.get 0 rfl)
       clear ht0
       go_wp2_with (at_lookup;refine wpList_lookup_own_int _ rfl _ _ 41 rfl 3 3 .i64 lawI Tryd.underlying41 Tryd.underlying3 (zeroI _) bm (k+1) _ rfl HOW7.out _ _ rfl HKEY.out ?_;intro cc hcc _;(have hcv:cc=(m:Nat):=by rw [HAT.out] at hcc;simpa using hcc.symm);subst hcv;clear hcc)
       go_roundw
       case rel=>exact ⟨k+1,by omega,by go_num,Lh ⟨_,_,m+1,tl.set k (m:Nat),HS7.out.setCell 2 rfl k (.int .i64 (m:Nat)) (intV_set tl k m),HT.out.2.1.new (by rw [HLN.out.1];exact hlt) HSA.out.2 HN.out,HT.out.2.2.new a m⟩⟩
       case measure=>simp [intOf];omega
   · have q0:decide (k < n)=false:=decide_eq_false hlt
     have hkn:k=n:=by omega
     subst hkn
     have HQ:=Lh (HK1.out D N m tl)
     clear hT hB x1 x2
     go_wp2
     exact HQ.out _ _ _ _ _ _ _ _ _ _ _ _ _ _ _ _ _ _ _ _ _ _ _ _ _ _ _ _ _ _ _ _ _ _ _ _ _ _ _ _ _ _ _ _ _ _ _ HT.out.1 HT.out.2.1
end Go.Proofs.YtppoiahhaclleaaDoor
namespace Go.Proofs.YtppoiahhaclleaaDoor
open Go.RowKit Go.Maps
set_option maxRecDepth 100000
variable {aB aA kV kW aC aD kX kY kZ lA lB lC aE aH aI aJ aL aM aN aO aP aQ aR aS aT aU aV aW aX aY aZ a8 bA bB bC bD bE bF bG bH bI bJ bK bL bM bN bO bP bQ bS bT bU bV bW bX bY bZ b4 b6 cA cC cD cE cF cG cH cI cJ cK cL cM cN cO cP cQ cR cT cU cV cW cX cY cZ c8 dA dB dC dD dE dF dG dH dI dJ dK dL dM dN dO dP dQ dR dS dT dU dV dW dX dY dZ d7 eA eB eC eD eE eF eG eH eI eJ eK eL eM eN eO eP eQ eR eS eT eU eV eW eX eY eZ fA fB fC fD fE fF fG fH fI fJ fK fL fM fN fO fP fQ fR fS fT fU fV fW fX fY fZ gA gC gD gE gF gG gH gI gJ gK gL gM gN gO gP gQ gR gS gT gU gV gW gX gY gZ g9 hJ hY hZ iA iB iC iD iE iF iG : Value}
theorem exec_storeRow {P:Program} {o:Oper} {a:Act} {w:World} (ty:TypeId) (x y:Operand) (ho:o.op=.store ty x y) (g k:Nat) (cells:Array Value) (hx:a.eval x=.pointer (some ⟨g,k,none⟩)) (hy:a.eval y=.agg cells) (t:TypeId) (cur:Array Value) (hg:w.heap[g]? = some (.cells cur t (0,0)))
   (hi:(P.info? ty).map (·.size)=some cells.size) (hfit:k+cells.size≤cur.size) (h1:∀ v∈cells.toList,v.oneCell'=true):(execOp a.eval o).run P w=.ok .skip (w.setRow g (cur.toList.take k++cells.toList++cur.toList.drop (k+cells.size)).toArray):=by
 have hs:(storeVar ty ⟨g,k,none⟩ (.agg cells)).run P w=.ok () (w.setRow g (cur.toList.take k++cells.toList++cur.toList.drop (k+cells.size)).toArray):=by
   have:=run_storeCells_at P g k t cells.toList 0 cur w hg (by simpa using hfit) h1
   cases hq:P.info? ty with
   | none=>simp [hq] at hi
   | some i =>
     have hs:i.size=cells.size:=by simpa [hq] using hi
     simp only [Nat.add_zero,Array.length_toList] at this
     simp [storeVar,sizeOf,typeInfo,hq,Value.cells,hs,this]
 unfold execOp
 simp only [ho,hx,hy,Instr.storeAt,Instr.sureAddr,Sem.run_bind,Sem.run_pure,Result.andThen_ok,hs]
theorem rows_put {w:World} {g e sz:Nat} {rows:List (List Value)} {cur:Array Value} (hg:w.heap[g]? = some (.cells cur e (0,0))) (hr:∀ (i j:Nat) (r:List Value) (u:Value),rows[i]? = some r→r[j]? = some u→cur[i*sz+j]? = some u) (hsz:∀ r∈rows,r.length=sz) {i:Nat} {row:List Value} (hl:row.length=sz) (hfit:i*sz+sz≤cur.size) :
   RowsBlk (w.setRow g (cur.toList.take (i*sz)++row++cur.toList.drop (i*sz+sz)).toArray) g e sz (rows.set i row):=by
 refine ⟨_,setRow_heap _ _ _ _ _ _ hg,fun i' j r u h1 h2=>?_,fun r hr'=>?_⟩
 · rw [List.getElem?_set] at h1
   simp only [List.getElem?_toArray]
   by_cases e1:i=i'
   · subst e1
     rw [if_pos rfl] at h1
     split at h1
     · cases h1
       have hj:j < row.length:=(List.getElem?_eq_some_iff.1 h2).1
       rw [List.append_assoc,List.getElem?_append_right (by simp;omega),List.getElem?_append_left (by simp;omega)]
       simp only [List.length_take,Array.length_toList]
       rw [show i*sz+j - min (i*sz) cur.size=j by omega]
       exact h2
     · cases h1
   · rw [if_neg e1] at h1
     have hjl:j < sz:=by rw [←hsz r (List.mem_of_getElem? h1)];exact (List.getElem?_eq_some_iff.1 h2).1
     have hc:=hr i' j r u h1 h2
     rcases Nat.lt_or_gt_of_ne e1 with hlt | hlt
     · have:(i+1)*sz≤i'*sz:=Nat.mul_le_mul_right sz hlt
       rw [Nat.add_mul,Nat.one_mul] at this
       rw [List.getElem?_append_right (by simp;omega),List.getElem?_drop]
       simp only [List.length_append,List.length_take,Array.length_toList,hl]
       rw [show i*sz+sz+(i'*sz+j - (min (i*sz) cur.size+sz))=i'*sz+j by omega]
       simpa using hc
     · have:(i'+1)*sz≤i*sz:=Nat.mul_le_mul_right sz hlt
       rw [Nat.add_mul,Nat.one_mul] at this
       rw [List.append_assoc,List.getElem?_append_left (by simp;omega),List.getElem?_take,if_pos (by omega)]
       simpa using hc
 · rcases List.mem_or_eq_of_mem_set hr' with h | rfl
   · exact hsz r h
   · exact hl
theorem Sep.putRow {w0 w:World} {F0:Nat→Prop} {R:List Res} (h:Sep w0 F0 w R) (i:Nat) {g e sz:Nat} {rows rows':List (List Value)} (hi:R[i]? = some (rowsR g e sz rows)) {row:Array Value} (hr:RowsBlk (w.setRow g row) g e sz rows'):Sep w0 F0 (w.setRow g row) (R.set i (rowsR g e sz rows')) :=
 h.put i hi ⟨rfl,rfl,rfl,by simp,fun k _ hk=>setRow_other _ _ _ _ fun e=>hk (.inl e)⟩ hr fun k' hk=>⟨.inl hk,by
   have:=h.lt _ (List.mem_of_getElem? hi) k' hk
   simpa using this⟩
theorem ren_set {nm:Nat→Nat} {ops:List LOp} {i:Nat} {o:LOp} (ho:ops[i]? = some o):(((ops.map (renF nm)).take i++ops.drop i).map opRow).set i (opRow (renF nm o))=((ops.map (renF nm)).take (i+1)++ops.drop (i+1)).map opRow:=by
 have hi:=(List.getElem?_eq_some_iff.1 ho).1
 have h1:(ops.map (renF nm)).take (i+1)=(ops.map (renF nm)).take i++[renF nm o]:=by rw [List.take_add_one,List.getElem?_map,ho];rfl
 have h2:ops.drop i=o :: ops.drop (i+1):=by rw [List.drop_eq_getElem_cons hi];congr 1;exact Option.some.inj ((List.getElem?_eq_getElem hi).symm.trans ho)
 rw [h1,h2,←List.map_set,List.set_append_right _ _ (by simp;omega)]
 simp only [List.length_take,List.length_map]
 rw [show i - min i ops.length=0 by omega,List.set_cons_zero,List.append_assoc]
 rfl
theorem ren_at {nm:Nat→Nat} {ops:List LOp} {i:Nat} {o:LOp} (ho:ops[i]? = some o):(((ops.map (renF nm)).take i++ops.drop i).map opRow)[i]? = some (opRow o):=by
 have hi:=(List.getElem?_eq_some_iff.1 ho).1
 rw [List.getElem?_map,List.getElem?_append_right (by simp;omega),List.getElem?_drop]
 simp only [List.length_take,List.length_map]
 rw [show i+(i - min i ops.length)=i by omega,ho];rfl
set_option maxHeartbeats 4000000 in
theorem runs_l2 {w0:World} {bq bt go no co n m:Nat} {vb:Value} {mp rest:Res} {p:LP} {tl:List Int} (w:World) (Q:Exit→Act→World→Prop) (hS:Sep w0 (fun _=>False) w [mp,boxR bq 25 [.int .i64 (m:Nat),vb,.slice (some ⟨go,0,none⟩) no co],boxR bt 3 (intV tl),rowsR go 47 8 (p.ops.map opRow),rest]) (hno:p.ops.length=no) (htl:tl.length=n) (htp:p.regs=n∧∀ x∈tl,0≤x) (h0:(checkF p 64).2=0)
   (k1:∀ (pE pF kR kS kT kU m5 m6 m7 m8 oB oC oD oE oF oG oH oI oJ oK oL oM oN oO oP oQ oS oT oU oV nB nC nD nE nF nG nH nI nJ nK nL nM nN nO nP:Value) (w':World),Sep w0 (fun _=>False) w' [mp,boxR bq 25 [.int .i64 (m:Nat),vb,.slice (some ⟨go,0,none⟩) no co],boxR bt 3 (intV tl),rowsR go 47 8 ((p.ops.map (renF (nmOf tl))).map opRow),rest]→Q (.exit 2) ⟨#[aB,aA,kV,kW,aC,aD,kX,kY,kZ,lA,lB,lC,aE,.pointer (some ⟨bq,0,none⟩),.slice (some ⟨bt,0,none⟩) n n,aH,aI,aJ,pE,pF,aM,aN,aO,aP,aQ,aR,aS,aT,aU,aV,aW,aX,aY,aZ,a8,bA,bB,bC,bD,bE,bF,bG,bH,bI,bJ,bK,bL,bM,bN,bO,bP,bQ,bS,bT,bU,bV,bW,bX,bY,bZ,b4,b6,cA,cC,cD,cE,cF,cG,cH,cI,cJ,cK,cL,cM,cN,cO,cP,cQ,cR,cT,cU,cV,cW,cX,cY,cZ,c8,dA,dB,dC,dD,dE,dF,dG,dH,dI,dJ,dK,dL,dM,dN,dO,dP,dQ,dR,dS,dT,dU,dV,dW,dX,dY,dZ,d7,eA,eB,eC,eD,eE,eF,eG,eH,eI,eJ,eK,eL,eM,eN,kR,kS,kT,kU,m5,m6,m7,m8,oB,oC,oD,oE,oF,oG,oH,oI,oJ,oK,oL,oM,oN,oO,oP,oQ,oS,oT,oU,oV,nB,nC,nD,nE,nF,nG,nH,nI,nJ,nK,nL,nM,nN,nO,nP,gG,gH,gI,gJ,gK,gL,gM,gN,gO,gP,gQ,gR,gS,gT,gU,gV,gW,gX,gY,gZ,g9,hJ,hY,hZ,iA,iB,iC,iD,iE,iF,iG],[]⟩ w'):(partL Tryd.f3 2).wp Tryd.prog Q ⟨#[aB,aA,kV,kW,aC,aD,kX,kY,kZ,lA,lB,lC,aE,.pointer (some ⟨bq,0,none⟩),.slice (some ⟨bt,0,none⟩) n n,aH,aI,aJ,.int .i64 0,aL,aM,aN,aO,aP,aQ,aR,aS,aT,aU,aV,aW,aX,aY,aZ,a8,bA,bB,bC,bD,bE,bF,bG,bH,bI,bJ,bK,bL,bM,bN,bO,bP,bQ,bS,bT,bU,bV,bW,bX,bY,bZ,b4,b6,cA,cC,cD,cE,cF,cG,cH,cI,cJ,cK,cL,cM,cN,cO,cP,cQ,cR,cT,cU,cV,cW,cX,cY,cZ,c8,dA,dB,dC,dD,dE,dF,dG,dH,dI,dJ,dK,dL,dM,dN,dO,dP,dQ,dR,dS,dT,dU,dV,dW,dX,dY,dZ,d7,eA,eB,eC,eD,eE,eF,eG,eH,eI,eJ,eK,eL,eM,eN,eO,eP,eQ,eR,eS,eT,eU,eV,eW,eX,eY,eZ,fA,fB,fC,fD,fE,fF,fG,fH,fI,fJ,fK,fL,fM,fN,fO,fP,fQ,fR,fS,fT,fU,fV,fW,fX,fY,fZ,gA,gC,gD,gE,gF,gG,gH,gI,gJ,gK,gL,gM,gN,gO,gP,gQ,gR,gS,gT,gU,gV,gW,gX,gY,gZ,g9,hJ,hY,hZ,iA,iB,iC,iD,iE,iF,iG],[]⟩ w:=by
 have HS0:=Lh hS
 have HK1:=Lh k1
 have HNO:=Lh hno
 have HTL:=Lh (And.intro htl htp)
 have HOR:=Lh (fun (k:Nat) (o:LOp) (ho:p.ops[k]? = some o)=>op_regs (check_fields h0 ho))
 have hno6:no≤65536:=by have:=head_ok (check_run h0).1;omega
 clear hS k1 hno htl htp h0
 conv=>arg 2;whnf
 go_wp2
 go_loopw [18] (fun j wr=>∃ k:Nat,k≤no∧j=.int .i64 k∧Hid (Sep w0 (fun _=>False) wr [mp,boxR bq 25 [.int .i64 (m:Nat),vb,.slice (some ⟨go,0,none⟩) no co],boxR bt 3 (intV tl),rowsR go 47 8 (((p.ops.map (renF (nmOf tl))).take k++p.ops.drop k).map opRow),rest])) (fun j _=>no - (intOf j).toNat)
 case atStart=>exact ⟨0,by omega,rfl,Lh (by simpa using HS0.out)⟩
 case round =>
   obtain ⟨k,hk,rfl,HT⟩:=hrel
   have b2:=HT.out.cell 1 2 rfl rfl
   by_cases hlt:k < no
   · obtain ⟨o,ho⟩:∃ o,p.ops[k]? = some o:=⟨_,List.getElem?_eq_getElem (by rw [HNO.out];exact hlt)⟩
     have hrow:RowsBlk wr go 47 8 (((p.ops.map (renF (nmOf tl))).take k++p.ops.drop k).map opRow):=HT.out.get 3 rfl
     have y0:wr.cell? ⟨go,k*8,none⟩=some (.int .i64 o.kind):=hrow.cell (j:=0) (ren_at ho) rfl
     have y1:wr.cell? ⟨go,k*8+1,none⟩=some (.int .i64 o.d):=hrow.cell (j:=1) (ren_at ho) rfl
     have y2:wr.cell? ⟨go,k*8+2,none⟩=some (.int .i64 o.e):=hrow.cell (j:=2) (ren_at ho) rfl
     have y3:wr.cell? ⟨go,k*8+3,none⟩=some (.int .i64 o.a):=hrow.cell (j:=3) (ren_at ho) rfl
     have y4:wr.cell? ⟨go,k*8+4,none⟩=some (.int .i64 o.b):=hrow.cell (j:=4) (ren_at ho) rfl
     have y5:wr.cell? ⟨go,k*8+5,none⟩=some (.int .i64 o.c):=hrow.cell (j:=5) (ren_at ho) rfl
     have y6:wr.cell? ⟨go,k*8+6,none⟩=some (.int .i64 o.buf):=hrow.cell (j:=6) (ren_at ho) rfl
     have y7:wr.cell? ⟨go,k*8+7,none⟩=some (.int .u64 o.imm):=hrow.cell (j:=7) (ren_at ho) rfl
     obtain ⟨W1,hW1⟩:∃ q,q=wr.alloc (.cells #[.int .i64 o.kind,.int .i64 o.d,.int .i64 o.e,.int .i64 o.a,.int .i64 o.b,.int .i64 o.c,.int .i64 o.buf,.int .u64 o.imm] 47):=⟨_,rfl⟩
     have hb1:Below wr.heap.size wr W1:=by rw [hW1];exact (Below.refl _ _).alloc (Nat.le_refl _) _
     have hO:OpAt W1 wr.heap.size o:=by unfold OpAt;rw [hW1];exact heap_alloc_new wr _
     have HS1:=Lh (HT.out.next hb1)
     have HC:=Lh (And.intro ((HT.out.next hb1).cell 1 2 rfl rfl) hO)
     have hor:=HOR.out k o ho
     have hnum:NumsAt W1 (fun j=>j=bt) (.slice (some ⟨bt,0,none⟩) n n) tl:=by
       have h:=nums_blk ((HT.out.next hb1).at_ 2 rfl)
       rw [HTL.out.1] at h
       exact h
     have HNM:=Lh (fun (r:Int) (hr:r < p.regs)=>name_any (some ⟨bt,0,none⟩) n n tl r W1.drew (fun j=>j=bt) hnum (by rw [HTL.out.1];have:=HTL.out.2.1;omega))
     have HRR:=Lh (show o.d < p.regs∧o.e < p.regs∧o.a < p.regs∧o.b < p.regs∧o.c < p.regs from by
       have h0:=HTL.out.2.1
       refine ⟨?_,?_,?_,?_,?_⟩
       · by_cases e:0≤o.d
         · exact hor.d e
         · omega
       · by_cases e:0≤o.e
         · exact hor.e e
         · omega
       · by_cases e:0≤o.a
         · exact hor.a e
         · omega
       · by_cases e:0≤o.b
         · exact hor.b e
         · omega
       · by_cases e:0≤o.c
         · exact hor.c e
         · omega)
     have hnn:∀ r:Int,r < p.regs→nameF tl r=nmF (nmOf tl) r:=fun r hr=>name_nm HTL.out.2.2 (by rw [HTL.out.1];have:=HTL.out.2.1;omega)
     obtain ⟨nd,hnd⟩:∃ q,nmF (nmOf tl) o.d=q:=⟨_,rfl⟩
     obtain ⟨ne,hne⟩:∃ q,nmF (nmOf tl) o.e=q:=⟨_,rfl⟩
     obtain ⟨na,hna⟩:∃ q,nmF (nmOf tl) o.a=q:=⟨_,rfl⟩
     obtain ⟨nb,hnb⟩:∃ q,nmF (nmOf tl) o.b=q:=⟨_,rfl⟩
     obtain ⟨nc,hnc⟩:∃ q,nmF (nmOf tl) o.c=q:=⟨_,rfl⟩
     have HNE:=Lh (show nameF tl o.d=nd∧nameF tl o.e=ne∧nameF tl o.a=na∧nameF tl o.b=nb∧nameF tl o.c=nc from ⟨(hnn _ HRR.out.1).trans hnd,(hnn _ HRR.out.2.1).trans hne,(hnn _ HRR.out.2.2.1).trans hna,(hnn _ HRR.out.2.2.2.1).trans hnb,(hnn _ HRR.out.2.2.2.2).trans hnc⟩)
     have HNF:=Lh (show opRow (renF (nmOf tl) o)=[.int .i64 o.kind,.int .i64 nd,.int .i64 ne,.int .i64 na,.int .i64 nb,.int .i64 nc,.int .i64 o.buf,.int .u64 o.imm] by
       unfold opRow renF
       simp only [hnd,hne,hna,hnb,hnc])
     obtain ⟨cur,hcur,hrows,hsz⟩:=(show RowsBlk W1 go 47 8 (((p.ops.map (renF (nmOf tl))).take k++p.ops.drop k).map opRow) from HS1.out.get 3 rfl)
     have hfit:k*8+8≤cur.size:=by
       have:=hrows k 7 (opRow o) (.int .u64 o.imm) (ren_at ho) rfl
       have:=(Array.getElem?_eq_some_iff.1 this).1
       omega
     have hput:=rows_put (w:=W1.drew) (i:=k) (row:=opRow (renF (nmOf tl) o)) hcur hrows hsz (by simp [opRow]) hfit
     rw [ren_set ho] at hput
     have hs2:=HS1.out.drew.putRow 3 rfl hput
     obtain ⟨W2,hW2⟩:∃ q,q=W1.drew.setRow go (cur.toList.take (k*8)++opRow (renF (nmOf tl) o)++cur.toList.drop (k*8+8)).toArray:=⟨_,rfl⟩
     rw [←hW2] at hs2
     have HPUT:=Lh hs2
     have HW2:=Lh hW2
     clear hs2 hW2
     have HCUR:=Lh (And.intro hcur hfit)
     have HW1:=Lh hW1
     have HO:=Lh ho
     have i0:(0:Int)≤(k:Int):=by omega
     have i1:(k:Int) < (no:Int):=by omega
     have q0:decide (k < no)=true:=decide_eq_true hlt
     clear hrow hW1 hb1 hO hor hnum hnn hnd hne hna hnb hnc hcur hrows hsz hfit hput ho
     go_upto_region 28 with fail
     rw [←HW1.out]
     clear y0 y1 y2 y3 y4 y5 y6 y7 b2
     (refine wp_region_lines (fun w_=>w_.cell? ⟨bq,2,none⟩=some (.slice (some ⟨go,0,none⟩) no co)∧OpAt w_ wr.heap.size o) (by kernel_rfl) (by kernel_rfl) HC.out ?_)
     (try simp only [])
     repeat (first | (refine runL_no (by rfl) ?_;(try simp only [Act.put,List.setIfInBounds_toArray,List.set_cons_zero,List.set_cons_succ])) | (refine runL_val (v:=?_) (by rfl) ?_ ?_;rotate_left;(focus (intro w_ hw_;have f1_:=hw_.1;have o0_:=cell_row hw_.2 (k:=0) (v:=.int .i64 o.kind) rfl;have o1_:=cell_row hw_.2 (k:=1) (v:=.int .i64 o.d) rfl;have o2_:=cell_row hw_.2 (k:=2) (v:=.int .i64 o.e) rfl;have o3_:=cell_row hw_.2 (k:=3) (v:=.int .i64 o.a) rfl;have o4_:=cell_row hw_.2 (k:=4) (v:=.int .i64 o.b) rfl;have o5_:=cell_row hw_.2 (k:=5) (v:=.int .i64 o.c) rfl;have o6_:=cell_row hw_.2 (k:=6) (v:=.int .i64 o.buf) rfl;have o7_:=cell_row hw_.2 (k:=7) (v:=.int .u64 o.imm) rfl;go_simp;(try with_reducible rfl);done));(try simp only [Act.put,List.setIfInBounds_toArray,List.set_cons_zero,List.set_cons_succ])) | (refine runL_call (f:=?_) (args:=?_) (w1:=?_) (by rfl) (by rfl) ?_ ?_;rotate_left 3;(focus (go_simp;refine ⟨⟨?_,?_⟩,?_⟩ <;> with_reducible rfl));(with_reducible refine (HNM.out o.d HRR.out.1).mono ?_);rintro e w5 ⟨rfl,rfl⟩;rw [HNE.out.1];refine ⟨_,rfl,.inr HC.out,?_⟩;(try simp only [Act.put,List.setIfInBounds_toArray,List.set_cons_zero,List.set_cons_succ])) | (refine runL_call (f:=?_) (args:=?_) (w1:=?_) (by rfl) (by rfl) ?_ ?_;rotate_left 3;(focus (go_simp;refine ⟨⟨?_,?_⟩,?_⟩ <;> with_reducible rfl));(with_reducible refine (HNM.out o.e HRR.out.2.1).mono ?_);rintro e w5 ⟨rfl,rfl⟩;rw [HNE.out.2.1];refine ⟨_,rfl,.inr HC.out,?_⟩;(try simp only [Act.put,List.setIfInBounds_toArray,List.set_cons_zero,List.set_cons_succ])) | (refine runL_call (f:=?_) (args:=?_) (w1:=?_) (by rfl) (by rfl) ?_ ?_;rotate_left 3;(focus (go_simp;refine ⟨⟨?_,?_⟩,?_⟩ <;> with_reducible rfl));(with_reducible refine (HNM.out o.a HRR.out.2.2.1).mono ?_);rintro e w5 ⟨rfl,rfl⟩;rw [HNE.out.2.2.1];refine ⟨_,rfl,.inr HC.out,?_⟩;(try simp only [Act.put,List.setIfInBounds_toArray,List.set_cons_zero,List.set_cons_succ])) | (refine runL_call (f:=?_) (args:=?_) (w1:=?_) (by rfl) (by rfl) ?_ ?_;rotate_left 3;(focus (go_simp;refine ⟨⟨?_,?_⟩,?_⟩ <;> with_reducible rfl));(with_reducible refine (HNM.out o.b HRR.out.2.2.2.1).mono ?_);rintro e w5 ⟨rfl,rfl⟩;rw [HNE.out.2.2.2.1];refine ⟨_,rfl,.inr HC.out,?_⟩;(try simp only [Act.put,List.setIfInBounds_toArray,List.set_cons_zero,List.set_cons_succ])) | (refine runL_call (f:=?_) (args:=?_) (w1:=?_) (by rfl) (by rfl) ?_ ?_;rotate_left 3;(focus (go_simp;refine ⟨⟨?_,?_⟩,?_⟩ <;> with_reducible rfl));(with_reducible refine (HNM.out o.c HRR.out.2.2.2.2).mono ?_);rintro e w5 ⟨rfl,rfl⟩;rw [HNE.out.2.2.2.2];refine ⟨_,rfl,.inr HC.out,?_⟩;(try simp only [Act.put,List.setIfInBounds_toArray,List.set_cons_zero,List.set_cons_succ])) | (refine runL_skip (w1:=W2) (by rfl) (by rfl) (by rw [HW2.out,HNF.out];exact exec_storeRow 47 _ _ rfl go (k*8) #[.int .i64 o.kind,.int .i64 nd,.int .i64 ne,.int .i64 na,.int .i64 nb,.int .i64 nc,.int .i64 o.buf,.int .u64 o.imm] rfl rfl 47 cur HCUR.out.1 (by kernel_rfl) HCUR.out.2 (by simp [Value.oneCell'])) (.inl ⟨rfl,by kernel_rfl⟩) ?_;(try simp only [Act.put])))
     (refine runL_nil ?_)
     go_wp2
     go_roundw
     case rel=>exact ⟨k+1,by omega,by go_num,HPUT⟩
     case measure=>simp [intOf];omega
   · have q0:decide (k < no)=false:=decide_eq_false hlt
     have HE:=Lh (show Sep w0 (fun _=>False) wr [mp,boxR bq 25 [.int .i64 (m:Nat),vb,.slice (some ⟨go,0,none⟩) no co],boxR bt 3 (intV tl),rowsR go 47 8 ((p.ops.map (renF (nmOf tl))).map opRow),rest] from by
       have h:=HT.out
       rw [List.take_of_length_le (by simp [HNO.out];omega),List.drop_eq_nil_of_le (by rw [HNO.out];omega),List.append_nil] at h
       exact h)
     go_wp2
     exact HK1.out _ _ _ _ _ _ _ _ _ _ _ _ _ _ _ _ _ _ _ _ _ _ _ _ _ _ _ _ _ _ _ _ _ _ _ _ _ _ _ _ _ _ _ _ _ _ HE.out
end Go.Proofs.YtppoiahhaclleaaDoor
namespace Go.Proofs.YtppoiahhaclleaaDoor
open Go.RowKit
set_option maxRecDepth 100000
variable {aB aA kV kW aC kY kZ lA lB lC aE aF aI aJ aK aL aM aN aO aP aQ aR aS aT aU aV aW aX aY aZ a8 bA bB bC bD bE bF bG bH bI bJ bK bL bM bN bO bP bQ bS bT bU bV bW bX bY bZ b4 b6 cA cC cD cE cF cG cH cI cJ cK cL cM cN cO cP cQ cR cT cU cV cW cX cY cZ c8 dA dB dC dD dE dF dG dH dI dJ dK dL dM dN dO dP dQ dR dS dT dU dV dW dX dY dZ d7 eA eB eC eD eE eF eG eH eI eJ eK eL eM eN eO eP eQ eR eS eT eU eV eW eX eY eZ fA fB fC fD fE fF fG fH fI fJ fK fL fM fN fO fP fQ fR fS fT fU fV fW fX fY fZ gA gC gD gE : Value}
set_option maxHeartbeats 4000000 in
theorem rl_r33 {gs n ge m r i:Nat} {a q e:Int} {bl:Bool} (w:World) (Q:Exit→Act→World→Prop) (ha:w.cell? ⟨gs,r*2,none⟩=some (.int .i64 a)) (hq:w.cell? ⟨gs,r*2+1,none⟩=some (.int .i64 q)) (he:w.cell? ⟨ge,i,none⟩=some (.int .i64 e)) (hr:r < n) (hi:i < m) (hn:n≤65536) (hm:m≤65536) (hL:lasts i e (a,q)=bl)
   (k:∀ (kO kP kQ kR kS kT kU m5 m6 m7 m8 oB oC oD oE oF oG oH oI oJ oK oL oM oN oO oP oQ oS oT oU oV nB nC nD nE:Value) (w':World),w'=w.drew→Q .normal ⟨#[aB,aA,kV,kW,aC,.slice (some ⟨ge,0,none⟩) m m,.slice (some ⟨gs,0,none⟩) n n,kY,kZ,lA,lB,lC,aE,aF,.int .i64 (i:Nat),.int .i64 (r:Nat),aI,aJ,aK,aL,aM,aN,aO,aP,aQ,aR,aS,aT,aU,aV,aW,aX,aY,aZ,a8,bA,bB,bC,bD,bE,bF,bG,bH,bI,bJ,bK,bL,bM,bN,bO,bP,bQ,bS,bT,bU,bV,bW,bX,bY,bZ,b4,b6,cA,cC,cD,cE,cF,cG,cH,cI,cJ,cK,cL,cM,cN,cO,cP,cQ,cR,cT,cU,cV,cW,cX,cY,cZ,c8,dA,dB,dC,dD,dE,dF,dG,dH,dI,dJ,dK,dL,dM,dN,dO,dP,dQ,dR,dS,dT,dU,dV,dW,dX,dY,dZ,d7,eA,eB,eC,eD,eE,eF,eG,eH,eI,eJ,eK,kO,kP,kQ,kR,kS,kT,kU,m5,m6,m7,m8,oB,oC,oD,oE,oF,oG,oH,oI,oJ,oK,oL,oM,oN,oO,oP,oQ,oS,oT,oU,oV,nB,nC,nD,nE,.bool bl,fV,fW,fX,fY,fZ,gA,gC,gD,gE],[]⟩ w'):(partR Tryd.f15 33).wp Tryd.prog Q ⟨#[aB,aA,kV,kW,aC,.slice (some ⟨ge,0,none⟩) m m,.slice (some ⟨gs,0,none⟩) n n,kY,kZ,lA,lB,lC,aE,aF,.int .i64 (i:Nat),.int .i64 (r:Nat),aI,aJ,aK,aL,aM,aN,aO,aP,aQ,aR,aS,aT,aU,aV,aW,aX,aY,aZ,a8,bA,bB,bC,bD,bE,bF,bG,bH,bI,bJ,bK,bL,bM,bN,bO,bP,bQ,bS,bT,bU,bV,bW,bX,bY,bZ,b4,b6,cA,cC,cD,cE,cF,cG,cH,cI,cJ,cK,cL,cM,cN,cO,cP,cQ,cR,cT,cU,cV,cW,cX,cY,cZ,c8,dA,dB,dC,dD,dE,dF,dG,dH,dI,dJ,dK,dL,dM,dN,dO,dP,dQ,dR,dS,dT,dU,dV,dW,dX,dY,dZ,d7,eA,eB,eC,eD,eE,eF,eG,eH,eI,eJ,eK,eL,eM,eN,eO,eP,eQ,eR,eS,eT,eU,eV,eW,eX,eY,eZ,fA,fB,fC,fD,fE,fF,fG,fH,fI,fJ,fK,fL,fM,fN,fO,fP,fQ,fR,fS,fT,fU,fV,fW,fX,fY,fZ,gA,gC,gD,gE],[]⟩ w:=by
 have HC:=Lh (And.intro ha (And.intro hq he))
 have i0:(0:Int)≤(r:Int):=by omega
 have i1:(r:Int) < (n:Int):=by omega
 have i2:(0:Int)≤(i:Int):=by omega
 have i3:(i:Int) < (m:Int):=by omega
 have q1:IntKind.i64.wrap (r:Int)=r:=by rw [IntKind.wrap_i64];omega
 have q2:IntKind.i64.wrap (i:Int)=i:=by rw [IntKind.wrap_i64];omega
 have HK:=Lh k
 have HL:=Lh hL
 clear k ha hq he hr hi hL
 conv=>arg 2;whnf
 go_wp2
 cases e0:decide ((0:Int)≤a)
 · skip
   obtain rfl:bl=false:=by rw [←HL.out];unfold lasts;rw [e0];rfl
   (refine wp_region_lines (fun w_=>w_.cell? ⟨gs,r*2,none⟩=some (.int .i64 a)∧w_.cell? ⟨gs,r*2+1,none⟩=some (.int .i64 q)∧w_.cell? ⟨ge,i,none⟩=some (.int .i64 e)) (by kernel_rfl) (by kernel_rfl) HC.out ?_)
   (try simp only [])
   repeat (first | (refine runL_no (by rfl) ?_;(try simp only [Act.put,List.setIfInBounds_toArray,List.set_cons_zero,List.set_cons_succ])) | (refine runL_val (v:=?_) (by rfl) ?_ ?_;rotate_left;(focus (intro w_ hw_;obtain ⟨f1_,f2_,f3_⟩:=hw_;go_simp;(try with_reducible rfl);done));(try simp only [Act.put,List.setIfInBounds_toArray,List.set_cons_zero,List.set_cons_succ])))
   (refine runL_nil ?_)
   exact HK.out _ _ _ _ _ _ _ _ _ _ _ _ _ _ _ _ _ _ _ _ _ _ _ _ _ _ _ _ _ _ _ _ _ _ _ _ rfl
 cases e1:decide (a < (i:Int))
 · skip
   obtain rfl:bl=false:=by rw [←HL.out];unfold lasts;rw [e0,e1];rfl
   (refine wp_region_lines (fun w_=>w_.cell? ⟨gs,r*2,none⟩=some (.int .i64 a)∧w_.cell? ⟨gs,r*2+1,none⟩=some (.int .i64 q)∧w_.cell? ⟨ge,i,none⟩=some (.int .i64 e)) (by kernel_rfl) (by kernel_rfl) HC.out ?_)
   (try simp only [])
   repeat (first | (refine runL_no (by rfl) ?_;(try simp only [Act.put,List.setIfInBounds_toArray,List.set_cons_zero,List.set_cons_succ])) | (refine runL_val (v:=?_) (by rfl) ?_ ?_;rotate_left;(focus (intro w_ hw_;obtain ⟨f1_,f2_,f3_⟩:=hw_;go_simp;(try with_reducible rfl);done));(try simp only [Act.put,List.setIfInBounds_toArray,List.set_cons_zero,List.set_cons_succ])))
   (refine runL_nil ?_)
   exact HK.out _ _ _ _ _ _ _ _ _ _ _ _ _ _ _ _ _ _ _ _ _ _ _ _ _ _ _ _ _ _ _ _ _ _ _ _ rfl
 cases e2:decide ((i:Int)≤q)
 · skip
   obtain rfl:bl=false:=by rw [←HL.out];unfold lasts;rw [e0,e1,e2];rfl
   (refine wp_region_lines (fun w_=>w_.cell? ⟨gs,r*2,none⟩=some (.int .i64 a)∧w_.cell? ⟨gs,r*2+1,none⟩=some (.int .i64 q)∧w_.cell? ⟨ge,i,none⟩=some (.int .i64 e)) (by kernel_rfl) (by kernel_rfl) HC.out ?_)
   (try simp only [])
   repeat (first | (refine runL_no (by rfl) ?_;(try simp only [Act.put,List.setIfInBounds_toArray,List.set_cons_zero,List.set_cons_succ])) | (refine runL_val (v:=?_) (by rfl) ?_ ?_;rotate_left;(focus (intro w_ hw_;obtain ⟨f1_,f2_,f3_⟩:=hw_;go_simp;(try with_reducible rfl);done));(try simp only [Act.put,List.setIfInBounds_toArray,List.set_cons_zero,List.set_cons_succ])))
   (refine runL_nil ?_)
   exact HK.out _ _ _ _ _ _ _ _ _ _ _ _ _ _ _ _ _ _ _ _ _ _ _ _ _ _ _ _ _ _ _ _ _ _ _ _ rfl
 cases e3:decide (q < e)
 · skip
   obtain rfl:bl=false:=by rw [←HL.out];unfold lasts;rw [e0,e1,e2,e3];rfl
   (refine wp_region_lines (fun w_=>w_.cell? ⟨gs,r*2,none⟩=some (.int .i64 a)∧w_.cell? ⟨gs,r*2+1,none⟩=some (.int .i64 q)∧w_.cell? ⟨ge,i,none⟩=some (.int .i64 e)) (by kernel_rfl) (by kernel_rfl) HC.out ?_)
   (try simp only [])
   repeat (first | (refine runL_no (by rfl) ?_;(try simp only [Act.put,List.setIfInBounds_toArray,List.set_cons_zero,List.set_cons_succ])) | (refine runL_val (v:=?_) (by rfl) ?_ ?_;rotate_left;(focus (intro w_ hw_;obtain ⟨f1_,f2_,f3_⟩:=hw_;go_simp;(try with_reducible rfl);done));(try simp only [Act.put,List.setIfInBounds_toArray,List.set_cons_zero,List.set_cons_succ])))
   (refine runL_nil ?_)
   exact HK.out _ _ _ _ _ _ _ _ _ _ _ _ _ _ _ _ _ _ _ _ _ _ _ _ _ _ _ _ _ _ _ _ _ _ _ _ rfl
 obtain rfl:bl=true:=by rw [←HL.out];unfold lasts;rw [e0,e1,e2,e3];rfl
 (refine wp_region_lines (fun w_=>w_.cell? ⟨gs,r*2,none⟩=some (.int .i64 a)∧w_.cell? ⟨gs,r*2+1,none⟩=some (.int .i64 q)∧w_.cell? ⟨ge,i,none⟩=some (.int .i64 e)) (by kernel_rfl) (by kernel_rfl) HC.out ?_)
 (try simp only [])
 repeat (first | (refine runL_no (by rfl) ?_;(try simp only [Act.put,List.setIfInBounds_toArray,List.set_cons_zero,List.set_cons_succ])) | (refine runL_val (v:=?_) (by rfl) ?_ ?_;rotate_left;(focus (intro w_ hw_;obtain ⟨f1_,f2_,f3_⟩:=hw_;go_simp;(try with_reducible rfl);done));(try simp only [Act.put,List.setIfInBounds_toArray,List.set_cons_zero,List.set_cons_succ])))
 (refine runL_nil ?_)
 exact HK.out _ _ _ _ _ _ _ _ _ _ _ _ _ _ _ _ _ _ _ _ _ _ _ _ _ _ _ _ _ _ _ _ _ _ _ _ rfl
set_option maxHeartbeats 4000000 in
theorem rl_r34 {gs n ge m r i:Nat} {e:Int} {s:Int×Int} {sp:List (Int×Int)} {E:List Int} (w:World) (Q:Exit→Act→World→Prop) (hg:SpansR w gs sp) (hr:sp[r]? = some s) (hn:sp.length=n) (he:EndsAt w ge E) (hE:E[i]? = some e) (hi:i < m) (hn1:n≤65536) (hm:m≤65536) (hgg:gs≠ge)
   (k:∀ (nG nH nI nJ nK nL nM nN:Value) (w':World),SpansR w' gs (sp.set r (s.1,e))∧Chg (fun k=>k=gs) w w'→Q .normal ⟨#[aB,aA,kV,kW,aC,.slice (some ⟨ge,0,none⟩) m m,.slice (some ⟨gs,0,none⟩) n n,kY,kZ,lA,lB,lC,aE,.bool true,.int .i64 (i:Nat),.int .i64 (r:Nat),aI,aJ,aK,aL,aM,aN,aO,aP,aQ,aR,aS,aT,aU,aV,aW,aX,aY,aZ,a8,bA,bB,bC,bD,bE,bF,bG,bH,bI,bJ,bK,bL,bM,bN,bO,bP,bQ,bS,bT,bU,bV,bW,bX,bY,bZ,b4,b6,cA,cC,cD,cE,cF,cG,cH,cI,cJ,cK,cL,cM,cN,cO,cP,cQ,cR,cT,cU,cV,cW,cX,cY,cZ,c8,dA,dB,dC,dD,dE,dF,dG,dH,dI,dJ,dK,dL,dM,dN,dO,dP,dQ,dR,dS,dT,dU,dV,dW,dX,dY,dZ,d7,eA,eB,eC,eD,eE,eF,eG,eH,eI,eJ,eK,eL,eM,eN,eO,eP,eQ,eR,eS,eT,eU,eV,eW,eX,eY,eZ,fA,fB,fC,fD,fE,fF,fG,fH,fI,fJ,fK,fL,fM,fN,fO,fP,fQ,fR,fS,fT,fU,nG,nH,nI,nJ,nK,nL,nM,nN,gE],[]⟩ w'):(partR Tryd.f15 34).wp Tryd.prog Q ⟨#[aB,aA,kV,kW,aC,.slice (some ⟨ge,0,none⟩) m m,.slice (some ⟨gs,0,none⟩) n n,kY,kZ,lA,lB,lC,aE,aF,.int .i64 (i:Nat),.int .i64 (r:Nat),aI,aJ,aK,aL,aM,aN,aO,aP,aQ,aR,aS,aT,aU,aV,aW,aX,aY,aZ,a8,bA,bB,bC,bD,bE,bF,bG,bH,bI,bJ,bK,bL,bM,bN,bO,bP,bQ,bS,bT,bU,bV,bW,bX,bY,bZ,b4,b6,cA,cC,cD,cE,cF,cG,cH,cI,cJ,cK,cL,cM,cN,cO,cP,cQ,cR,cT,cU,cV,cW,cX,cY,cZ,c8,dA,dB,dC,dD,dE,dF,dG,dH,dI,dJ,dK,dL,dM,dN,dO,dP,dQ,dR,dS,dT,dU,dV,dW,dX,dY,dZ,d7,eA,eB,eC,eD,eE,eF,eG,eH,eI,eJ,eK,eL,eM,eN,eO,eP,eQ,eR,eS,eT,eU,eV,eW,eX,eY,eZ,fA,fB,fC,fD,fE,fF,fG,fH,fI,fJ,fK,fL,fM,fN,fO,fP,fQ,fR,fS,fT,fU,fV,fW,fX,fY,fZ,gA,gC,gD,gE],[]⟩ w:=by
 have HC:=Lh (And.intro hg (And.intro hr he))
 have i0:(0:Int)≤(r:Int):=by omega
 have i1:(r:Int) < (n:Int):=by have:=(List.getElem?_eq_some_iff.1 hr).1;omega
 have i2:(0:Int)≤(i:Int):=by omega
 have i3:(i:Int) < (m:Int):=by omega
 have q1:IntKind.i64.wrap (r:Int)=r:=by rw [IntKind.wrap_i64];omega
 have q2:IntKind.i64.wrap (i:Int)=i:=by rw [IntKind.wrap_i64];omega
 have HC2:=Lh (hg.cells hr).2
 have HF2:=Lh (frozen_row hg (r*2+1))
 have HE1:=Lh (he.cell hE)
 have hS:=setCell_row hg (r*2+1) (.int .i64 e)
 rw [spV_set2 hr] at hS
 have HS:=Lh hS
 have HGE:=Lh hgg
 have HK:=Lh k
 clear k hg hr he hE hS hi hgg
 conv=>arg 2;whnf
 go_wp2_with fail
 (refine wp_region_lines (fun w_=>w_.cell? ⟨ge,i,none⟩=some (.int .i64 e)) (by kernel_rfl) (by kernel_rfl) HE1.out ?_)
 (try simp only [])
 repeat (first | (refine runL_no (by rfl) ?_;(try simp only [Act.put,List.setIfInBounds_toArray,List.set_cons_zero,List.set_cons_succ])) | (refine runL_val (v:=?_) (by rfl) ?_ ?_;rotate_left;(focus (intro w_ hw_;have ce_:=hw_;go_simp;(try with_reducible rfl);done));(try simp only [Act.put,List.setIfInBounds_toArray,List.set_cons_zero,List.set_cons_succ])) | (refine runL_skip (w1:=w.drew.setCell ⟨gs,r*2+1,none⟩ (.int .i64 e)) (by rfl) (by rfl) (exec_store1 3 _ _ rfl gs (r*2+1) _ rfl rfl (by kernel_rfl) (by show (World.cell? w _).isSome=true;rw [HC2.out];rfl) HF2.out rfl) (.inr (by exact (show (w.setCell ⟨gs,r*2+1,none⟩ (.int .i64 e)).cell? ⟨ge,i,none⟩=_ from (World.cell?_of_block (w:=w) (a:=⟨ge,i,none⟩) (Below.heap_setCell _ _ _ _ (fun e=>HGE.out e.symm))).trans HE1.out))) ?_;(try simp only [Act.put])))
 (refine runL_nil ?_)
 exact HK.out _ _ _ _ _ _ _ _ _ ⟨HS.out,(Chg.refl (fun k=>k=gs) w).drew.setCell (p:=⟨gs,r*2+1,none⟩) (.inl rfl) _⟩
set_option maxHeartbeats 8000000 in
theorem rl_l12 {bp gs ge n no co k g off:Nat} {e:Int} {b:Bool} {sp:List (Int×Int)} {E:List Int} (w:World) (Q:Exit→Act→World→Prop) (hg:SpansR w gs sp) (hn:sp.length=n) (hE:EndsAt w ge E) (hk:E[k]? = some e) (hne:k < no) (hno:no≤65536) (hgg:gs≠ge) (hn3:n≤1000)
   (hb0:w.cell? ⟨bp,0,none⟩=some (.int .i64 (n:Nat))) (hb2:w.cell? ⟨bp,2,none⟩=some (.slice (some ⟨g,off,none⟩) no co)) (hkd:w.cell? ⟨g,off+k*8,none⟩=some (.int .i64 16)) (hbp:bp < w.heap.size∧bp≠gs) (hgp:g < w.heap.size∧g≠gs)
   (k1:∀ (pQ jY jZ j5 j6 j7 j8 j9 kF kG kH kI kJ kK kL kN kO kP kQ kR kS kT kU m5 m6 m7 m8 oB oC oD oE oF oG oH oI oJ oK oL oM oN oO oP oQ oS oT oU oV nB nC nD nE nF nG nH nI nJ nK nL nM nN:Value) (w':World),Chg (fun k=>k=gs) w w'∧SpansR w' gs (sp.map (lastF k e))→Q (.exit 12) ⟨#[aB,.pointer (some ⟨bp,0,none⟩),kV,kW,aC,.slice (some ⟨ge,0,none⟩) no no,.slice (some ⟨gs,0,none⟩) n n,kY,kZ,lA,lB,lC,aE,.bool (b || sp.any (lasts k e)),.int .i64 (k:Nat),pQ,aI,aJ,aK,aL,aM,aN,aO,aP,aQ,aR,aS,aT,aU,aV,aW,aX,aY,aZ,a8,bA,bB,bC,bD,bE,bF,bG,bH,bI,bJ,bK,bL,bM,bN,bO,bP,bQ,bS,bT,bU,bV,bW,bX,bY,bZ,b4,b6,cA,cC,cD,cE,cF,cG,cH,cI,cJ,cK,cL,cM,cN,cO,cP,cQ,cR,cT,cU,cV,cW,cX,cY,cZ,c8,dA,dB,dC,dD,dE,dF,dG,dH,dI,dJ,dK,dL,dM,dN,dO,dP,dQ,dR,dS,dT,dU,dV,dW,jY,jZ,j5,j6,j7,j8,j9,kF,kG,kH,kI,kJ,kK,kL,kN,kO,kP,kQ,kR,kS,kT,kU,m5,m6,m7,m8,oB,oC,oD,oE,oF,oG,oH,oI,oJ,oK,oL,oM,oN,oO,oP,oQ,oS,oT,oU,oV,nB,nC,nD,nE,nF,nG,nH,nI,nJ,nK,nL,nM,nN,gE],[]⟩ w'):(partL Tryd.f15 12).wp Tryd.prog Q ⟨#[aB,.pointer (some ⟨bp,0,none⟩),kV,kW,aC,.slice (some ⟨ge,0,none⟩) no no,.slice (some ⟨gs,0,none⟩) n n,kY,kZ,lA,lB,lC,aE,.bool b,.int .i64 (k:Nat),.int .i64 0,aI,aJ,aK,aL,aM,aN,aO,aP,aQ,aR,aS,aT,aU,aV,aW,aX,aY,aZ,a8,bA,bB,bC,bD,bE,bF,bG,bH,bI,bJ,bK,bL,bM,bN,bO,bP,bQ,bS,bT,bU,bV,bW,bX,bY,bZ,b4,b6,cA,cC,cD,cE,cF,cG,cH,cI,cJ,cK,cL,cM,cN,cO,cP,cQ,cR,cT,cU,cV,cW,cX,cY,cZ,c8,dA,dB,dC,dD,dE,dF,dG,dH,dI,dJ,dK,dL,dM,dN,dO,dP,dQ,dR,dS,dT,dU,dV,dW,dX,dY,dZ,d7,eA,eB,eC,eD,eE,eF,eG,eH,eI,eJ,eK,eL,eM,eN,eO,eP,eQ,eR,eS,eT,eU,eV,eW,eX,eY,eZ,fA,fB,fC,fD,fE,fF,fG,fH,fI,fJ,fK,fL,fM,fN,fO,fP,fQ,fR,fS,fT,fU,fV,fW,fX,fY,fZ,gA,gC,gD,gE],[]⟩ w:=by
 have HG:=Lh hg
 have HN:=Lh hn
 have HE0:=Lh hE
 have HE:=Lh hk
 have HGG:=Lh (And.intro hgg (lt_of_block hE))
 have HB:=Lh (And.intro hb0 (And.intro hb2 hkd))
 have HBP:=Lh (And.intro hbp hgp)
 have K1:=Lh k1
 have j0:(0:Int)≤(k:Int):=by omega
 have j1:(k:Int) < (no:Int):=by omega
 clear hg hn hE hk hgg k1 hb0 hb2 hkd hbp hgp
 conv=>arg 2;whnf
 go_wp2
 go_loopw [13,15] (fun bv j wr=>∃ (r:Nat) (bb:Bool),r≤n∧j=.int .i64 r∧bv=.bool bb∧Hid (bb=(b || (sp.take r).any (lasts k e))∧Chg (fun k=>k=gs) w wr∧SpansR wr gs (midS k e sp r))) (fun _ j _=>n - (intOf j).toNat)
 case atStart=>exact ⟨0,b,by omega,rfl,rfl,Lh ⟨by simp,Chg.refl _ _,by simpa [midS] using HG.out⟩⟩
 case round =>
   obtain ⟨r,bb,hr,rfl,rfl,HJ⟩:=hrel
   have HEW:=Lh (show EndsAt wr ge E from (HJ.out.2.1.block ge HGG.out.2 (fun e=>HGG.out.1 e.symm)).trans HE0.out)
   have b0:=(World.cell?_of_block (w:=w) (w':=wr) (a:=⟨bp,0,none⟩) (HJ.out.2.1.block bp HBP.out.1.1 HBP.out.1.2)).trans HB.out.1
   have b2:=(World.cell?_of_block (w:=w) (w':=wr) (a:=⟨bp,2,none⟩) (HJ.out.2.1.block bp HBP.out.1.1 HBP.out.1.2)).trans HB.out.2.1
   have b3:=(World.cell?_of_block (w:=w) (w':=wr) (a:=⟨g,off+k*8,none⟩) (HJ.out.2.1.block g HBP.out.2.1 HBP.out.2.2)).trans HB.out.2.2
   by_cases hlt:r < n
   · obtain ⟨s,hs⟩:∃ s,sp[r]? = some s:=⟨_,List.getElem?_eq_getElem (by have:=HN.out;omega)⟩
     have HSR:=Lh hs
     have HMG:=Lh (midS_get (i:=k) (e:=e) hs)
     have HLM:=Lh (show (midS k e sp r).length=n by unfold midS;rw [List.length_append,List.length_map,List.length_take,List.length_drop];have:=HN.out;omega)
     obtain ⟨bl,hbl⟩:∃ x,lasts k e s=x:=⟨_,rfl⟩
     have HBL:=Lh hbl
     have hnd:decide (r < n)=true:=decide_eq_true hlt
     clear hs hbl
     go_upto_region 33 with fail
     refine wp_code (c:=partR Tryd.f15 33) (by kernel_rfl) ?_
     refine rl_r33 (a:=s.1) (q:=s.2) (e:=e) (bl:=bl) _ _ (HJ.out.2.2.cells HMG.out).1 (HJ.out.2.2.cells HMG.out).2 (HEW.out.cell HE.out) hlt hne (by omega) hno HBL.out ?_
     intro kO kP kQ kR kS kT kU m5 m6 m7 m8 oB oC oD oE oF oG oH oI oJ oK oL oM oN oO oP oQ oS oT oU oV nB nC nD nE w2 hw2
     subst hw2
     clear b0 b2 b3 hnd
     cases bl
     · go_wp2
       go_roundw
       case rel=>exact ⟨r+1,bb,by omega,by go_num,rfl,Lh ⟨by rw [any_step HSR.out,HBL.out,Bool.or_false];exact HJ.out.1,HJ.out.2.1.drew,by rw [midS_same HSR.out HBL.out];exact HJ.out.2.2⟩⟩
       case measure=>simp [intOf];omega
     · go_upto_region 34 with fail
       refine wp_code (c:=partR Tryd.f15 34) (by kernel_rfl) ?_
       refine rl_r34 (e:=e) (s:=s) (sp:=midS k e sp r) (E:=E) _ _ HJ.out.2.2 HMG.out HLM.out HEW.out HE.out hne (by omega) hno HGG.out.1 ?_
       intro nG nH nI nJ nK nL nM nN w3 h3
       have H3:=Lh h3
       clear h3
       go_wp2
       go_roundw
       case rel=>exact ⟨r+1,true,by omega,by go_num,rfl,Lh ⟨by rw [any_step HSR.out,HBL.out,Bool.or_true],HJ.out.2.1.drew.trans H3.out.2,by rw [midS_next HSR.out,show lastF k e s=(s.1,e) by unfold lastF;rw [HBL.out];rfl];exact H3.out.1⟩⟩
       case measure=>simp [intOf];omega
   · have hrn:r=n:=by omega
     have HZ:=Lh (show SpansR wr gs (sp.map (lastF k e)) by have:=HJ.out.2.2;unfold midS at this;rwa [List.take_of_length_le (by have:=HN.out;omega),List.drop_of_length_le (by have:=HN.out;omega),List.append_nil] at this)
     have HY:=Lh (show bb=(b || sp.any (lasts k e)) by rw [HJ.out.1,List.take_of_length_le (by have:=HN.out;omega)])
     have hnd:decide (r < n)=false:=decide_eq_false hlt
     clear hrn
     go_wp2
     rw [HY.out]
     exact K1.out _ _ _ _ _ _ _ _ _ _ _ _ _ _ _ _ _ _ _ _ _ _ _ _ _ _ _ _ _ _ _ _ _ _ _ _ _ _ _ _ _ _ _ _ _ _ _ _ _ _ _ _ _ _ _ _ _ _ _ _ _ ⟨HJ.out.2.1,HZ.out⟩
end Go.Proofs.YtppoiahhaclleaaDoor
