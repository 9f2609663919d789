/- Part 15 of a claim; what it proves stands in its last text. -/
import Derived.Test.YtppoiahhaclleaaDoorAr14
import Derived.Test.YtppoiahhaclleaaDoorAr12
namespace Go.Proofs.YtppoiahhaclleaaDoor
open Go.RowKit
set_option maxRecDepth 100000
variable {aB aA kV kW aC aD kX kY lB lC aE aG aH aI aJ aK aL aM aN aO aP aQ aR aS aT aU aV aW aX aY aZ a8 bA bB bC bD bE bF bG bH bI bJ bK bL bM bN bO bP bQ bS bT bU bV bW bX bY bZ cC cD cE cF cG cH cI cJ cK cL cM cN cO cP cQ cR cT cU cV cW cX cY : Value}
set_option maxHeartbeats 4000000 in
theorem build_l2g {g n c gb gs m go kb B:Nat} {sp:List (Int×Int)} {ord:List Int} {rest:List Value} {O:Nat→List Int} {pl:Nat→Int} {St Sf:Nat→World→Prop} (w:World) (Q:Exit→Act→World→Prop) (hk:KeysAt w gb gs m sp) (ho:OrdAt w g ord rest) (he:EndsAt w go (O 0)) (hl:ord.length=n∧n≤1000∧m≤1000) (hmem:∀ x∈ord,0≤x∧x < (m:Int)) (hs:St 0 w)
   (hfree:∀ (k q:Nat) (s:Int×Int),ord[k]? = some (q:Int)→sp[q]? = some s→∀ wr,St k wr→Calls Tryd.prog 37 #[.pointer (some ⟨kb,0,none⟩),.int .i64 s.1] wr fun e w'=>e=.returned (.tuple #[])∧Sf k w'∧Chg (fun j=>B≤j∧j≠gs∧j≠g∧j≠gb∧j≠go) wr w')
   (htake:∀ (k q:Nat) (s:Int×Int),ord[k]? = some (q:Int)→sp[q]? = some s→∀ wr,Sf k wr→Calls Tryd.prog 38 #[.pointer (some ⟨kb,0,none⟩),.int .i64 s.2] wr fun e w'=>e=.returned (.int .i64 (pl k))∧St (k+1) w'∧Chg (fun j=>B≤j∧j≠gs∧j≠g∧j≠gb∧j≠go) wr w')
   (hO:∀ k:Nat,(O k).length=m∧∀ q:Nat,ord[k]? = some (q:Int)→O (k+1)=(O k).set q (pl k)) (hg:B≤go∧go≠gs∧go≠g∧go≠gb) (hst:∀ k wr x v,St k wr→St k (wr.setCell ⟨go,x,none⟩ v))
   (k1:∀ (pQ l7 l8 l9 mA mB mC mD mE mF mG mH mI mJ mY iS iT iU iV iW iX iY iZ:Value) (w':World),Chg (fun j=>B≤j∧j≠gs∧j≠g∧j≠gb) w w'∧EndsAt w' go (O n)∧St n w'→Q (.exit 2) ⟨#[aB,aA,kV,kW,aC,aD,kX,kY,.pointer (some ⟨gb,0,none⟩),.slice (some ⟨go,0,none⟩) m m,lB,lC,aE,.pointer (some ⟨kb,0,none⟩),aG,pQ,aI,aJ,aK,aL,aM,aN,aO,aP,aQ,aR,aS,aT,aU,aV,aW,aX,aY,aZ,a8,bA,bB,bC,bD,bE,bF,bG,bH,bI,bJ,bK,bL,bM,bN,bO,bP,bQ,bS,bT,bU,bV,bW,bX,bY,bZ,.slice (some ⟨g,0,none⟩) n c,.int .i64 (n:Nat),l7,l8,l9,mA,mB,mC,mD,mE,mF,mG,mH,mI,mJ,mY,iS,iT,iU,iV,iW,iX,iY,iZ,cY],[]⟩ w'):(partL Tryd.f13 2).wp Tryd.prog Q ⟨#[aB,aA,kV,kW,aC,aD,kX,kY,.pointer (some ⟨gb,0,none⟩),.slice (some ⟨go,0,none⟩) m m,lB,lC,aE,.pointer (some ⟨kb,0,none⟩),aG,aH,aI,aJ,aK,aL,aM,aN,aO,aP,aQ,aR,aS,aT,aU,aV,aW,aX,aY,aZ,a8,bA,bB,bC,bD,bE,bF,bG,bH,bI,bJ,bK,bL,bM,bN,bO,bP,bQ,bS,bT,bU,bV,bW,bX,bY,bZ,.slice (some ⟨g,0,none⟩) n c,.int .i64 (n:Nat),.int .i64 0,cC,cD,cE,cF,cG,cH,cI,cJ,cK,cL,cM,cN,cO,cP,cQ,cR,cT,cU,cV,cW,cX,cY],[]⟩ w:=by
 have hn1:=hl.2.1
 have hm1:=hl.2.2
 have HK:=Lh hk
 have HO:=Lh ho
 have HE:=Lh he
 have HL:=Lh hl
 have HM:=Lh hmem
 have HS:=Lh hs
 have HFR:=Lh hfree
 have HTK:=Lh htake
 have HOO:=Lh hO
 have HG:=Lh hg
 have HST:=Lh hst
 have K1:=Lh k1
 clear hk ho he hl hmem hs hfree htake hO hg hst k1
 conv=>arg 2;whnf
 go_wp2
 go_loopw [62] (fun j wr=>∃ k:Nat,k≤n∧j=.int .i64 k∧Hid (Chg (fun j=>B≤j∧j≠gs∧j≠g∧j≠gb) w wr∧EndsAt wr go (O k)∧St k wr)) (fun j _=>n - (intOf j).toNat)
 case atStart=>exact ⟨0,by omega,rfl,Lh ⟨Chg.refl _ _,HE.out,HS.out⟩⟩
 case round =>
   clear HE HS
   obtain ⟨k,hk,rfl,HJ⟩:=hrel
   by_cases hlt:k < n
   · obtain ⟨x,hx⟩:∃ s,ord[k]? = some s:=⟨_,List.getElem?_eq_getElem (by have:=HL.out.1;omega)⟩
     have mx:=HM.out x (List.mem_of_getElem? hx)
     obtain ⟨q,hq⟩:∃ q:Nat,q=x.toNat:=⟨_,rfl⟩
     obtain rfl:x=(q:Int):=by omega
     obtain ⟨s,hs⟩:∃ s,sp[q]? = some s:=⟨_,List.getElem?_eq_getElem (by have:=HK.out.len;omega)⟩
     have HC:=Lh (And.intro (HFR.out k q s hx hs) (HTK.out k q s hx hs))
     have HKr:=Lh (KeysAt.chg HK.out HJ.out.1 (by have:=HG.out;intro h;exact h.2.2.2 rfl) (by intro h;exact h.2.1 rfl))
     have hc0:=(OrdAt.chg HO.out HJ.out.1 (by intro h;exact h.2.2.1 rfl)).cell hx
     have hb0:=HKr.out.box
     have hb1:=(HKr.out.cell2 hs).1
     have HXS:=Lh (And.intro hx hs)
     have HC1:=Lh (HC.out.1 wr HJ.out.2.2)
     obtain ⟨s0,h0⟩:∃ x,s.1=x:=⟨_,rfl⟩
     obtain ⟨s1,h1⟩:∃ x,s.2=x:=⟨_,rfl⟩
     rw [h0] at HC1 hb1
     have HSS:=Lh (And.intro h0 h1)
     have i0:(0:Int)≤(k:Int):=by omega
     have i1:(k:Int) < (n:Int):=by omega
     have j0:(0:Int)≤(q:Int):=by omega
     have j1:(q:Int) < (m:Int):=by omega
     have HQ:=Lh hq
     clear hx hs mx hq h0 h1
     go_upto_region 21 with ((with_reducible refine (HC1.out).mono ?_);rintro e w1 ⟨rfl,hst1,hch1⟩;have H1:=Lh (And.intro hst1 hch1);clear hst1 hch1)
     clear hc0 hb0 hb1
     have HK1:=Lh (KeysAt.chg HKr.out H1.out.2 (by intro h;exact h.2.2.2.1 rfl) (by intro h;exact h.2.1 rfl))
     have HC2:=HC.out.2 w1 H1.out.1
     rw [HSS.out.2] at HC2
     have HC3:=Lh HC2
     clear HC2
     have hb0:=HK1.out.box
     have hb2:=(HK1.out.cell2 HXS.out.2).2
     rw [HSS.out.2] at hb2
     obtain ⟨pv,hpv⟩:∃ x,pl k=x:=⟨_,rfl⟩
     rw [hpv] at HC3
     have HPV:=Lh hpv
     clear hpv
     go_wp2_with ((with_reducible refine (HC3.out).mono ?_);rintro e w2 ⟨rfl,hst2,hch2⟩;have H2:=Lh (And.intro hst2 hch2);clear hst2 hch2;have HE2:=Lh (EndsAt.chg (EndsAt.chg HJ.out.2.1 H1.out.2 (by intro h;exact h.2.2.2.2 rfl)) H2.out.2 (by intro h;exact h.2.2.2.2 rfl));have hlo:q < (O k).length:=(by rw [(HOO.out k).1];omega);have c9:w2.cell? ⟨go,q,none⟩=some (.int .i64 ((O k)[q])):=HE2.out.cell (List.getElem?_eq_getElem hlo);have f9:=frozen_row HE2.out q)
     go_roundw
     case rel =>
       have hok:=(HOO.out k).2 q HXS.out.1
       refine ⟨k+1,by omega,by go_num,Lh ⟨?_,?_,HST.out _ _ _ _ H2.out.1⟩⟩
       · exact ((HJ.out.1.trans (H1.out.2.mono fun j _ h=>⟨h.1,h.2.1,h.2.2.1,h.2.2.2.1⟩)).trans (H2.out.2.mono fun j _ h=>⟨h.1,h.2.1,h.2.2.1,h.2.2.2.1⟩)).setCell (.inl HG.out) _
       · rw [hok,HPV.out]
         exact HE2.out.set q pv
     case measure=>simp [intOf];omega
   · have hkn:k=n:=by omega
     subst hkn
     go_wp2
     exact K1.out _ _ _ _ _ _ _ _ _ _ _ _ _ _ _ _ _ _ _ _ _ _ _ _ ⟨HJ.out.1,HJ.out.2.1,HJ.out.2.2⟩
end Go.Proofs.YtppoiahhaclleaaDoor
namespace Go.Proofs.YtppoiahhaclleaaDoor
open Go.RowKit
def KeepsG (sp:List (Int×Int)) (ord:List Int) (pool:Nat) (pl:Nat→Int):Prop :=
 ∀ (w:World) (kb gs g gb go B:Nat),KeepAt w kb (2 ^ pool - 1) 18446744073709551615 (.slice none 0 0)→TzAt w→0 < B→B≤w.heap.size→B≤kb→(kb≠gs∧kb≠g∧kb≠gb∧kb≠go)→(gs < w.heap.size∧g < w.heap.size∧gb < w.heap.size∧go < w.heap.size∧B≤go) →
   ∃ St Sf:Nat→World→Prop,St 0 w ∧
   (∀ (k q:Nat) (s:Int×Int),ord[k]? = some (q:Int)→sp[q]? = some s→∀ wr,St k wr→Calls Tryd.prog 37 #[.pointer (some ⟨kb,0,none⟩),.int .i64 s.1] wr fun e w'=>e=.returned (.tuple #[])∧Sf k w'∧Chg (fun j=>B≤j∧j≠gs∧j≠g∧j≠gb∧j≠go) wr w') ∧
   (∀ (k q:Nat) (s:Int×Int),ord[k]? = some (q:Int)→sp[q]? = some s→∀ wr,Sf k wr→Calls Tryd.prog 38 #[.pointer (some ⟨kb,0,none⟩),.int .i64 s.2] wr fun e w'=>e=.returned (.int .i64 (pl k))∧St (k+1) w'∧Chg (fun j=>B≤j∧j≠gs∧j≠g∧j≠gb∧j≠go) wr w') ∧
   (∀ k wr x v,St k wr→St k (wr.setCell ⟨go,x,none⟩ v))
theorem kinv_start {pool:Nat}:KInv pool ⟨2 ^ pool - 1,18446744073709551615,[]⟩:=by
 refine ⟨fun i hi=>?_,(show (18446744073709551615:Nat) < 18446744073709551616 from by omega),fun i hi=>.inl ?_,(fun x hx=>by cases hx),List.nodup_nil⟩
 · have hi':(2 ^ pool - 1).testBit i=true:=hi
   rw [Nat.testBit_two_pow_sub_one] at hi'
   exact of_decide_eq_true hi'
 · show (2 ^ 64 - 1).testBit i=true
   rw [Nat.testBit_two_pow_sub_one]
   exact decide_eq_true hi
theorem kinv {sp:List (Int×Int)} {ord:List Int} {pool:Nat} (hm:pool≤16):∀ k,k≤64→KInv pool (keepS sp ord pool k)∧(keepS sp ord pool k).held.length≤k:=by
 intro k
 induction k with
 | zero=>exact fun _=>⟨kinv_start,Nat.le_refl _⟩
 | succ k ih =>
   intro hk
   obtain ⟨h1,h2⟩:=ih (by omega)
   have hf:=h1.free hm (spanAt sp ord k).1
   have hl:(freeK (spanAt sp ord k).1 (keepS sp ord pool k)).held.length≤k:=Nat.le_trans (List.length_filter_le _ _) h2
   refine ⟨(hf.take hm (by omega) _).1,?_⟩
   show (takeK _ _).held.length≤k+1
   unfold takeK
   split <;> (rw [List.length_append];simp;exact hl)
theorem and_pow (x:Nat) (h0:x≠0) (h:x < 18446744073709551616):andV x=((x &&& (x - 1):Nat):Int):=by
 unfold andV
 have e:IntKind.u64.wrap ((x:Int) - 1)=((x - 1:Nat):Int):=by
   rw [IntKind.wrap_u64,show (x:Int) - 1=((x - 1:Nat):Int) by omega]
   have h3:x - 1 < 18446744073709551616:=by omega
   exact Int.emod_eq_of_lt (Int.natCast_nonneg _) (Int.ofNat_lt.2 h3)
 rw [e]
 exact bits_and_u64_nat x (x - 1) h (by omega)
def HeldV (w:World) (B:Nat) (v:Value) (l:List (Int×Int)):Prop :=
 (v=.slice none 0 0∧l=[])∨∃ g o c,v=.slice (some ⟨g,o,none⟩) l.length c∧B≤g∧HeldBlk w g o c l
def KMem (B kb:Nat) (s:KS) (w:World):Prop :=
 ∃ (v:Value) (l:List (Int×Int)),l.Perm s.held∧KeepAt w kb s.pool s.slots v∧HeldV w B v l∧TzAt w∧B≤w.heap.size
theorem gone_perm {now:Int} {gone rest l h:List (Int×Int)} (hp:(gone++rest).Perm l) (hl:l.Perm h) (h1:∀ x∈gone,x.2 < now) (h2:∀ x∈rest,now≤x.2):gone.Perm (goneK now h)∧rest.Perm (restK now h):=by
 have hh:=hp.trans hl
 have a:=hh.filter fun x=>decide (x.2 < now)
 have b:=hh.filter fun x=>!decide (x.2 < now)
 rw [List.filter_append] at a b
 rw [List.filter_eq_self.2 (fun x hx=>decide_eq_true (h1 x hx)),List.filter_eq_nil_iff.2 (fun x hx=>by have:=h2 x hx;simp;omega),List.append_nil] at a
 rw [List.filter_eq_nil_iff.2 (fun x hx=>by have:=h1 x hx;simp;omega),List.filter_eq_self.2 (fun x hx=>by have:=h2 x hx;simp;omega),List.nil_append] at b
 exact ⟨a,b⟩
theorem kfree {B kb m:Nat} {s:KS} (hi:KInv m s) (hm:m≤16) (hl:s.held.length≤64) (hkb:kb < B) (hkb0:0 < kb) (now:Int) (w:World) (h:KMem B kb s w) :
   Calls Tryd.prog 37 #[.pointer (some ⟨kb,0,none⟩),.int .i64 now] w fun e w'=>e=.returned (.tuple #[])∧KMem B kb (freeK now s) w'∧Chg (fun j=>j=kb∨B≤j) w w':=by
 obtain ⟨v,l,hp,hk,hv,hT,hB⟩:=h
 rcases hv with ⟨rfl,rfl⟩ | ⟨g,o,c,rfl,hg,hh⟩
 · refine (free_zero (k:=kb) (c:=0) (A:=none) now w hk).mono ?_
   rintro e w' ⟨rfl,hb⟩
   have he:s.held=[]:=List.Perm.eq_nil (hp.symm)
   refine ⟨rfl,⟨.slice none 0 0,[],?_,?_,.inl ⟨rfl,rfl⟩,hT.next hb (by omega),Nat.le_trans hB hb.size⟩,.of_below hb⟩
   · show List.Perm [] (restK now s.held);rw [he];exact List.Perm.refl _
   · show KeepAt w' kb (relP s.pool (goneK now s.held)) (relS s.slots (goneK now s.held)) _
     rw [he];exact hk.next hb
 · have hll:l.length≤64:=by rw [hp.length_eq];exact hl
   refine (free_any (n:=l.length) (l:=l) now w hk hh rfl (by omega) (by omega) (fun x hx=>hi.places hm x (hp.mem_iff.1 hx)) (hi.pool_lt hm) hi.sl).mono ?_
   rintro e w' ⟨rfl,gone,rest,o',c',h1,h2,h3,h4,h5,h6⟩
   obtain ⟨p1,p2⟩:=gone_perm h1 hp h2 h3
   refine ⟨rfl,⟨_,rest,p2,?_,.inr ⟨g,o',c',rfl,hg,h5⟩,TzAt.chg hT h6 (fun e=>by rcases e with e | e <;> omega) (by omega),Nat.le_trans hB h6.size⟩,h6.weak fun j hj=>hj.elim .inl fun e=>.inr (e▸hg)⟩
   show KeepAt w' kb (relP s.pool (goneK now s.held)) (relS s.slots (goneK now s.held)) _
   rw [←relP_perm p1,←relS_perm p1]
   exact h4
theorem ktake {B kb m:Nat} {s:KS} (hi:KInv m s) (hm:m≤16) (hl:s.held.length < 64) (hkb:kb < B) (hkb0:0 < kb) (un:Int) (w:World) (h:KMem B kb s w) :
   Calls Tryd.prog 38 #[.pointer (some ⟨kb,0,none⟩),.int .i64 un] w fun e w'=>e=.returned (.int .i64 (placeK s))∧KMem B kb (takeK un s) w'∧Chg (fun j=>j=kb∨B≤j) w w':=by
 obtain ⟨v,l,hp,hk,hv,hT,hB⟩:=h
 have hs0:=hi.some_slot hl
 have hp64:=hi.pool_lt hm
 have hkw:kb < w.heap.size:=by omega
 have hll:l.length≤1000:=by rw [hp.length_eq];omega
 by_cases hp0:s.pool=0
 · have ep:placeK s = -1 - (Lib.ctz 64 s.slots:Nat):=by unfold placeK;rw [if_pos hp0]
   have et:takeK un s=⟨s.pool,s.slots &&& (s.slots - 1),s.held++[(placeK s,un)]⟩:=by unfold takeK;rw [if_pos hp0]
   rw [et,ep]
   rcases hv with ⟨rfl,rfl⟩ | ⟨g,o,c,rfl,hg,hh⟩
   · refine (take_slot (base:=B) (l:=[]) (A:=none) (n:=0) (c:=0) un w hk (World.ownsRow_nil _ _ _ _) (fun e=>by cases e) hT hp0 hi.sl (by omega) rfl hB (and_pow _ hs0 hi.sl)).mono ?_
     rintro e w' ⟨rfl,⟨A,c,h1,h2,h3⟩,h4⟩
     obtain ⟨g,rfl,hg,hh⟩:=held_own (l:=[]++[(-1 - ((Lib.ctz 64 s.slots:Nat):Int),un)]) h2 rfl (by omega)
     have h4':Chg (fun j=>j=kb∨B≤j) w w':=h4.weak fun j hj=>hj.elim .inl fun e=>by cases e
     exact ⟨rfl,⟨_,_,hp.append_right _,h1,.inr ⟨g,0,c,rfl,hg,hh⟩,TzAt.chg hT h4' (fun e=>by rcases e with e | e <;> omega) (by omega),Nat.le_trans hB h4'.size⟩,h4'⟩
   · refine (take_slot2 (B:=B) (l:=l) (n:=l.length) un w hk hh (by omega) hg hT hp0 hi.sl hll rfl hB (and_pow _ hs0 hi.sl)).mono ?_
     rintro e w' ⟨rfl,⟨g',o',c',h1,h2,h3,_⟩,h4⟩
     have h4':Chg (fun j=>j=kb∨B≤j) w w':=h4.weak fun j hj=>hj.elim .inl fun e=>.inr (e▸hg)
     exact ⟨rfl,⟨_,_,hp.append_right _,h1,.inr ⟨g',o',c',by rw [List.length_append];rfl,h3,h2⟩,TzAt.chg hT h4' (fun e=>by rcases e with e | e <;> omega) (by omega),Nat.le_trans hB h4'.size⟩,h4'⟩
 · have ep:placeK s=(Lib.ctz 64 s.pool:Nat):=by unfold placeK;rw [if_neg hp0]
   have et:takeK un s=⟨s.pool &&& (s.pool - 1),s.slots,s.held++[(placeK s,un)]⟩:=by unfold takeK;rw [if_neg hp0]
   rw [et,ep]
   rcases hv with ⟨rfl,rfl⟩ | ⟨g,o,c,rfl,hg,hh⟩
   · refine (take_reg (base:=B) (l:=[]) (A:=none) (n:=0) (c:=0) un w hk (World.ownsRow_nil _ _ _ _) (fun e=>by cases e) hT hp0 hp64 (by omega) rfl hB (and_pow _ hp0 hp64)).mono ?_
     rintro e w' ⟨rfl,⟨A,c,h1,h2,h3⟩,h4⟩
     obtain ⟨g,rfl,hg,hh⟩:=held_own (l:=[]++[(((Lib.ctz 64 s.pool:Nat):Int),un)]) h2 rfl (by omega)
     have h4':Chg (fun j=>j=kb∨B≤j) w w':=h4.weak fun j hj=>hj.elim .inl fun e=>by cases e
     exact ⟨rfl,⟨_,_,hp.append_right _,h1,.inr ⟨g,0,c,rfl,hg,hh⟩,TzAt.chg hT h4' (fun e=>by rcases e with e | e <;> omega) (by omega),Nat.le_trans hB h4'.size⟩,h4'⟩
   · refine (take_reg2 (B:=B) (l:=l) (n:=l.length) un w hk hh (by omega) hg hT hp0 hp64 hll rfl hB (and_pow _ hp0 hp64)).mono ?_
     rintro e w' ⟨rfl,⟨g',o',c',h1,h2,h3,_⟩,h4⟩
     have h4':Chg (fun j=>j=kb∨B≤j) w w':=h4.weak fun j hj=>hj.elim .inl fun e=>.inr (e▸hg)
     exact ⟨rfl,⟨_,_,hp.append_right _,h1,.inr ⟨g',o',c',by rw [List.length_append];rfl,h3,h2⟩,TzAt.chg hT h4' (fun e=>by rcases e with e | e <;> omega) (by omega),Nat.le_trans hB h4'.size⟩,h4'⟩
theorem keeps_all {sp:List (Int×Int)} {ord:List Int} {pool:Nat} (hm:pool≤16) (hl:ord.length≤64):KeepsG sp ord pool (plK sp ord pool):=by
 intro w kb gs g gb go B hk hT hB0 hB hkb hne hlt
 have hkw:=lt_of_block hk
 have hat:∀ (k q:Nat) (s:Int×Int),ord[k]? = some (q:Int)→sp[q]? = some s→spanAt sp ord k=s∧k < 64:=fun k q s h1 h2=>by
   refine ⟨?_,by have:=(List.getElem?_eq_some_iff.1 h1).1;omega⟩
   unfold spanAt
   rw [List.getD_eq_getElem?_getD,List.getD_eq_getElem?_getD,h1]
   show (sp[(q:Int).toNat]?).getD _=s
   rw [Int.toNat_natCast,h2]
   rfl
 have hch:∀ {a b:World},Chg (fun j=>j=kb∨w.heap.size≤j) a b→Chg (fun j=>B≤j∧j≠gs∧j≠g∧j≠gb∧j≠go) a b:=fun h=>h.weak fun j hj=>by
   rcases hj with rfl | hj
   · exact ⟨hkb,hne.1,hne.2.1,hne.2.2.1,hne.2.2.2⟩
   · omega
 refine ⟨fun k wr=>KMem w.heap.size kb (keepS sp ord pool k) wr,fun k wr=>KMem w.heap.size kb (freeK (spanAt sp ord k).1 (keepS sp ord pool k)) wr,⟨_,[],List.Perm.refl _,hk,.inl ⟨rfl,rfl⟩,hT,Nat.le_refl _⟩,?_,?_,?_⟩
 · intro k q s h1 h2 wr hst
   obtain ⟨e1,e2⟩:=hat k q s h1 h2
   have hi:=kinv (sp:=sp) (ord:=ord) hm k (by omega)
   refine (kfree hi.1 hm (by omega) hkw (by omega) s.1 wr hst).mono ?_
   rintro e w' ⟨rfl,h3,h4⟩
   exact ⟨rfl,by show KMem _ _ (freeK (spanAt sp ord k).1 _) w';rw [e1];exact h3,hch h4⟩
 · intro k q s h1 h2 wr hst
   obtain ⟨e1,e2⟩:=hat k q s h1 h2
   have hi:=kinv (sp:=sp) (ord:=ord) hm k (by omega)
   have hl2:(freeK (spanAt sp ord k).1 (keepS sp ord pool k)).held.length < 64:=Nat.lt_of_le_of_lt (List.length_filter_le _ _) (by omega)
   refine (ktake (hi.1.free hm _) hm hl2 hkw (by omega) s.2 wr hst).mono ?_
   rintro e w' ⟨rfl,h3,h4⟩
   exact ⟨rfl,by show KMem _ _ (takeK (spanAt sp ord k).2 _) w';rw [e1];rw [e1] at h3;exact h3,hch h4⟩
 · intro k wr x v ⟨u,l,h1,h2,h3,h4,h5⟩
   have hc:Chg (fun j=>j=go) wr (wr.setCell ⟨go,x,none⟩ v):=(Chg.refl (fun j=>j=go) wr).setCell (p:=⟨go,x,none⟩) (.inl rfl) v
   refine ⟨u,l,h1,h2.chg hc hne.2.2.2,?_,TzAt.chg h4 hc (by omega) (by omega),Nat.le_trans h5 hc.size⟩
   rcases h3 with h3 | ⟨g',o,c,e,hg,hh⟩
   · exact .inl h3
   · exact .inr ⟨g',o,c,e,hg,hh.chg hc (by omega)⟩
end Go.Proofs.YtppoiahhaclleaaDoor
namespace Go.Proofs.YtppoiahhaclleaaDoor
open Go.RowKit
set_option maxRecDepth 100000
variable {aB aA kV kW aC aD kX kY kZ lA lB lC aE aF aG aH aI aJ aK aL aM aN aO aP aQ aR aS aT aU aV aW aX aY aZ a8 bA bB bC bD bE bF bG bH bI bJ bK bL bM bN bO bP bQ bS bT bU bV bW bX bY bZ b4 b6 cA cC cD cE cF cG cH cI cJ cK cL cM cN cO cP cQ cR cT cU cV cW cX cY cZ c8 dA dB dC dD dE dF dG dH dI dJ dK dL dM dN dO dP dQ dR dS dT dU dV dW dX dY dZ d7 eA eB eC eD eE eF eG eH eI eJ eK eL eM eN eO eP eQ eR eS eT eU eV eW eX eY eZ fA fB fC fD fE fF fG fH fI fJ fK fL fM fN fO fP fQ fR fS fT fU fV fW fX fY fZ gA gC gD gE gF gG gH gI gJ gK gL gM gN gO gP gQ gR gS gT gU gV gW gX gY gZ g9 hJ hY hZ iA iB iC iD iE iF iG iH iI iJ iK iL iM iO iP iQ iR pR pS pT pU pV pW pX pY : Value}
set_option maxHeartbeats 4000000 in
theorem sw_r3 {g n c a b i:Nat} {l:List Int} {rest:List Value} (w:World) (Q:Exit→Act→World→Prop) (hr:OrdAt w g l rest) (hl:l.length=n) (hn:n≤1000) (hab:a < b) (hb:b+i < n)
   (k:∀ (pZ p3 pE pF pG pH pI pJ pK pL pM pN pO mQ mR mS mT mU mV mW mX lD:Value) (w':World),OrdAt w' g (swapL l (a+i) (b+i)) rest∧Chg (fun k=>k=g) w w'→Q .normal ⟨#[.slice (some ⟨g,0,none⟩) n c,.int .i64 (a:Nat),.int .i64 (b:Nat),kW,aC,aD,kX,kY,kZ,lA,.int .i64 (i:Nat),lC,aE,aF,aG,aH,pZ,p3,pE,pF,pG,pH,pI,pJ,pK,pL,pM,pN,pO,mQ,mR,mS,mT,mU,mV,mW,mX,lD],[]⟩ w'):(partR Tryd.f98 3).wp Tryd.prog Q ⟨#[.slice (some ⟨g,0,none⟩) n c,.int .i64 (a:Nat),.int .i64 (b:Nat),kW,aC,aD,kX,kY,kZ,lA,.int .i64 (i:Nat),lC,aE,aF,aG,aH,aI,aJ,aK,aL,aM,aN,aO,aP,aQ,aR,aS,aT,aU,aV,aW,aX,aY,aZ,a8,bA,bB,bC],[]⟩ w:=by
 have HI:=Lh hr
 have HL:=Lh hl
 have HK:=Lh k
 obtain ⟨x,hx⟩:∃ s,l[a+i]? = some s:=⟨_,List.getElem?_eq_getElem (by omega)⟩
 obtain ⟨y,hy⟩:∃ s,l[b+i]? = some s:=⟨_,List.getElem?_eq_getElem (by omega)⟩
 obtain ⟨iN,hiN⟩:∃ q,q=a+i:=⟨_,rfl⟩
 obtain ⟨jN,hjN⟩:∃ q,q=b+i:=⟨_,rfl⟩
 have ei:((a:Int)+(i:Int)).toNat=iN:=by omega
 have pi:(0:Int)≤(a:Int)+(i:Int):=by omega
 have bi:(a:Int)+(i:Int) < (n:Int):=by omega
 have ri:IntKind.i64.wrap ((a:Int)+(i:Int))=(a:Int)+(i:Int):=by rw [IntKind.wrap_i64];omega
 have ej:((b:Int)+(i:Int)).toNat=jN:=by omega
 have pj:(0:Int)≤(b:Int)+(i:Int):=by omega
 have bj:(b:Int)+(i:Int) < (n:Int):=by omega
 have rj:IntKind.i64.wrap ((b:Int)+(i:Int))=(b:Int)+(i:Int):=by rw [IntKind.wrap_i64];omega
 have HX:=Lh (And.intro hx hy)
 rw [←hiN,←hjN] at HX
 have HNE:=Lh (show iN≠jN by omega)
 have HIJ:=Lh (And.intro hiN hjN)
 have HS2:=Lh (HI.out.set (k:=iN) y (List.getElem?_eq_some_iff.1 HX.out.1).1)
 have HC2:=Lh (HS2.out.cell (k:=jN) (x:=y) (by rw [List.getElem?_set_ne HNE.out];exact HX.out.2))
 have S3:=Lh (And.intro (HI.out.swap HX.out.1 HX.out.2) (((Chg.refl (fun k=>k=g) w).setCell (p:=⟨g,iN,none⟩) (.inl rfl) (.int .i64 y)).setCell (p:=⟨g,jN,none⟩) (.inl rfl) (.int .i64 x)))
 clear hr hl k hx hy hiN hjN hab hb
 conv=>arg 2;whnf
 go_wp2_with fail
 (refine wp_region_stages (fun k_ w_=>((fun k=>k == 13 || k == 19) k_=true→(fun w_=>OrdAt w_ g l rest) w_)∧(fun _=>True) w_) (by kernel_rfl) (by kernel_rfl) (fun _=>⟨fun _=>((And.intro (HI.out.next (Below.refl _ _).drew) trivial)).1,((And.intro (HI.out.next (Below.refl _ _).drew) trivial)).2⟩) ?_)
 (try simp only [])
 repeat (first | (refine runK_no (by rfl) ?_;(try simp only [Act.put,List.setIfInBounds_toArray,List.set_cons_zero,List.set_cons_succ])) | (refine runK_val (v:=?_) (by rfl) ?_ ?_;rotate_left;(focus (intro w_ hw_;obtain ⟨hE_,f2_⟩:=hw_;(try (replace hE_:=hE_ (by decide);have f1_:=hE_.cell HX.out.1;have f2_:=hE_.cell HX.out.2));go_simp;(try with_reducible rfl);done));(try simp only [Act.put,List.setIfInBounds_toArray,List.set_cons_zero,List.set_cons_succ])) | (refine runK_skip (w1:=w.drew.setCell ⟨g,iN,none⟩ (.int .i64 y)) (by rfl) (by rfl) (exec_store1 3 _ _ rfl g iN _ rfl rfl (by kernel_rfl) (by show (World.cell? w _).isSome=true;rw [HI.out.cell HX.out.1];rfl) (frozen_row HI.out _) rfl) (fun k_ hk_=>⟨fun hc_=>(free_crit (C:=(fun k=>k == 13 || k == 19)) (by kernel_rfl) k_ hk_ hc_).elim,trivial⟩) ?_;(try simp only [Act.put])) | (refine runK_skip (w1:=(w.drew.setCell ⟨g,iN,none⟩ (.int .i64 y)).setCell ⟨g,jN,none⟩ (.int .i64 x)) (by rfl) (by rfl) (exec_store1 3 _ _ rfl g jN _ rfl rfl (by kernel_rfl) (by show (World.cell? (w.setCell _ _) _).isSome=true;rw [HC2.out];rfl) (frozen_row HS2.out _) rfl) (fun k_ hk_=>⟨fun hc_=>(free_crit (C:=(fun k=>k == 13 || k == 19)) (by kernel_rfl) k_ hk_ hc_).elim,trivial⟩) ?_;(try simp only [Act.put])))
 (refine runK_nil ?_)
 exact HK.out _ _ _ _ _ _ _ _ _ _ _ _ _ _ _ _ _ _ _ _ _ _ _ ⟨by rw [←HIJ.out.1,←HIJ.out.2];exact S3.out.1,S3.out.2.drew⟩
set_option maxHeartbeats 4000000 in
theorem sm_r11 {g n c i:Nat} {l:List Int} {rest:List Value} (w:World) (Q:Exit→Act→World→Prop) (hr:OrdAt w g l rest) (hl:l.length=n) (hn:n≤1000) (hb:i+1 < n)
   (k:∀ (l6 l7 l8 l9 mA mB mC mD mE mF mG mH mI mJ mY iS:Value) (w':World),OrdAt w' g (swapL l (i) (i+1)) rest∧Chg (fun k=>k=g) w w'→Q .normal ⟨#[.slice (some ⟨g,0,none⟩) n c,aA,kV,kW,aC,aD,kX,kY,kZ,lA,lB,lC,aE,.int .i64 (i:Nat),aG,aH,aI,aJ,aK,aL,aM,aN,aO,aP,aQ,aR,aS,aT,aU,aV,aW,aX,aY,aZ,a8,bA,bB,bC,bD,bE,bF,bG,bH,bI,bJ,bK,bL,bM,bN,bO,bP,bQ,bS,bT,bU,bV,bW,bX,bY,bZ,b4,l6,l7,l8,l9,mA,mB,mC,mD,mE,mF,mG,mH,mI,mJ,mY,iS,cQ,cR,cT,cU,cV,cW,cX,cY,cZ,c8,dA,dB,dC,dD,dE,dF,dG,dH,dI,dJ,dK,dL,dM,dN,dO,dP,dQ,dR,dS,dT,dU,dV,dW,dX,dY,dZ,d7,eA,eB,eC,eD,eE,eF,eG,eH,eI,eJ,eK,eL,eM,eN,eO,eP,eQ,eR,eS,eT,eU,eV,eW,eX,eY,eZ,fA,fB,fC,fD,fE,fF,fG,fH,fI,fJ,fK,fL,fM,fN,fO,fP,fQ,fR,fS,fT,fU,fV,fW,fX,fY,fZ,gA,gC,gD,gE,gF,gG,gH,gI,gJ,gK,gL,gM,gN,gO,gP,gQ,gR,gS,gT,gU,gV,gW,gX,gY,gZ,g9,hJ,hY,hZ,iA,iB,iC,iD,iE,iF,iG,iH,iI,iJ,iK,iL,iM,iO,iP,iQ,iR,pR,pS,pT,pU,pV,pW,pX,pY],[]⟩ w'):(partR Tryd.f73 11).wp Tryd.prog Q ⟨#[.slice (some ⟨g,0,none⟩) n c,aA,kV,kW,aC,aD,kX,kY,kZ,lA,lB,lC,aE,.int .i64 (i:Nat),aG,aH,aI,aJ,aK,aL,aM,aN,aO,aP,aQ,aR,aS,aT,aU,aV,aW,aX,aY,aZ,a8,bA,bB,bC,bD,bE,bF,bG,bH,bI,bJ,bK,bL,bM,bN,bO,bP,bQ,bS,bT,bU,bV,bW,bX,bY,bZ,b4,b6,cA,cC,cD,cE,cF,cG,cH,cI,cJ,cK,cL,cM,cN,cO,cP,cQ,cR,cT,cU,cV,cW,cX,cY,cZ,c8,dA,dB,dC,dD,dE,dF,dG,dH,dI,dJ,dK,dL,dM,dN,dO,dP,dQ,dR,dS,dT,dU,dV,dW,dX,dY,dZ,d7,eA,eB,eC,eD,eE,eF,eG,eH,eI,eJ,eK,eL,eM,eN,eO,eP,eQ,eR,eS,eT,eU,eV,eW,eX,eY,eZ,fA,fB,fC,fD,fE,fF,fG,fH,fI,fJ,fK,fL,fM,fN,fO,fP,fQ,fR,fS,fT,fU,fV,fW,fX,fY,fZ,gA,gC,gD,gE,gF,gG,gH,gI,gJ,gK,gL,gM,gN,gO,gP,gQ,gR,gS,gT,gU,gV,gW,gX,gY,gZ,g9,hJ,hY,hZ,iA,iB,iC,iD,iE,iF,iG,iH,iI,iJ,iK,iL,iM,iO,iP,iQ,iR,pR,pS,pT,pU,pV,pW,pX,pY],[]⟩ w:=by
 have HI:=Lh hr
 have HL:=Lh hl
 have HK:=Lh k
 obtain ⟨x,hx⟩:∃ s,l[i]? = some s:=⟨_,List.getElem?_eq_getElem (by omega)⟩
 obtain ⟨y,hy⟩:∃ s,l[i+1]? = some s:=⟨_,List.getElem?_eq_getElem (by omega)⟩
 obtain ⟨iN,hiN⟩:∃ q,q=i:=⟨_,rfl⟩
 obtain ⟨jN,hjN⟩:∃ q,q=i+1:=⟨_,rfl⟩
 have ei:((i:Int)).toNat=iN:=by omega
 have pi:(0:Int)≤(i:Int):=by omega
 have bi:(i:Int) < (n:Int):=by omega
 have ri:IntKind.i64.wrap ((i:Int))=(i:Int):=by rw [IntKind.wrap_i64];omega
 have ej:((i:Int)+1).toNat=jN:=by omega
 have pj:(0:Int)≤(i:Int)+1:=by omega
 have bj:(i:Int)+1 < (n:Int):=by omega
 have rj:IntKind.i64.wrap ((i:Int)+1)=(i:Int)+1:=by rw [IntKind.wrap_i64];omega
 have HX:=Lh (And.intro hx hy)
 rw [←hjN,←hiN] at HX
 have HNE:=Lh (show iN≠jN by omega)
 have HIJ:=Lh (And.intro hiN hjN)
 have HS2:=Lh (HI.out.set (k:=iN) y (List.getElem?_eq_some_iff.1 HX.out.1).1)
 have HC2:=Lh (HS2.out.cell (k:=jN) (x:=y) (by rw [List.getElem?_set_ne HNE.out];exact HX.out.2))
 have S3:=Lh (And.intro (HI.out.swap HX.out.1 HX.out.2) (((Chg.refl (fun k=>k=g) w).setCell (p:=⟨g,iN,none⟩) (.inl rfl) (.int .i64 y)).setCell (p:=⟨g,jN,none⟩) (.inl rfl) (.int .i64 x)))
 clear hr hl k hx hy hiN hjN hb
 conv=>arg 2;whnf
 go_wp2_with fail
 (refine wp_region_stages (fun k_ w_=>((fun k=>k == 9 || k == 13) k_=true→(fun w_=>OrdAt w_ g l rest) w_)∧(fun _=>True) w_) (by kernel_rfl) (by kernel_rfl) (fun _=>⟨fun _=>((And.intro (HI.out.next (Below.refl _ _).drew) trivial)).1,((And.intro (HI.out.next (Below.refl _ _).drew) trivial)).2⟩) ?_)
 (try simp only [])
 repeat (first | (refine runK_no (by rfl) ?_;(try simp only [Act.put,List.setIfInBounds_toArray,List.set_cons_zero,List.set_cons_succ])) | (refine runK_val (v:=?_) (by rfl) ?_ ?_;rotate_left;(focus (intro w_ hw_;obtain ⟨hE_,f2_⟩:=hw_;(try (replace hE_:=hE_ (by decide);have f1_:=hE_.cell HX.out.1;have f2_:=hE_.cell HX.out.2));go_simp;(try with_reducible rfl);done));(try simp only [Act.put,List.setIfInBounds_toArray,List.set_cons_zero,List.set_cons_succ])) | (refine runK_skip (w1:=w.drew.setCell ⟨g,iN,none⟩ (.int .i64 y)) (by rfl) (by rfl) (exec_store1 3 _ _ rfl g iN _ rfl rfl (by kernel_rfl) (by show (World.cell? w _).isSome=true;rw [HI.out.cell HX.out.1];rfl) (frozen_row HI.out _) rfl) (fun k_ hk_=>⟨fun hc_=>(free_crit (C:=(fun k=>k == 9 || k == 13)) (by kernel_rfl) k_ hk_ hc_).elim,trivial⟩) ?_;(try simp only [Act.put])) | (refine runK_skip (w1:=(w.drew.setCell ⟨g,iN,none⟩ (.int .i64 y)).setCell ⟨g,jN,none⟩ (.int .i64 x)) (by rfl) (by rfl) (exec_store1 3 _ _ rfl g jN _ rfl rfl (by kernel_rfl) (by show (World.cell? (w.setCell _ _) _).isSome=true;rw [HC2.out];rfl) (frozen_row HS2.out _) rfl) (fun k_ hk_=>⟨fun hc_=>(free_crit (C:=(fun k=>k == 9 || k == 13)) (by kernel_rfl) k_ hk_ hc_).elim,trivial⟩) ?_;(try simp only [Act.put])))
 (refine runK_nil ?_)
 exact HK.out _ _ _ _ _ _ _ _ _ _ _ _ _ _ _ _ _ ⟨by rw [←HIJ.out.2,←HIJ.out.1];exact S3.out.1,S3.out.2.drew⟩
set_option maxHeartbeats 4000000 in
theorem sm_r23 {g n c i:Nat} {l:List Int} {rest:List Value} (w:World) (Q:Exit→Act→World→Prop) (hr:OrdAt w g l rest) (hl:l.length=n) (hn:n≤1000) (hb:i+1 < n)
   (k:∀ (j6 j7 j8 j9 kF kG kH kI kJ kK kL kN kO kP kQ kR:Value) (w':World),OrdAt w' g (swapL l (i+1) (i)) rest∧Chg (fun k=>k=g) w w'→Q .normal ⟨#[.slice (some ⟨g,0,none⟩) n c,aA,kV,kW,aC,aD,kX,kY,kZ,lA,lB,lC,aE,aF,aG,aH,aI,.int .i64 ((i:Nat)+1:Int),aK,aL,aM,aN,aO,aP,aQ,aR,aS,aT,aU,aV,aW,aX,aY,aZ,a8,bA,bB,bC,bD,bE,bF,bG,bH,bI,bJ,bK,bL,bM,bN,bO,bP,bQ,bS,bT,bU,bV,bW,bX,bY,bZ,b4,b6,cA,cC,cD,cE,cF,cG,cH,cI,cJ,cK,cL,cM,cN,cO,cP,cQ,cR,cT,cU,cV,cW,cX,cY,cZ,c8,dA,dB,dC,dD,dE,dF,dG,dH,dI,dJ,dK,dL,dM,dN,dO,dP,dQ,dR,dS,dT,dU,dV,dW,dX,dY,dZ,j6,j7,j8,j9,kF,kG,kH,kI,kJ,kK,kL,kN,kO,kP,kQ,kR,eP,eQ,eR,eS,eT,eU,eV,eW,eX,eY,eZ,fA,fB,fC,fD,fE,fF,fG,fH,fI,fJ,fK,fL,fM,fN,fO,fP,fQ,fR,fS,fT,fU,fV,fW,fX,fY,fZ,gA,gC,gD,gE,gF,gG,gH,gI,gJ,gK,gL,gM,gN,gO,gP,gQ,gR,gS,gT,gU,gV,gW,gX,gY,gZ,g9,hJ,hY,hZ,iA,iB,iC,iD,iE,iF,iG,iH,iI,iJ,iK,iL,iM,iO,iP,iQ,iR,pR,pS,pT,pU,pV,pW,pX,pY],[]⟩ w'):(partR Tryd.f73 23).wp Tryd.prog Q ⟨#[.slice (some ⟨g,0,none⟩) n c,aA,kV,kW,aC,aD,kX,kY,kZ,lA,lB,lC,aE,aF,aG,aH,aI,.int .i64 ((i:Nat)+1:Int),aK,aL,aM,aN,aO,aP,aQ,aR,aS,aT,aU,aV,aW,aX,aY,aZ,a8,bA,bB,bC,bD,bE,bF,bG,bH,bI,bJ,bK,bL,bM,bN,bO,bP,bQ,bS,bT,bU,bV,bW,bX,bY,bZ,b4,b6,cA,cC,cD,cE,cF,cG,cH,cI,cJ,cK,cL,cM,cN,cO,cP,cQ,cR,cT,cU,cV,cW,cX,cY,cZ,c8,dA,dB,dC,dD,dE,dF,dG,dH,dI,dJ,dK,dL,dM,dN,dO,dP,dQ,dR,dS,dT,dU,dV,dW,dX,dY,dZ,d7,eA,eB,eC,eD,eE,eF,eG,eH,eI,eJ,eK,eL,eM,eN,eO,eP,eQ,eR,eS,eT,eU,eV,eW,eX,eY,eZ,fA,fB,fC,fD,fE,fF,fG,fH,fI,fJ,fK,fL,fM,fN,fO,fP,fQ,fR,fS,fT,fU,fV,fW,fX,fY,fZ,gA,gC,gD,gE,gF,gG,gH,gI,gJ,gK,gL,gM,gN,gO,gP,gQ,gR,gS,gT,gU,gV,gW,gX,gY,gZ,g9,hJ,hY,hZ,iA,iB,iC,iD,iE,iF,iG,iH,iI,iJ,iK,iL,iM,iO,iP,iQ,iR,pR,pS,pT,pU,pV,pW,pX,pY],[]⟩ w:=by
 have HI:=Lh hr
 have HL:=Lh hl
 have HK:=Lh k
 obtain ⟨x,hx⟩:∃ s,l[i+1]? = some s:=⟨_,List.getElem?_eq_getElem (by omega)⟩
 obtain ⟨y,hy⟩:∃ s,l[i]? = some s:=⟨_,List.getElem?_eq_getElem (by omega)⟩
 obtain ⟨iN,hiN⟩:∃ q,q=i+1:=⟨_,rfl⟩
 obtain ⟨jN,hjN⟩:∃ q,q=i:=⟨_,rfl⟩
 have ei:((i:Int)+1).toNat=iN:=by omega
 have pi:(0:Int)≤(i:Int)+1:=by omega
 have bi:(i:Int)+1 < (n:Int):=by omega
 have ri:IntKind.i64.wrap ((i:Int)+1)=(i:Int)+1:=by rw [IntKind.wrap_i64];omega
 have ej:((i:Int)).toNat=jN:=by omega
 have pj:(0:Int)≤(i:Int):=by omega
 have bj:(i:Int) < (n:Int):=by omega
 have rj:IntKind.i64.wrap ((i:Int))=(i:Int):=by rw [IntKind.wrap_i64];omega
 have HX:=Lh (And.intro hx hy)
 rw [←hiN,←hjN] at HX
 have HNE:=Lh (show iN≠jN by omega)
 have HIJ:=Lh (And.intro hiN hjN)
 have HS2:=Lh (HI.out.set (k:=iN) y (List.getElem?_eq_some_iff.1 HX.out.1).1)
 have HC2:=Lh (HS2.out.cell (k:=jN) (x:=y) (by rw [List.getElem?_set_ne HNE.out];exact HX.out.2))
 have S3:=Lh (And.intro (HI.out.swap HX.out.1 HX.out.2) (((Chg.refl (fun k=>k=g) w).setCell (p:=⟨g,iN,none⟩) (.inl rfl) (.int .i64 y)).setCell (p:=⟨g,jN,none⟩) (.inl rfl) (.int .i64 x)))
 clear hr hl k hx hy hiN hjN hb
 conv=>arg 2;whnf
 go_wp2_with fail
 (refine wp_region_stages (fun k_ w_=>((fun k=>k == 9 || k == 13) k_=true→(fun w_=>OrdAt w_ g l rest) w_)∧(fun _=>True) w_) (by kernel_rfl) (by kernel_rfl) (fun _=>⟨fun _=>((And.intro (HI.out.next (Below.refl _ _).drew) trivial)).1,((And.intro (HI.out.next (Below.refl _ _).drew) trivial)).2⟩) ?_)
 (try simp only [])
 repeat (first | (refine runK_no (by rfl) ?_;(try simp only [Act.put,List.setIfInBounds_toArray,List.set_cons_zero,List.set_cons_succ])) | (refine runK_val (v:=?_) (by rfl) ?_ ?_;rotate_left;(focus (intro w_ hw_;obtain ⟨hE_,f2_⟩:=hw_;(try (replace hE_:=hE_ (by decide);have f1_:=hE_.cell HX.out.1;have f2_:=hE_.cell HX.out.2));go_simp;(try with_reducible rfl);done));(try simp only [Act.put,List.setIfInBounds_toArray,List.set_cons_zero,List.set_cons_succ])) | (refine runK_skip (w1:=w.drew.setCell ⟨g,iN,none⟩ (.int .i64 y)) (by rfl) (by rfl) (exec_store1 3 _ _ rfl g iN _ rfl rfl (by kernel_rfl) (by show (World.cell? w _).isSome=true;rw [HI.out.cell HX.out.1];rfl) (frozen_row HI.out _) rfl) (fun k_ hk_=>⟨fun hc_=>(free_crit (C:=(fun k=>k == 9 || k == 13)) (by kernel_rfl) k_ hk_ hc_).elim,trivial⟩) ?_;(try simp only [Act.put])) | (refine runK_skip (w1:=(w.drew.setCell ⟨g,iN,none⟩ (.int .i64 y)).setCell ⟨g,jN,none⟩ (.int .i64 x)) (by rfl) (by rfl) (exec_store1 3 _ _ rfl g jN _ rfl rfl (by kernel_rfl) (by show (World.cell? (w.setCell _ _) _).isSome=true;rw [HC2.out];rfl) (frozen_row HS2.out _) rfl) (fun k_ hk_=>⟨fun hc_=>(free_crit (C:=(fun k=>k == 9 || k == 13)) (by kernel_rfl) k_ hk_ hc_).elim,trivial⟩) ?_;(try simp only [Act.put])))
 (refine runK_nil ?_)
 exact HK.out _ _ _ _ _ _ _ _ _ _ _ _ _ _ _ _ _ ⟨by rw [←HIJ.out.1,←HIJ.out.2];exact S3.out.1,S3.out.2.drew⟩
set_option maxHeartbeats 4000000 in
theorem sm_r5 {g n c gb gs m a i:Nat} {sp:List (Int×Int)} {l:List Int} {rest:List Value} (w:World) (Q:Exit→Act→World→Prop) (hr:OrdAt w g l rest) (hl:l.length=n) (hk:KeysAt w gb gs m sp) (hm:m≤1000) (hn:n≤1000) (hmem:∀ x∈l,0≤x∧x < (m:Int)) (ha:a < n) (hi:i < n)
   (k:∀ (lG lH lI lJ lK lL lM lN lO lP:Value) (w':World),OrdAt w' g l rest∧Below w.heap.size w w'→Q .normal ⟨#[.slice (some ⟨g,0,none⟩) n c,.int .i64 (a:Nat),kV,kW,.func (.func 35) #[] #[.pointer (some ⟨gb,0,none⟩)],aD,kX,kY,kZ,lA,lB,lC,.int .i64 (i:Nat),aF,aG,aH,aI,aJ,aK,aL,aM,aN,aO,aP,aQ,aR,aS,aT,aU,aV,aW,aX,aY,aZ,a8,bA,bB,bC,bD,bE,lG,lH,lI,lJ,lK,lL,lM,lN,lO,lP,.bool (decide (keyF sp (l.getD i 0) < keyF sp (l.getD a 0))),bQ,bS,bT,bU,bV,bW,bX,bY,bZ,b4,b6,cA,cC,cD,cE,cF,cG,cH,cI,cJ,cK,cL,cM,cN,cO,cP,cQ,cR,cT,cU,cV,cW,cX,cY,cZ,c8,dA,dB,dC,dD,dE,dF,dG,dH,dI,dJ,dK,dL,dM,dN,dO,dP,dQ,dR,dS,dT,dU,dV,dW,dX,dY,dZ,d7,eA,eB,eC,eD,eE,eF,eG,eH,eI,eJ,eK,eL,eM,eN,eO,eP,eQ,eR,eS,eT,eU,eV,eW,eX,eY,eZ,fA,fB,fC,fD,fE,fF,fG,fH,fI,fJ,fK,fL,fM,fN,fO,fP,fQ,fR,fS,fT,fU,fV,fW,fX,fY,fZ,gA,gC,gD,gE,gF,gG,gH,gI,gJ,gK,gL,gM,gN,gO,gP,gQ,gR,gS,gT,gU,gV,gW,gX,gY,gZ,g9,hJ,hY,hZ,iA,iB,iC,iD,iE,iF,iG,iH,iI,iJ,iK,iL,iM,iO,iP,iQ,iR,pR,pS,pT,pU,pV,pW,pX,pY],[]⟩ w'):(partR Tryd.f73 5).wp Tryd.prog Q ⟨#[.slice (some ⟨g,0,none⟩) n c,.int .i64 (a:Nat),kV,kW,.func (.func 35) #[] #[.pointer (some ⟨gb,0,none⟩)],aD,kX,kY,kZ,lA,lB,lC,.int .i64 (i:Nat),aF,aG,aH,aI,aJ,aK,aL,aM,aN,aO,aP,aQ,aR,aS,aT,aU,aV,aW,aX,aY,aZ,a8,bA,bB,bC,bD,bE,bF,bG,bH,bI,bJ,bK,bL,bM,bN,bO,bP,bQ,bS,bT,bU,bV,bW,bX,bY,bZ,b4,b6,cA,cC,cD,cE,cF,cG,cH,cI,cJ,cK,cL,cM,cN,cO,cP,cQ,cR,cT,cU,cV,cW,cX,cY,cZ,c8,dA,dB,dC,dD,dE,dF,dG,dH,dI,dJ,dK,dL,dM,dN,dO,dP,dQ,dR,dS,dT,dU,dV,dW,dX,dY,dZ,d7,eA,eB,eC,eD,eE,eF,eG,eH,eI,eJ,eK,eL,eM,eN,eO,eP,eQ,eR,eS,eT,eU,eV,eW,eX,eY,eZ,fA,fB,fC,fD,fE,fF,fG,fH,fI,fJ,fK,fL,fM,fN,fO,fP,fQ,fR,fS,fT,fU,fV,fW,fX,fY,fZ,gA,gC,gD,gE,gF,gG,gH,gI,gJ,gK,gL,gM,gN,gO,gP,gQ,gR,gS,gT,gU,gV,gW,gX,gY,gZ,g9,hJ,hY,hZ,iA,iB,iC,iD,iE,iF,iG,iH,iI,iJ,iK,iL,iM,iO,iP,iQ,iR,pR,pS,pT,pU,pV,pW,pX,pY],[]⟩ w:=by
 have HI:=Lh hr
 have HK:=Lh k
 have HKW:=Lh (hk.next (Below.refl _ _).drew)
 obtain ⟨x,hx⟩:∃ s,l[i]? = some s:=⟨_,List.getElem?_eq_getElem (by omega)⟩
 obtain ⟨y,hy⟩:∃ s,l[a]? = some s:=⟨_,List.getElem?_eq_getElem (by omega)⟩
 have mx:=hmem x (List.mem_of_getElem? hx)
 have my:=hmem y (List.mem_of_getElem? hy)
 have gx:l.getD (i) 0=x:=by rw [List.getD_eq_getElem?_getD,hx];rfl
 have gy:l.getD (a) 0=y:=by rw [List.getD_eq_getElem?_getD,hy];rfl
 rw [gx,gy] at HK
 have HC:=cmp_any x y w.drew HKW.out hm mx.1 mx.2 my.1 my.2
 obtain ⟨q,hq⟩:∃ q,Lib.compareInt (keyF sp x) (keyF sp y)=q:=⟨_,rfl⟩
 have hlt:decide (q < 0)=decide (keyF sp x < keyF sp y):=by rw [←hq];exact cmp_lt _ _
 rw [←hlt] at HK
 rw [hq] at HC
 have HCM:=Lh HC
 obtain ⟨iN,hiN⟩:∃ q,q=i:=⟨_,rfl⟩
 obtain ⟨jN,hjN⟩:∃ q,q=a:=⟨_,rfl⟩
 have ei:((i:Int)).toNat=iN:=by omega
 have pi:(0:Int)≤(i:Int):=by omega
 have bi:(i:Int) < (n:Int):=by omega
 have ri:IntKind.i64.wrap ((i:Int))=(i:Int):=by rw [IntKind.wrap_i64];omega
 have ej:((a:Int)).toNat=jN:=by omega
 have pj:(0:Int)≤(a:Int):=by omega
 have bj:(a:Int) < (n:Int):=by omega
 have rj:IntKind.i64.wrap ((a:Int))=(a:Int):=by rw [IntKind.wrap_i64];omega
 have HX:=Lh (And.intro hx hy)
 rw [←hiN,←hjN] at HX
 clear hr hl k hk hmem hx hy hiN hjN mx my gx gy HC hq hlt ha hi
 conv=>arg 2;whnf
 go_wp2_with fail
 (refine wp_region_lines (fun w_=>OrdAt w_ g l rest) (by kernel_rfl) (by kernel_rfl) (HI.out.next (Below.refl _ _).drew) ?_)
 (try simp only [])
 repeat (first | (refine runL_no (by rfl) ?_;(try simp only [Act.put,List.setIfInBounds_toArray,List.set_cons_zero,List.set_cons_succ])) | (refine runL_val (v:=?_) (by rfl) ?_ ?_;rotate_left;(focus (intro w_ hw_;have f1_:=hw_.cell HX.out.1;have f2_:=hw_.cell HX.out.2;go_simp;(try with_reducible rfl);done));(try simp only [Act.put,List.setIfInBounds_toArray,List.set_cons_zero,List.set_cons_succ])) | (refine runL_call (f:=?_) (args:=?_) (w1:=?_) (by rfl) (by rfl) ?_ ?_;rotate_left 3;(focus (go_simp;refine ⟨⟨?_,?_⟩,?_⟩ <;> with_reducible rfl));(with_reducible refine (HCM.out).mono ?_);rintro e w1 ⟨rfl,hb⟩;have HB6:=Lh ((Below.refl w.heap.size w).drew.trans hb);clear hb;refine ⟨_,rfl,.inr (HI.out.next HB6.out),?_⟩;(try simp only [Act.put,List.setIfInBounds_toArray,List.set_cons_zero,List.set_cons_succ])))
 (refine runL_nil ?_)
 exact HK.out _ _ _ _ _ _ _ _ _ _ _ ⟨HI.out.next HB6.out,HB6.out⟩
set_option maxHeartbeats 4000000 in
theorem sm_r17 {g n c gb gs m a i:Nat} {sp:List (Int×Int)} {l:List Int} {rest:List Value} (w:World) (Q:Exit→Act→World→Prop) (hr:OrdAt w g l rest) (hl:l.length=n) (hk:KeysAt w gb gs m sp) (hm:m≤1000) (hn:n≤1000) (hmem:∀ x∈l,0≤x∧x < (m:Int)) (ha:a < n) (hi:i < n)
   (k:∀ (jF jG jH jI jJ jK jL jM jO jP jQ:Value) (w':World),OrdAt w' g l rest∧Below w.heap.size w w'→Q .normal ⟨#[.slice (some ⟨g,0,none⟩) n c,aA,.int .i64 (a:Nat),kW,.func (.func 35) #[] #[.pointer (some ⟨gb,0,none⟩)],aD,kX,kY,kZ,lA,lB,lC,aE,aF,aG,aH,.int .i64 (i:Nat),aJ,aK,aL,aM,aN,aO,aP,aQ,aR,aS,aT,aU,aV,aW,aX,aY,aZ,a8,bA,bB,bC,bD,bE,bF,bG,bH,bI,bJ,bK,bL,bM,bN,bO,bP,bQ,bS,bT,bU,bV,bW,bX,bY,bZ,b4,b6,cA,cC,cD,cE,cF,cG,cH,cI,cJ,cK,cL,cM,cN,cO,cP,cQ,cR,cT,cU,cV,cW,cX,cY,cZ,c8,dA,dB,dC,dD,dE,jF,jG,jH,jI,jJ,jK,jL,jM,jO,jP,jQ,.bool (!decide (keyF sp (l.getD a 0) < keyF sp (l.getD i 0))),dR,dS,dT,dU,dV,dW,dX,dY,dZ,d7,eA,eB,eC,eD,eE,eF,eG,eH,eI,eJ,eK,eL,eM,eN,eO,eP,eQ,eR,eS,eT,eU,eV,eW,eX,eY,eZ,fA,fB,fC,fD,fE,fF,fG,fH,fI,fJ,fK,fL,fM,fN,fO,fP,fQ,fR,fS,fT,fU,fV,fW,fX,fY,fZ,gA,gC,gD,gE,gF,gG,gH,gI,gJ,gK,gL,gM,gN,gO,gP,gQ,gR,gS,gT,gU,gV,gW,gX,gY,gZ,g9,hJ,hY,hZ,iA,iB,iC,iD,iE,iF,iG,iH,iI,iJ,iK,iL,iM,iO,iP,iQ,iR,pR,pS,pT,pU,pV,pW,pX,pY],[]⟩ w'):(partR Tryd.f73 17).wp Tryd.prog Q ⟨#[.slice (some ⟨g,0,none⟩) n c,aA,.int .i64 (a:Nat),kW,.func (.func 35) #[] #[.pointer (some ⟨gb,0,none⟩)],aD,kX,kY,kZ,lA,lB,lC,aE,aF,aG,aH,.int .i64 (i:Nat),aJ,aK,aL,aM,aN,aO,aP,aQ,aR,aS,aT,aU,aV,aW,aX,aY,aZ,a8,bA,bB,bC,bD,bE,bF,bG,bH,bI,bJ,bK,bL,bM,bN,bO,bP,bQ,bS,bT,bU,bV,bW,bX,bY,bZ,b4,b6,cA,cC,cD,cE,cF,cG,cH,cI,cJ,cK,cL,cM,cN,cO,cP,cQ,cR,cT,cU,cV,cW,cX,cY,cZ,c8,dA,dB,dC,dD,dE,dF,dG,dH,dI,dJ,dK,dL,dM,dN,dO,dP,dQ,dR,dS,dT,dU,dV,dW,dX,dY,dZ,d7,eA,eB,eC,eD,eE,eF,eG,eH,eI,eJ,eK,eL,eM,eN,eO,eP,eQ,eR,eS,eT,eU,eV,eW,eX,eY,eZ,fA,fB,fC,fD,fE,fF,fG,fH,fI,fJ,fK,fL,fM,fN,fO,fP,fQ,fR,fS,fT,fU,fV,fW,fX,fY,fZ,gA,gC,gD,gE,gF,gG,gH,gI,gJ,gK,gL,gM,gN,gO,gP,gQ,gR,gS,gT,gU,gV,gW,gX,gY,gZ,g9,hJ,hY,hZ,iA,iB,iC,iD,iE,iF,iG,iH,iI,iJ,iK,iL,iM,iO,iP,iQ,iR,pR,pS,pT,pU,pV,pW,pX,pY],[]⟩ w:=by
 have HI:=Lh hr
 have HK:=Lh k
 have HKW:=Lh (hk.next (Below.refl _ _).drew)
 obtain ⟨x,hx⟩:∃ s,l[a]? = some s:=⟨_,List.getElem?_eq_getElem (by omega)⟩
 obtain ⟨y,hy⟩:∃ s,l[i]? = some s:=⟨_,List.getElem?_eq_getElem (by omega)⟩
 have mx:=hmem x (List.mem_of_getElem? hx)
 have my:=hmem y (List.mem_of_getElem? hy)
 have gx:l.getD (a) 0=x:=by rw [List.getD_eq_getElem?_getD,hx];rfl
 have gy:l.getD (i) 0=y:=by rw [List.getD_eq_getElem?_getD,hy];rfl
 rw [gx,gy] at HK
 have HC:=cmp_any x y w.drew HKW.out hm mx.1 mx.2 my.1 my.2
 obtain ⟨q,hq⟩:∃ q,Lib.compareInt (keyF sp x) (keyF sp y)=q:=⟨_,rfl⟩
 have hlt:decide (q < 0)=decide (keyF sp x < keyF sp y):=by rw [←hq];exact cmp_lt _ _
 rw [←hlt] at HK
 rw [hq] at HC
 have HCM:=Lh HC
 obtain ⟨iN,hiN⟩:∃ q,q=a:=⟨_,rfl⟩
 obtain ⟨jN,hjN⟩:∃ q,q=i:=⟨_,rfl⟩
 have ei:((a:Int)).toNat=iN:=by omega
 have pi:(0:Int)≤(a:Int):=by omega
 have bi:(a:Int) < (n:Int):=by omega
 have ri:IntKind.i64.wrap ((a:Int))=(a:Int):=by rw [IntKind.wrap_i64];omega
 have ej:((i:Int)).toNat=jN:=by omega
 have pj:(0:Int)≤(i:Int):=by omega
 have bj:(i:Int) < (n:Int):=by omega
 have rj:IntKind.i64.wrap ((i:Int))=(i:Int):=by rw [IntKind.wrap_i64];omega
 have HX:=Lh (And.intro hx hy)
 rw [←hiN,←hjN] at HX
 clear hr hl k hk hmem hx hy hiN hjN mx my gx gy HC hq hlt ha hi
 conv=>arg 2;whnf
 go_wp2_with fail
 (refine wp_region_lines (fun w_=>OrdAt w_ g l rest) (by kernel_rfl) (by kernel_rfl) (HI.out.next (Below.refl _ _).drew) ?_)
 (try simp only [])
 repeat (first | (refine runL_no (by rfl) ?_;(try simp only [Act.put,List.setIfInBounds_toArray,List.set_cons_zero,List.set_cons_succ])) | (refine runL_val (v:=?_) (by rfl) ?_ ?_;rotate_left;(focus (intro w_ hw_;have f1_:=hw_.cell HX.out.1;have f2_:=hw_.cell HX.out.2;go_simp;(try with_reducible rfl);done));(try simp only [Act.put,List.setIfInBounds_toArray,List.set_cons_zero,List.set_cons_succ])) | (refine runL_call (f:=?_) (args:=?_) (w1:=?_) (by rfl) (by rfl) ?_ ?_;rotate_left 3;(focus (go_simp;refine ⟨⟨?_,?_⟩,?_⟩ <;> with_reducible rfl));(with_reducible refine (HCM.out).mono ?_);rintro e w1 ⟨rfl,hb⟩;have HB6:=Lh ((Below.refl w.heap.size w).drew.trans hb);clear hb;refine ⟨_,rfl,.inr (HI.out.next HB6.out),?_⟩;(try simp only [Act.put,List.setIfInBounds_toArray,List.set_cons_zero,List.set_cons_succ])))
 (refine runL_nil ?_)
 exact HK.out _ _ _ _ _ _ _ _ _ _ _ _ ⟨HI.out.next HB6.out,HB6.out⟩
set_option maxHeartbeats 4000000 in
theorem sm_r4 {i j:Nat} (w:World) (Q:Exit→Act→World→Prop) (hi:i≤1000) (hj:j≤1000)
   (k:∀ (mV mW mX lD lE lF:Value),Q .normal ⟨#[aB,aA,kV,kW,aC,aD,kX,kY,kZ,lA,.int .i64 (i:Nat),.int .i64 (j:Nat),.int .i64 (((i+j) / 2:Nat):Int),aF,aG,aH,aI,aJ,aK,aL,aM,aN,aO,aP,aQ,aR,aS,aT,aU,aV,aW,aX,aY,aZ,mV,mW,mX,lD,lE,lF,bF,bG,bH,bI,bJ,bK,bL,bM,bN,bO,bP,bQ,bS,bT,bU,bV,bW,bX,bY,bZ,b4,b6,cA,cC,cD,cE,cF,cG,cH,cI,cJ,cK,cL,cM,cN,cO,cP,cQ,cR,cT,cU,cV,cW,cX,cY,cZ,c8,dA,dB,dC,dD,dE,dF,dG,dH,dI,dJ,dK,dL,dM,dN,dO,dP,dQ,dR,dS,dT,dU,dV,dW,dX,dY,dZ,d7,eA,eB,eC,eD,eE,eF,eG,eH,eI,eJ,eK,eL,eM,eN,eO,eP,eQ,eR,eS,eT,eU,eV,eW,eX,eY,eZ,fA,fB,fC,fD,fE,fF,fG,fH,fI,fJ,fK,fL,fM,fN,fO,fP,fQ,fR,fS,fT,fU,fV,fW,fX,fY,fZ,gA,gC,gD,gE,gF,gG,gH,gI,gJ,gK,gL,gM,gN,gO,gP,gQ,gR,gS,gT,gU,gV,gW,gX,gY,gZ,g9,hJ,hY,hZ,iA,iB,iC,iD,iE,iF,iG,iH,iI,iJ,iK,iL,iM,iO,iP,iQ,iR,pR,pS,pT,pU,pV,pW,pX,pY],[]⟩ w):(partR Tryd.f73 4).wp Tryd.prog Q ⟨#[aB,aA,kV,kW,aC,aD,kX,kY,kZ,lA,.int .i64 (i:Nat),.int .i64 (j:Nat),aE,aF,aG,aH,aI,aJ,aK,aL,aM,aN,aO,aP,aQ,aR,aS,aT,aU,aV,aW,aX,aY,aZ,a8,bA,bB,bC,bD,bE,bF,bG,bH,bI,bJ,bK,bL,bM,bN,bO,bP,bQ,bS,bT,bU,bV,bW,bX,bY,bZ,b4,b6,cA,cC,cD,cE,cF,cG,cH,cI,cJ,cK,cL,cM,cN,cO,cP,cQ,cR,cT,cU,cV,cW,cX,cY,cZ,c8,dA,dB,dC,dD,dE,dF,dG,dH,dI,dJ,dK,dL,dM,dN,dO,dP,dQ,dR,dS,dT,dU,dV,dW,dX,dY,dZ,d7,eA,eB,eC,eD,eE,eF,eG,eH,eI,eJ,eK,eL,eM,eN,eO,eP,eQ,eR,eS,eT,eU,eV,eW,eX,eY,eZ,fA,fB,fC,fD,fE,fF,fG,fH,fI,fJ,fK,fL,fM,fN,fO,fP,fQ,fR,fS,fT,fU,fV,fW,fX,fY,fZ,gA,gC,gD,gE,gF,gG,gH,gI,gJ,gK,gL,gM,gN,gO,gP,gQ,gR,gS,gT,gU,gV,gW,gX,gY,gZ,g9,hJ,hY,hZ,iA,iB,iC,iD,iE,iF,iG,iH,iI,iJ,iK,iL,iM,iO,iP,iQ,iR,pR,pS,pT,pU,pV,pW,pX,pY],[]⟩ w:=by
 have HK:=Lh k
 have q1:(i+j) / 2≤1000:=by omega
 clear k
 conv=>arg 2;whnf
 go_wp2
 exact HK.out _ _ _ _ _ _
set_option maxHeartbeats 4000000 in
theorem sm_r16 {i j:Nat} (w:World) (Q:Exit→Act→World→Prop) (hi:i≤1000) (hj:j≤1000)
   (k:∀ (i9 jA jB jC jD jE:Value),Q .normal ⟨#[aB,aA,kV,kW,aC,aD,kX,kY,kZ,lA,lB,lC,aE,aF,.int .i64 (i:Nat),.int .i64 (j:Nat),.int .i64 (((i+j) / 2:Nat):Int),aJ,aK,aL,aM,aN,aO,aP,aQ,aR,aS,aT,aU,aV,aW,aX,aY,aZ,a8,bA,bB,bC,bD,bE,bF,bG,bH,bI,bJ,bK,bL,bM,bN,bO,bP,bQ,bS,bT,bU,bV,bW,bX,bY,bZ,b4,b6,cA,cC,cD,cE,cF,cG,cH,cI,cJ,cK,cL,cM,cN,cO,cP,cQ,cR,cT,cU,cV,cW,cX,cY,cZ,i9,jA,jB,jC,jD,jE,dF,dG,dH,dI,dJ,dK,dL,dM,dN,dO,dP,dQ,dR,dS,dT,dU,dV,dW,dX,dY,dZ,d7,eA,eB,eC,eD,eE,eF,eG,eH,eI,eJ,eK,eL,eM,eN,eO,eP,eQ,eR,eS,eT,eU,eV,eW,eX,eY,eZ,fA,fB,fC,fD,fE,fF,fG,fH,fI,fJ,fK,fL,fM,fN,fO,fP,fQ,fR,fS,fT,fU,fV,fW,fX,fY,fZ,gA,gC,gD,gE,gF,gG,gH,gI,gJ,gK,gL,gM,gN,gO,gP,gQ,gR,gS,gT,gU,gV,gW,gX,gY,gZ,g9,hJ,hY,hZ,iA,iB,iC,iD,iE,iF,iG,iH,iI,iJ,iK,iL,iM,iO,iP,iQ,iR,pR,pS,pT,pU,pV,pW,pX,pY],[]⟩ w):(partR Tryd.f73 16).wp Tryd.prog Q ⟨#[aB,aA,kV,kW,aC,aD,kX,kY,kZ,lA,lB,lC,aE,aF,.int .i64 (i:Nat),.int .i64 (j:Nat),aI,aJ,aK,aL,aM,aN,aO,aP,aQ,aR,aS,aT,aU,aV,aW,aX,aY,aZ,a8,bA,bB,bC,bD,bE,bF,bG,bH,bI,bJ,bK,bL,bM,bN,bO,bP,bQ,bS,bT,bU,bV,bW,bX,bY,bZ,b4,b6,cA,cC,cD,cE,cF,cG,cH,cI,cJ,cK,cL,cM,cN,cO,cP,cQ,cR,cT,cU,cV,cW,cX,cY,cZ,c8,dA,dB,dC,dD,dE,dF,dG,dH,dI,dJ,dK,dL,dM,dN,dO,dP,dQ,dR,dS,dT,dU,dV,dW,dX,dY,dZ,d7,eA,eB,eC,eD,eE,eF,eG,eH,eI,eJ,eK,eL,eM,eN,eO,eP,eQ,eR,eS,eT,eU,eV,eW,eX,eY,eZ,fA,fB,fC,fD,fE,fF,fG,fH,fI,fJ,fK,fL,fM,fN,fO,fP,fQ,fR,fS,fT,fU,fV,fW,fX,fY,fZ,gA,gC,gD,gE,gF,gG,gH,gI,gJ,gK,gL,gM,gN,gO,gP,gQ,gR,gS,gT,gU,gV,gW,gX,gY,gZ,g9,hJ,hY,hZ,iA,iB,iC,iD,iE,iF,iG,iH,iI,iJ,iK,iL,iM,iO,iP,iQ,iR,pR,pS,pT,pU,pV,pW,pX,pY],[]⟩ w:=by
 have HK:=Lh k
 have q1:(i+j) / 2≤1000:=by omega
 clear k
 conv=>arg 2;whnf
 go_wp2
 exact HK.out _ _ _ _ _ _
set_option maxHeartbeats 4000000 in
theorem sm_r34 {i j:Nat} (w:World) (Q:Exit→Act→World→Prop) (hi:i≤1000) (hj:j≤1000)
   (k:∀ (oS oT oU oV nB nC:Value),Q .normal ⟨#[aB,aA,kV,kW,aC,aD,kX,kY,kZ,lA,lB,lC,aE,aF,aG,aH,aI,aJ,aK,aL,.int .i64 (i:Nat),.int .i64 (j:Nat),aO,.int .i64 (((i+j) / 2:Nat):Int),aQ,aR,aS,aT,aU,aV,aW,aX,aY,aZ,a8,bA,bB,bC,bD,bE,bF,bG,bH,bI,bJ,bK,bL,bM,bN,bO,bP,bQ,bS,bT,bU,bV,bW,bX,bY,bZ,b4,b6,cA,cC,cD,cE,cF,cG,cH,cI,cJ,cK,cL,cM,cN,cO,cP,cQ,cR,cT,cU,cV,cW,cX,cY,cZ,c8,dA,dB,dC,dD,dE,dF,dG,dH,dI,dJ,dK,dL,dM,dN,dO,dP,dQ,dR,dS,dT,dU,dV,dW,dX,dY,dZ,d7,eA,eB,eC,eD,eE,eF,eG,eH,eI,eJ,eK,eL,eM,eN,eO,eP,eQ,eR,eS,eT,eU,eV,eW,eX,eY,eZ,fA,fB,fC,fD,fE,fF,fG,fH,fI,fJ,fK,fL,oS,oT,oU,oV,nB,nC,fS,fT,fU,fV,fW,fX,fY,fZ,gA,gC,gD,gE,gF,gG,gH,gI,gJ,gK,gL,gM,gN,gO,gP,gQ,gR,gS,gT,gU,gV,gW,gX,gY,gZ,g9,hJ,hY,hZ,iA,iB,iC,iD,iE,iF,iG,iH,iI,iJ,iK,iL,iM,iO,iP,iQ,iR,pR,pS,pT,pU,pV,pW,pX,pY],[]⟩ w):(partR Tryd.f73 34).wp Tryd.prog Q ⟨#[aB,aA,kV,kW,aC,aD,kX,kY,kZ,lA,lB,lC,aE,aF,aG,aH,aI,aJ,aK,aL,.int .i64 (i:Nat),.int .i64 (j:Nat),aO,aP,aQ,aR,aS,aT,aU,aV,aW,aX,aY,aZ,a8,bA,bB,bC,bD,bE,bF,bG,bH,bI,bJ,bK,bL,bM,bN,bO,bP,bQ,bS,bT,bU,bV,bW,bX,bY,bZ,b4,b6,cA,cC,cD,cE,cF,cG,cH,cI,cJ,cK,cL,cM,cN,cO,cP,cQ,cR,cT,cU,cV,cW,cX,cY,cZ,c8,dA,dB,dC,dD,dE,dF,dG,dH,dI,dJ,dK,dL,dM,dN,dO,dP,dQ,dR,dS,dT,dU,dV,dW,dX,dY,dZ,d7,eA,eB,eC,eD,eE,eF,eG,eH,eI,eJ,eK,eL,eM,eN,eO,eP,eQ,eR,eS,eT,eU,eV,eW,eX,eY,eZ,fA,fB,fC,fD,fE,fF,fG,fH,fI,fJ,fK,fL,fM,fN,fO,fP,fQ,fR,fS,fT,fU,fV,fW,fX,fY,fZ,gA,gC,gD,gE,gF,gG,gH,gI,gJ,gK,gL,gM,gN,gO,gP,gQ,gR,gS,gT,gU,gV,gW,gX,gY,gZ,g9,hJ,hY,hZ,iA,iB,iC,iD,iE,iF,iG,iH,iI,iJ,iK,iL,iM,iO,iP,iQ,iR,pR,pS,pT,pU,pV,pW,pX,pY],[]⟩ w:=by
 have HK:=Lh k
 have q1:(i+j) / 2≤1000:=by omega
 clear k
 conv=>arg 2;whnf
 go_wp2
 exact HK.out _ _ _ _ _ _
set_option maxHeartbeats 4000000 in
theorem sm_r24 {i j:Nat} (w:World) (Q:Exit→Act→World→Prop) (hi:i≤1000) (hj:j≤1000)
   (k:∀ (kS kT kU m5 m6 m7:Value),Q .normal ⟨#[aB,.int .i64 (i:Nat),kV,.int .i64 (j:Nat),aC,aD,kX,kY,kZ,lA,lB,lC,aE,aF,aG,aH,aI,aJ,.int .i64 (((i+j) / 2:Nat):Int),aL,aM,aN,aO,aP,aQ,aR,aS,aT,aU,aV,aW,aX,aY,aZ,a8,bA,bB,bC,bD,bE,bF,bG,bH,bI,bJ,bK,bL,bM,bN,bO,bP,bQ,bS,bT,bU,bV,bW,bX,bY,bZ,b4,b6,cA,cC,cD,cE,cF,cG,cH,cI,cJ,cK,cL,cM,cN,cO,cP,cQ,cR,cT,cU,cV,cW,cX,cY,cZ,c8,dA,dB,dC,dD,dE,dF,dG,dH,dI,dJ,dK,dL,dM,dN,dO,dP,dQ,dR,dS,dT,dU,dV,dW,dX,dY,dZ,d7,eA,eB,eC,eD,eE,eF,eG,eH,eI,eJ,eK,eL,eM,eN,eO,kS,kT,kU,m5,m6,m7,eV,eW,eX,eY,eZ,fA,fB,fC,fD,fE,fF,fG,fH,fI,fJ,fK,fL,fM,fN,fO,fP,fQ,fR,fS,fT,fU,fV,fW,fX,fY,fZ,gA,gC,gD,gE,gF,gG,gH,gI,gJ,gK,gL,gM,gN,gO,gP,gQ,gR,gS,gT,gU,gV,gW,gX,gY,gZ,g9,hJ,hY,hZ,iA,iB,iC,iD,iE,iF,iG,iH,iI,iJ,iK,iL,iM,iO,iP,iQ,iR,pR,pS,pT,pU,pV,pW,pX,pY],[]⟩ w):(partR Tryd.f73 24).wp Tryd.prog Q ⟨#[aB,.int .i64 (i:Nat),kV,.int .i64 (j:Nat),aC,aD,kX,kY,kZ,lA,lB,lC,aE,aF,aG,aH,aI,aJ,aK,aL,aM,aN,aO,aP,aQ,aR,aS,aT,aU,aV,aW,aX,aY,aZ,a8,bA,bB,bC,bD,bE,bF,bG,bH,bI,bJ,bK,bL,bM,bN,bO,bP,bQ,bS,bT,bU,bV,bW,bX,bY,bZ,b4,b6,cA,cC,cD,cE,cF,cG,cH,cI,cJ,cK,cL,cM,cN,cO,cP,cQ,cR,cT,cU,cV,cW,cX,cY,cZ,c8,dA,dB,dC,dD,dE,dF,dG,dH,dI,dJ,dK,dL,dM,dN,dO,dP,dQ,dR,dS,dT,dU,dV,dW,dX,dY,dZ,d7,eA,eB,eC,eD,eE,eF,eG,eH,eI,eJ,eK,eL,eM,eN,eO,eP,eQ,eR,eS,eT,eU,eV,eW,eX,eY,eZ,fA,fB,fC,fD,fE,fF,fG,fH,fI,fJ,fK,fL,fM,fN,fO,fP,fQ,fR,fS,fT,fU,fV,fW,fX,fY,fZ,gA,gC,gD,gE,gF,gG,gH,gI,gJ,gK,gL,gM,gN,gO,gP,gQ,gR,gS,gT,gU,gV,gW,gX,gY,gZ,g9,hJ,hY,hZ,iA,iB,iC,iD,iE,iF,iG,iH,iI,iJ,iK,iL,iM,iO,iP,iQ,iR,pR,pS,pT,pU,pV,pW,pX,pY],[]⟩ w:=by
 have HK:=Lh k
 have q1:(i+j) / 2≤1000:=by omega
 clear k
 conv=>arg 2;whnf
 go_wp2
 exact HK.out _ _ _ _ _ _
end Go.Proofs.YtppoiahhaclleaaDoor
namespace Go.Proofs.YtppoiahhaclleaaDoor
open Go.RowKit
set_option maxRecDepth 100000
variable {aA kV kW aD kX kY kZ lA lB lC aE aF aG aH aI aJ aK aL aM aN aQ aR aS aT aU aV aW aX aY aZ a8 bA bB bC bD bE bF bG bH bI bJ bK bL bM bN bO bP bQ bS bT bU bV bW bX bY bZ b4 b6 cA cC cD cE cF cG cH cI cJ cK cL cM cN cO cP cQ cR cT cU cV cW cX cY cZ c8 dA dB dC dD dE dF dG dH dI dJ dK dL dM dN dO dP dQ dR dS dT dU dV dW dX dY dZ d7 eA eB eC eD eE eF eG eH eI eJ eK eL eM eN eO eP eQ eR eS eT eU eV eW eX eY eZ fA fB fC fD fE fF fG fH fI fJ fK fL fM fN fO fP fQ fR fS fT fU fV fW fX fY fZ gA gC gD gE gF gG gH gI gJ gK gL gM gN gO gP gQ gR gS gT gU gV gW gX gY gZ g9 hJ hY hZ iA iB iC iD iE iF iG iH iI iJ iK iL iM iO iP iQ iR pR pS pT pU pV pW pX pY : Value}
set_option maxHeartbeats 4000000 in
theorem sm_r35 {g n c gb gs m p i:Nat} {sp:List (Int×Int)} {l:List Int} {rest:List Value} (w:World) (Q:Exit→Act→World→Prop) (hr:OrdAt w g l rest) (hl:l.length=n) (hk:KeysAt w gb gs m sp) (hm:m≤1000) (hn:n≤1000) (hmem:∀ x∈l,0≤x∧x < (m:Int)) (ha:i≤p) (hb:p - i < n) (hi:i < n)
   (k:∀ (nD nE nF nG nH nI nJ nK nL nM nN nO nP:Value) (w':World),OrdAt w' g l rest∧Below w.heap.size w w'→Q .normal ⟨#[.slice (some ⟨g,0,none⟩) n c,aA,kV,kW,.func (.func 35) #[] #[.pointer (some ⟨gb,0,none⟩)],aD,kX,kY,kZ,lA,lB,lC,aE,aF,aG,aH,aI,aJ,aK,aL,aM,aN,.int .i64 (p:Nat),.int .i64 (i:Nat),aQ,aR,aS,aT,aU,aV,aW,aX,aY,aZ,a8,bA,bB,bC,bD,bE,bF,bG,bH,bI,bJ,bK,bL,bM,bN,bO,bP,bQ,bS,bT,bU,bV,bW,bX,bY,bZ,b4,b6,cA,cC,cD,cE,cF,cG,cH,cI,cJ,cK,cL,cM,cN,cO,cP,cQ,cR,cT,cU,cV,cW,cX,cY,cZ,c8,dA,dB,dC,dD,dE,dF,dG,dH,dI,dJ,dK,dL,dM,dN,dO,dP,dQ,dR,dS,dT,dU,dV,dW,dX,dY,dZ,d7,eA,eB,eC,eD,eE,eF,eG,eH,eI,eJ,eK,eL,eM,eN,eO,eP,eQ,eR,eS,eT,eU,eV,eW,eX,eY,eZ,fA,fB,fC,fD,fE,fF,fG,fH,fI,fJ,fK,fL,fM,fN,fO,fP,fQ,fR,nD,nE,nF,nG,nH,nI,nJ,nK,nL,nM,nN,nO,nP,.bool (!decide (keyF sp (l.getD (p - i) 0) < keyF sp (l.getD i 0))),gH,gI,gJ,gK,gL,gM,gN,gO,gP,gQ,gR,gS,gT,gU,gV,gW,gX,gY,gZ,g9,hJ,hY,hZ,iA,iB,iC,iD,iE,iF,iG,iH,iI,iJ,iK,iL,iM,iO,iP,iQ,iR,pR,pS,pT,pU,pV,pW,pX,pY],[]⟩ w'):(partR Tryd.f73 35).wp Tryd.prog Q ⟨#[.slice (some ⟨g,0,none⟩) n c,aA,kV,kW,.func (.func 35) #[] #[.pointer (some ⟨gb,0,none⟩)],aD,kX,kY,kZ,lA,lB,lC,aE,aF,aG,aH,aI,aJ,aK,aL,aM,aN,.int .i64 (p:Nat),.int .i64 (i:Nat),aQ,aR,aS,aT,aU,aV,aW,aX,aY,aZ,a8,bA,bB,bC,bD,bE,bF,bG,bH,bI,bJ,bK,bL,bM,bN,bO,bP,bQ,bS,bT,bU,bV,bW,bX,bY,bZ,b4,b6,cA,cC,cD,cE,cF,cG,cH,cI,cJ,cK,cL,cM,cN,cO,cP,cQ,cR,cT,cU,cV,cW,cX,cY,cZ,c8,dA,dB,dC,dD,dE,dF,dG,dH,dI,dJ,dK,dL,dM,dN,dO,dP,dQ,dR,dS,dT,dU,dV,dW,dX,dY,dZ,d7,eA,eB,eC,eD,eE,eF,eG,eH,eI,eJ,eK,eL,eM,eN,eO,eP,eQ,eR,eS,eT,eU,eV,eW,eX,eY,eZ,fA,fB,fC,fD,fE,fF,fG,fH,fI,fJ,fK,fL,fM,fN,fO,fP,fQ,fR,fS,fT,fU,fV,fW,fX,fY,fZ,gA,gC,gD,gE,gF,gG,gH,gI,gJ,gK,gL,gM,gN,gO,gP,gQ,gR,gS,gT,gU,gV,gW,gX,gY,gZ,g9,hJ,hY,hZ,iA,iB,iC,iD,iE,iF,iG,iH,iI,iJ,iK,iL,iM,iO,iP,iQ,iR,pR,pS,pT,pU,pV,pW,pX,pY],[]⟩ w:=by
 have HI:=Lh hr
 have HK:=Lh k
 have HKW:=Lh (hk.next (Below.refl _ _).drew)
 obtain ⟨x,hx⟩:∃ s,l[p - i]? = some s:=⟨_,List.getElem?_eq_getElem (by omega)⟩
 obtain ⟨y,hy⟩:∃ s,l[i]? = some s:=⟨_,List.getElem?_eq_getElem (by omega)⟩
 have mx:=hmem x (List.mem_of_getElem? hx)
 have my:=hmem y (List.mem_of_getElem? hy)
 have gx:l.getD (p - i) 0=x:=by rw [List.getD_eq_getElem?_getD,hx];rfl
 have gy:l.getD (i) 0=y:=by rw [List.getD_eq_getElem?_getD,hy];rfl
 rw [gx,gy] at HK
 have HC:=cmp_any x y w.drew HKW.out hm mx.1 mx.2 my.1 my.2
 obtain ⟨q,hq⟩:∃ q,Lib.compareInt (keyF sp x) (keyF sp y)=q:=⟨_,rfl⟩
 have hlt:decide (q < 0)=decide (keyF sp x < keyF sp y):=by rw [←hq];exact cmp_lt _ _
 rw [←hlt] at HK
 rw [hq] at HC
 have HCM:=Lh HC
 obtain ⟨iN,hiN⟩:∃ q,q=p - i:=⟨_,rfl⟩
 obtain ⟨jN,hjN⟩:∃ q,q=i:=⟨_,rfl⟩
 have ei:((iN:Int)).toNat=iN:=by omega
 have pi:(0:Int)≤(iN:Int):=by omega
 have bi:(iN:Int) < (n:Int):=by omega
 have ri:IntKind.i64.wrap ((iN:Int))=(iN:Int):=by rw [IntKind.wrap_i64];omega
 have ej:((i:Int)).toNat=jN:=by omega
 have pj:(0:Int)≤(i:Int):=by omega
 have bj:(i:Int) < (n:Int):=by omega
 have rj:IntKind.i64.wrap ((i:Int))=(i:Int):=by rw [IntKind.wrap_i64];omega
 have hpi2:((p:Int) - (i:Int))=(iN:Int):=by omega
 have HX:=Lh (And.intro hx hy)
 rw [←hiN,←hjN] at HX
 clear hr hl k hk hmem hx hy hiN hjN mx my gx gy HC hq hlt hb hi
 conv=>arg 2;whnf
 go_wp2_with fail
 (refine wp_region_lines (fun w_=>OrdAt w_ g l rest) (by kernel_rfl) (by kernel_rfl) (HI.out.next (Below.refl _ _).drew) ?_)
 (try simp only [])
 repeat (first | (refine runL_no (by rfl) ?_;(try simp only [Act.put,List.setIfInBounds_toArray,List.set_cons_zero,List.set_cons_succ])) | (refine runL_val (v:=?_) (by rfl) ?_ ?_;rotate_left;(focus (intro w_ hw_;have f1_:=hw_.cell HX.out.1;have f2_:=hw_.cell HX.out.2;go_simp;(try with_reducible rfl);done));(try simp only [Act.put,List.setIfInBounds_toArray,List.set_cons_zero,List.set_cons_succ])) | (refine runL_call (f:=?_) (args:=?_) (w1:=?_) (by rfl) (by rfl) ?_ ?_;rotate_left 3;(focus (go_simp;refine ⟨⟨?_,?_⟩,?_⟩ <;> with_reducible rfl));(with_reducible refine (HCM.out).mono ?_);rintro e w1 ⟨rfl,hb⟩;have HB6:=Lh ((Below.refl w.heap.size w).drew.trans hb);clear hb;refine ⟨_,rfl,.inr (HI.out.next HB6.out),?_⟩;(try simp only [Act.put,List.setIfInBounds_toArray,List.set_cons_zero,List.set_cons_succ])))
 (refine runL_nil ?_)
 exact HK.out _ _ _ _ _ _ _ _ _ _ _ _ _ _ ⟨HI.out.next HB6.out,HB6.out⟩
end Go.Proofs.YtppoiahhaclleaaDoor
namespace Go.Proofs.YtppoiahhaclleaaDoor
open Go.RowKit
def Srt (key:Int→Int) (l:List Int):Prop:=l.Pairwise fun x y=>key x≤key y
theorem srt_app {key:Int→Int} {a b:List Int}:Srt key (a++b)↔Srt key a∧Srt key b∧∀ x∈a,∀ y∈b,key x≤key y:=List.pairwise_append
theorem swap_app (A M B:List Int) (s t:Int):swapL (A++s :: (M++t :: B)) A.length (A.length+1+M.length)=A++t :: (M++s :: B):=by
 unfold swapL
 have h1:(A++s :: (M++t :: B)).getD (A.length+1+M.length) 0=t:=by
   rw [List.getD_eq_getElem?_getD,List.getElem?_append_right (by omega),show A.length+1+M.length - A.length=M.length+1 by omega,List.getElem?_cons_succ,List.getElem?_append_right (Nat.le_refl _),Nat.sub_self];rfl
 have h2:(A++s :: (M++t :: B)).getD A.length 0=s:=by
   rw [List.getD_eq_getElem?_getD,List.getElem?_append_right (Nat.le_refl _),Nat.sub_self];rfl
 rw [h1,h2,List.set_append_right _ _ (Nat.le_refl _),Nat.sub_self,List.set_cons_zero,List.set_append_right _ _ (by omega),show A.length+1+M.length - A.length=M.length+1 by omega,List.set_cons_succ,List.set_append_right _ _ (Nat.le_refl _),Nat.sub_self,List.set_cons_zero]
theorem swap_app' (A M B:List Int) (s t:Int):swapL (A++s :: (M++t :: B)) (A.length+1+M.length) A.length=A++t :: (M++s :: B):=by
 unfold swapL
 have h1:(A++s :: (M++t :: B)).getD (A.length+1+M.length) 0=t:=by
   rw [List.getD_eq_getElem?_getD,List.getElem?_append_right (by omega),show A.length+1+M.length - A.length=M.length+1 by omega,List.getElem?_cons_succ,List.getElem?_append_right (Nat.le_refl _),Nat.sub_self];rfl
 have h2:(A++s :: (M++t :: B)).getD A.length 0=s:=by
   rw [List.getD_eq_getElem?_getD,List.getElem?_append_right (Nat.le_refl _),Nat.sub_self];rfl
 rw [h1,h2,List.set_append_right _ _ (by omega),show A.length+1+M.length - A.length=M.length+1 by omega,List.set_cons_succ,List.set_append_right _ _ (Nat.le_refl _),Nat.sub_self,List.set_cons_zero,List.set_append_right _ _ (Nat.le_refl _),Nat.sub_self,List.set_cons_zero]
theorem sift_app (key:Int→Int) (x:List Int) (t:Int):∀ (m:Nat) (p y:List Int),p.length=m→Srt key p →
   ∃ s,s.Perm (p++[t])∧Srt key s∧siftF key x.length (x++p++t :: y) (x.length+m)=x++s++y:=by
 intro m
 induction m with
 | zero =>
   intro p y hp hs
   obtain rfl:=List.eq_nil_of_length_eq_zero hp
   exact ⟨[t],List.Perm.refl _,List.pairwise_singleton _ _,by rw [Nat.add_zero,siftF_end (by omega)];simp⟩
 | succ m ih =>
   intro p y hp hs
   obtain ⟨p',q,rfl⟩:∃ p' q,p=p'++[q]:=⟨p.dropLast,p.getLast (by intro e;rw [e] at hp;cases hp),(List.dropLast_concat_getLast _).symm⟩
   have hp':p'.length=m:=by simpa using hp
   have hl:x++(p'++[q])++t :: y=(x++p')++q :: ([]++t :: y):=by simp
   have hxl:(x++p').length=x.length+m:=by simp [hp']
   have hx1:(x++(p'++[q])++t :: y)[x.length+m+1]? = some t:=by
     rw [hl,List.getElem?_append_right (by omega),hxl,show x.length+m+1 - (x.length+m)=1 by omega];rfl
   have hy1:(x++(p'++[q])++t :: y)[x.length+m]? = some q:=by
     rw [hl,List.getElem?_append_right (by omega),hxl,Nat.sub_self];rfl
   have hs':=srt_app.1 hs
   by_cases hlt:key t < key q
   · obtain ⟨s,h1,h2,h3⟩:=ih p' (q :: y) hp' hs'.1
     refine ⟨s++[q],?_,?_,?_⟩
     · refine (h1.append_right [q]).trans ?_
       simp only [List.append_assoc]
       exact List.Perm.append_left p' (List.Perm.swap _ _ _)
     · refine srt_app.2 ⟨h2,List.pairwise_singleton _ _,fun a ha b hb=>?_⟩
       obtain rfl:=List.mem_singleton.1 hb
       rcases List.mem_append.1 (h1.mem_iff.1 ha) with h | h
       · exact hs'.2.2 a h b (List.mem_singleton.2 rfl)
       · obtain rfl:=List.mem_singleton.1 h
         omega
     · rw [show x.length+(m+1)=x.length+m+1 by omega,siftF_go (by omega) hx1 hy1 hlt,hl]
       have:=swap_app' (x++p') [] y q t
       rw [hxl] at this
       simp only [List.length_nil,Nat.add_zero] at this
       rw [this]
       have h4:x++p'++t :: ([]++q :: y)=x++p'++t :: (q :: y):=by simp
       rw [h4,h3]
       simp
   · refine ⟨(p'++[q])++[t],List.Perm.refl _,srt_app.2 ⟨hs,List.pairwise_singleton _ _,fun a ha b hb=>?_⟩,?_⟩
     · obtain rfl:=List.mem_singleton.1 hb
       rcases List.mem_append.1 ha with h | h
       · have:=hs'.2.2 a h q (List.mem_singleton.2 rfl);omega
       · obtain rfl:=List.mem_singleton.1 h;omega
     · rw [show x.length+(m+1)=x.length+m+1 by omega,siftF_no hx1 hy1 hlt]
       simp
theorem ins_app (key:Int→Int) (x y:List Int):∀ (m:Nat) (p r:List Int),r.length=m→Srt key p →
   ∃ s,s.Perm (p++r)∧Srt key s∧insF key x.length m (x.length+p.length) (x++p++r++y)=x++s++y:=by
 intro m
 induction m with
 | zero =>
   intro p r hr hs
   obtain rfl:=List.eq_nil_of_length_eq_zero hr
   exact ⟨p,by simp,hs,by rw [insF];simp⟩
 | succ m ih =>
   intro p r hr hs
   obtain ⟨t,r',rfl⟩:∃ t r',r=t :: r':=by
     cases r with
     | nil=>cases hr
     | cons t r'=>exact ⟨t,r',rfl⟩
   obtain ⟨s,h1,h2,h3⟩:=sift_app key x t p.length p (r'++y) rfl hs
   obtain ⟨s',g1,g2,g3⟩:=ih s r' (by simpa using hr) h2
   refine ⟨s',?_,g2,?_⟩
   · refine g1.trans ((h1.append_right r').trans ?_)
     simp
   · rw [insF]
     have e1:x++p++t :: r'++y=x++p++t :: (r'++y):=by simp
     have e2:x.length+p.length+1=x.length+s.length:=by rw [h1.length_eq];simp;omega
     rw [e1,h3,e2]
     have e3:x++s++(r'++y)=x++s++r'++y:=by simp
     rw [e3,g3]
theorem ins_part (key:Int→Int) (x s y:List Int):∃ s',s'.Perm s∧Srt key s'∧insF key x.length (s.length - 1) (x.length+1) (x++s++y)=x++s'++y:=by
 cases s with
 | nil=>exact ⟨[],List.Perm.refl _,List.Pairwise.nil,by simp [insF]⟩
 | cons t s =>
   obtain ⟨s',h1,h2,h3⟩:=ins_app key x y s.length [t] s rfl (List.pairwise_singleton _ _)
   refine ⟨s',h1,h2,?_⟩
   have e:x++[t]++s++y=x++t :: s++y:=by simp
   rw [e] at h3
   exact h3
theorem merge_sorted {key:Int→Int} {aA kV p4 mZ s1 s2:List Int} (h1:s1.Perm (aA++p4)) (h2:s2.Perm (kV++mZ)) (c1:Srt key aA→Srt key p4→Srt key s1) (c2:Srt key kV→Srt key mZ→Srt key s2)
   (hu:Srt key (aA++kV)) (hv:Srt key (p4++mZ)) (huv:∀ x∈aA,∀ y∈mZ,key x≤key y) (hvu:∀ x∈p4,∀ y∈kV,key x≤key y):Srt key (s1++s2):=by
 have a:=srt_app.1 hu
 have b:=srt_app.1 hv
 refine srt_app.2 ⟨c1 a.1 b.1,c2 a.2.1 b.2.1,fun x hx y hy=>?_⟩
 rcases List.mem_append.1 (h1.mem_iff.1 hx) with h | h <;> rcases List.mem_append.1 (h2.mem_iff.1 hy) with g | g
 · exact a.2.2 x h y g
 · exact huv x h y g
 · exact hvu x h y g
 · exact b.2.2 x h y g
theorem merge_perm {aA kV p4 mZ s1 s2:List Int} (h1:s1.Perm (aA++p4)) (h2:s2.Perm (kV++mZ)):(s1++s2).Perm ((aA++kV)++(p4++mZ)):=by
 refine (h1.append h2).trans ?_
 rw [List.append_assoc,List.append_assoc]
 refine List.Perm.append_left aA ?_
 rw [←List.append_assoc,←List.append_assoc]
 exact (List.perm_append_comm).append_right mZ
end Go.Proofs.YtppoiahhaclleaaDoor
