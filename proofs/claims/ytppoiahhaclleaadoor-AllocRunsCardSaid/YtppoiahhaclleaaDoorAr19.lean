/- Part 19 of a claim; what it proves stands in its last text. -/
import Derived.Test.YtppoiahhaclleaaDoorAr13
import Derived.Test.YtppoiahhaclleaaDoorAr18
namespace Go.Proofs.YtppoiahhaclleaaDoor
open Go.RowKit
set_option maxRecDepth 100000
variable {aB aA kW aC aD kX kY kZ lA lB lC aE aF aG aH aI aJ aK aL aM aN aO aP aQ aR aS aT aU aV aW aX aY aZ a8 bA bB bC bD bE bF bG bH bI bJ bK bL bM bN bO bP bQ bS bT bU bV bW bX bY bZ b4 b6 cA cC cD cE cF cG cH cI cJ cK cL cM cN cO cP cQ cR cT cU cV cW cX cY cZ c8 dA dB dC dD dE dF dG dH dI : Value}
def meetsF (s t:Int×Int):Bool:=decide (0≤s.1) && (decide (0≤t.1) && (decide (s.1≤t.2) && decide (t.1≤s.2)))
def badP (pool:Int) (s:Int×Int) (pl:Int):Bool:=decide (0≤s.1) && (decide (pool≤pl) || decide (pl < -64))
def clashP (s t:Int×Int) (a b:Int):Bool:=a == b && meetsF s t
set_option maxHeartbeats 4000000 in
theorem meets_any (s t:Int×Int) (w:World):Calls Tryd.prog 46 #[.agg #[.int .i64 s.1,.int .i64 s.2],.agg #[.int .i64 t.1,.int .i64 t.2]] w fun e w'=>e=.returned (.bool (meetsF s t))∧Below w.heap.size w w':=by
 obtain ⟨W,hW⟩:∃ q,q=(w.alloc (.cells #[.int .i64 s.1,.int .i64 s.2] 68)).alloc (.cells #[.int .i64 t.1,.int .i64 t.2] 68):=⟨_,rfl⟩
 have hb:Below w.heap.size w W:=by rw [hW];exact ((Below.refl _ _).alloc (Nat.le_refl _) _).alloc (by simp) _
 have z1:(w.alloc (.cells #[.int .i64 s.1,.int .i64 s.2] 68)).heap.size=w.heap.size+1:=by simp
 have hz:W.heap.size=w.heap.size+1+1:=by rw [hW];simp
 have h1:W.heap[w.heap.size]? = some (.cells #[.int .i64 s.1,.int .i64 s.2] 68 (0,0)):=by rw [hW];exact (Below.heap_alloc _ _ _ (by omega)).trans (heap_alloc_new w _)
 have h2:W.heap[w.heap.size+1]? = some (.cells #[.int .i64 t.1,.int .i64 t.2] 68 (0,0)):=by rw [hW,←z1];exact heap_alloc_new _ _
 have HLS:=Lh (live_any s)
 have HLT:=Lh (live_any t)
 obtain ⟨a,ha⟩:∃ a,s.1=a:=⟨_,rfl⟩
 obtain ⟨b,hb2⟩:∃ a,s.2=a:=⟨_,rfl⟩
 obtain ⟨c,hc⟩:∃ a,t.1=a:=⟨_,rfl⟩
 obtain ⟨d,hd⟩:∃ a,t.2=a:=⟨_,rfl⟩
 have hv:meetsF s t=(decide (0≤a) && (decide (0≤c) && (decide (a≤d) && decide (c≤b)))):=by unfold meetsF;rw [ha,hb2,hc,hd]
 obtain ⟨res,hres⟩:∃ x,meetsF s t=x:=⟨_,rfl⟩
 rw [hres] at hv ⊢
 have HR:=Lh hv
 rw [ha,hb2] at HLS h1 hW ⊢
 rw [hc,hd] at HLT h2 hW ⊢
 have s0:W.cell? ⟨w.heap.size,0,none⟩=some (.int .i64 a):=by simp only [World.cell?,h1];rfl
 have s1:W.cell? ⟨w.heap.size,1,none⟩=some (.int .i64 b):=by simp only [World.cell?,h1];rfl
 have t0:W.cell? ⟨w.heap.size+1,0,none⟩=some (.int .i64 c):=by simp only [World.cell?,h2];rfl
 have t1:W.cell? ⟨w.heap.size+1,1,none⟩=some (.int .i64 d):=by simp only [World.cell?,h2];rfl
 have HC:=Lh (And.intro s0 (And.intro s1 (And.intro t0 t1)))
 have HW:=Lh hW
 have HB:=Lh hb
 have HZ:=Lh hz
 have l0:w.heap.size < W.heap.size:=by omega
 have l1:w.heap.size+1 < W.heap.size:=by omega
 clear hW hb z1 hz h1 h2 ha hb2 hc hd hv hres
 cases d0:decide (0≤a)
 · rw [d0] at HLS
   go_enter Tryd.func46,Tryd.ntmps46
   go_upto_region 1 with fail
   rw [←HW.out]
   go_wp2_with ((with_reducible refine (HLS.out _).mono ?_);rintro e w1 ⟨rfl,hb1⟩)
   go_ret
   exact ⟨ret_bool (by rw [HR.out,d0];rfl),HB.out.trans (hb1.mono HB.out.size)⟩
 rw [d0] at HLS
 go_enter Tryd.func46,Tryd.ntmps46
 go_upto_region 1 with fail
 rw [←HW.out]
 cases d1:decide (0≤c)
 · rw [d1] at HLT
   go_wp2_with (first | ((with_reducible refine (HLS.out _).mono ?_);rintro e w1 ⟨rfl,hb1⟩;have t0:=(hb1.cell (p:=⟨w.heap.size+1,0,none⟩) l1).trans HC.out.2.2.1;have t1:=(hb1.cell (p:=⟨w.heap.size+1,1,none⟩) l1).trans HC.out.2.2.2) | ((with_reducible refine (HLT.out _).mono ?_);rintro e w2 ⟨rfl,hb2⟩))
   go_ret
   exact ⟨ret_bool (by rw [HR.out,d0,d1];rfl),HB.out.trans ((hb1.trans (hb2.mono hb1.size)).mono HB.out.size)⟩
 rw [d1] at HLT
 cases d2:decide (a≤d)
 · go_wp2_with (first | ((with_reducible refine (HLS.out _).mono ?_);rintro e w1 ⟨rfl,hb1⟩;have t0:=(hb1.cell (p:=⟨w.heap.size+1,0,none⟩) l1).trans HC.out.2.2.1;have t1:=(hb1.cell (p:=⟨w.heap.size+1,1,none⟩) l1).trans HC.out.2.2.2) | ((with_reducible refine (HLT.out _).mono ?_);rintro e w2 ⟨rfl,hb2⟩;have HB2:=Lh (hb1.trans (hb2.mono hb1.size));have r0:=(HB2.out.cell (p:=⟨w.heap.size,0,none⟩) l0).trans HC.out.1;have r1:=(HB2.out.cell (p:=⟨w.heap.size,1,none⟩) l0).trans HC.out.2.1;have r2:=(HB2.out.cell (p:=⟨w.heap.size+1,0,none⟩) l1).trans HC.out.2.2.1;have r3:=(HB2.out.cell (p:=⟨w.heap.size+1,1,none⟩) l1).trans HC.out.2.2.2))
   go_ret
   exact ⟨ret_bool (by rw [HR.out,d0,d1,d2];rfl),HB.out.trans (HB2.out.mono HB.out.size)⟩
 cases d3:decide (c≤b)
 · go_wp2_with (first | ((with_reducible refine (HLS.out _).mono ?_);rintro e w1 ⟨rfl,hb1⟩;have t0:=(hb1.cell (p:=⟨w.heap.size+1,0,none⟩) l1).trans HC.out.2.2.1;have t1:=(hb1.cell (p:=⟨w.heap.size+1,1,none⟩) l1).trans HC.out.2.2.2) | ((with_reducible refine (HLT.out _).mono ?_);rintro e w2 ⟨rfl,hb2⟩;have HB2:=Lh (hb1.trans (hb2.mono hb1.size));have r0:=(HB2.out.cell (p:=⟨w.heap.size,0,none⟩) l0).trans HC.out.1;have r1:=(HB2.out.cell (p:=⟨w.heap.size,1,none⟩) l0).trans HC.out.2.1;have r2:=(HB2.out.cell (p:=⟨w.heap.size+1,0,none⟩) l1).trans HC.out.2.2.1;have r3:=(HB2.out.cell (p:=⟨w.heap.size+1,1,none⟩) l1).trans HC.out.2.2.2))
   go_ret
   exact ⟨ret_bool (by rw [HR.out,d0,d1,d2,d3];rfl),HB.out.trans (HB2.out.mono HB.out.size)⟩
 · go_wp2_with (first | ((with_reducible refine (HLS.out _).mono ?_);rintro e w1 ⟨rfl,hb1⟩;have t0:=(hb1.cell (p:=⟨w.heap.size+1,0,none⟩) l1).trans HC.out.2.2.1;have t1:=(hb1.cell (p:=⟨w.heap.size+1,1,none⟩) l1).trans HC.out.2.2.2) | ((with_reducible refine (HLT.out _).mono ?_);rintro e w2 ⟨rfl,hb2⟩;have HB2:=Lh (hb1.trans (hb2.mono hb1.size));have r0:=(HB2.out.cell (p:=⟨w.heap.size,0,none⟩) l0).trans HC.out.1;have r1:=(HB2.out.cell (p:=⟨w.heap.size,1,none⟩) l0).trans HC.out.2.1;have r2:=(HB2.out.cell (p:=⟨w.heap.size+1,0,none⟩) l1).trans HC.out.2.2.1;have r3:=(HB2.out.cell (p:=⟨w.heap.size+1,1,none⟩) l1).trans HC.out.2.2.2))
   go_ret
   exact ⟨ret_bool (by rw [HR.out,d0,d1,d2,d3];rfl),HB.out.trans (HB2.out.mono HB.out.size)⟩
set_option maxHeartbeats 4000000 in
theorem acheck_l0 {Ap:Option Addr} {cp gs n:Nat} {pool:Int} {sp:List (Int×Int)} {pl:List Int} {G:Nat→Prop} (w:World) (Q:Exit→Act→World→Prop) (hg:SpansAt w gs sp) (hn:sp.length=n∧pl.length=n) (hp:NumsAt w G (.slice Ap n cp) pl) (hG:∀ k,G k→k < w.heap.size) (hn3:n≤1000)
   (k1:(∀ (k:Nat) (s:Int×Int) (a:Int),sp[k]? = some s→pl[k]? = some a→badP pool s a=false)→∀ (pP mN mO lH lI lJ lK lL lM lN lO lP lQ lR lS lT lU lV lW lX lY lZ l5 l6 l7 l8:Value) (w':World),Below w.heap.size w w'→Q (.exit 0) ⟨#[aB,.int .i64 pool,.slice Ap n cp,kW,aC,aD,pP,kY,kZ,lA,mN,mO,aE,aF,aG,aH,aI,aJ,aK,aL,aM,aN,aO,aP,aQ,aR,aS,aT,aU,aV,aW,aX,aY,aZ,a8,bA,bB,bC,bD,.slice (some ⟨gs,0,none⟩) n n,.int .i64 (n:Nat),lH,lI,lJ,lK,lL,lM,lN,lO,lP,lQ,lR,lS,lT,lU,lV,lW,lX,lY,lZ,l5,l6,l7,l8,cD,cE,cF,cG,cH,cI,cJ,cK,cL,cM,cN,cO,cP,cQ,cR,cT,cU,cV,cW,cX,cY,cZ,c8,dA,dB,dC,dD,dE,dF,dG,dH,dI],[]⟩ w') (k2:(∃ (k:Nat) (s:Int×Int) (a:Int),sp[k]? = some s∧pl[k]? = some a∧badP pool s a=true)→∀ (mN mO lH lI lJ lK lL lM lN lO lP lQ lR lS lT lU lV lW lX lY lZ l5 l6 l7 l8:Value) (w':World),Below w.heap.size w w'→Q (.ret) ⟨#[aB,.int .i64 pool,.slice Ap n cp,kW,aC,aD,.int .i64 2,kY,kZ,lA,mN,mO,aE,aF,aG,aH,aI,aJ,aK,aL,aM,aN,aO,aP,aQ,aR,aS,aT,aU,aV,aW,aX,aY,aZ,a8,bA,bB,bC,bD,.slice (some ⟨gs,0,none⟩) n n,.int .i64 (n:Nat),lH,lI,lJ,lK,lL,lM,lN,lO,lP,lQ,lR,lS,lT,lU,lV,lW,lX,lY,lZ,l5,l6,l7,l8,cD,cE,cF,cG,cH,cI,cJ,cK,cL,cM,cN,cO,cP,cQ,cR,cT,cU,cV,cW,cX,cY,cZ,c8,dA,dB,dC,dD,dE,dF,dG,dH,dI],[]⟩ w'):(partL Tryd.f24 0).wp Tryd.prog Q ⟨#[aB,.int .i64 pool,.slice Ap n cp,kW,aC,aD,kX,kY,kZ,lA,lB,lC,aE,aF,aG,aH,aI,aJ,aK,aL,aM,aN,aO,aP,aQ,aR,aS,aT,aU,aV,aW,aX,aY,aZ,a8,bA,bB,bC,bD,.slice (some ⟨gs,0,none⟩) n n,.int .i64 (n:Nat),.int .i64 0,bH,bI,bJ,bK,bL,bM,bN,bO,bP,bQ,bS,bT,bU,bV,bW,bX,bY,bZ,b4,b6,cA,cC,cD,cE,cF,cG,cH,cI,cJ,cK,cL,cM,cN,cO,cP,cQ,cR,cT,cU,cV,cW,cX,cY,cZ,c8,dA,dB,dC,dD,dE,dF,dG,dH,dI],[]⟩ w:=by
 have HG:=Lh hg
 have HN:=Lh hn
 have HPL:=Lh hp
 have HLT:=Lh (And.intro (lt_of_block hg) hG)
 have K1:=Lh k1
 have K2:=Lh k2
 clear hg hn hp hG k1 k2
 conv=>arg 2;whnf
 go_wp2
 go_loopw [41] (fun j wr=>∃ r:Nat,r≤n∧j=.int .i64 r∧Below w.heap.size w wr∧Hid (∀ (k:Nat) (s:Int×Int) (a:Int),k < r→sp[k]? = some s→pl[k]? = some a→badP pool s a=false)) (fun j _=>n - (intOf j).toNat)
 case atStart=>exact ⟨0,by omega,rfl,Below.refl _ _,Lh (fun k s a h=>absurd h (by omega))⟩
 case round =>
   obtain ⟨r,hr,rfl,hbl,HT⟩:=hrel
   have HBL:=Lh hbl
   clear hbl
   by_cases hlt:r < n
   · obtain ⟨s,hs⟩:∃ s,sp[r]? = some s:=⟨_,List.getElem?_eq_getElem (by have:=HN.out.1;omega)⟩
     obtain ⟨a,ha⟩:∃ s,pl[r]? = some s:=⟨_,List.getElem?_eq_getElem (by have:=HN.out.2;omega)⟩
     obtain ⟨b,o,rfl,hGb,hc⟩:=HPL.out.at_ ha
     have hsp:=(HG.out.next HBL.out).cells hs
     have hpc:=(HBL.out.cell (p:=⟨b,o+r,none⟩) (HLT.out.2 b hGb)).trans hc
     have HS:=Lh hs
     have HA:=Lh ha
     obtain ⟨x,hx⟩:∃ x,s.1=x:=⟨_,rfl⟩
     obtain ⟨y,hy⟩:∃ x,s.2=x:=⟨_,rfl⟩
     have HLV:=live_any s (wr.alloc (.cells #[.int .i64 s.1,.int .i64 s.2] 68))
     rw [hx,hy] at hsp HLV
     have hlv:=Lh HLV
     clear HLV
     have HX:=Lh (And.intro hx hy)
     have hs0:=hsp.1
     have hs1:=hsp.2
     have lb:b < wr.heap.size:=Nat.lt_of_lt_of_le (HLT.out.2 b hGb) HBL.out.size
     have hb5:Below wr.heap.size wr (wr.alloc (.cells #[.int .i64 x,.int .i64 y] 68)):=(Below.refl _ _).alloc (Nat.le_refl _) _
     have HP5:=Lh ((hb5.cell (p:=⟨b,o+r,none⟩) lb).trans hpc)
     have HB5:=Lh (HBL.out.trans (hb5.mono HBL.out.size))
     have HLB:=Lh (show b < (wr.alloc (.cells #[.int .i64 x,.int .i64 y] 68)).heap.size from Nat.lt_of_lt_of_le lb hb5.size)
     have i0:(0:Int)≤(r:Int):=by omega
     have i1:(r:Int) < (n:Int):=by omega
     clear hs ha hc hx hy hsp hb5 hGb
     cases d0:decide (0≤x)
     · rw [d0] at hlv
       have HN2:=Lh (show badP pool s a=false by unfold badP;rw [HX.out.1,d0];rfl)
       go_wp2_with ((with_reducible refine (hlv.out).mono ?_);rintro e w1 ⟨rfl,hb1⟩)
       go_roundw
       case rel=>exact ⟨r+1,by omega,by go_num,HB5.out.trans (hb1.mono HB5.out.size),Lh (fun k s' a' hk h1 h2=>by
         by_cases e:k=r
         · subst e;rw [HS.out] at h1;rw [HA.out] at h2;cases h1;cases h2;exact HN2.out
         · exact HT.out k s' a' (by omega) h1 h2)⟩
       case measure=>simp [intOf];omega
     · rw [d0] at hlv
       cases d1:decide (pool≤a)
       · cases d2:decide (a < (-64:Int))
         · have HN2:=Lh (show badP pool s a=false by unfold badP;rw [HX.out.1,d0,d1,d2];rfl)
           go_wp2_with ((with_reducible refine (hlv.out).mono ?_);rintro e w1 ⟨rfl,hb1⟩;have hp1:=(hb1.cell (p:=⟨b,o+r,none⟩) HLB.out).trans HP5.out)
           go_roundw
           case rel=>exact ⟨r+1,by omega,by go_num,HB5.out.trans (hb1.mono HB5.out.size),Lh (fun k s' a' hk h1 h2=>by
             by_cases e:k=r
             · subst e;rw [HS.out] at h1;rw [HA.out] at h2;cases h1;cases h2;exact HN2.out
             · exact HT.out k s' a' (by omega) h1 h2)⟩
           case measure=>simp [intOf];omega
         · have HN2:=Lh (show badP pool s a=true by unfold badP;rw [HX.out.1,d0,d1,d2];rfl)
           go_wp2_with ((with_reducible refine (hlv.out).mono ?_);rintro e w1 ⟨rfl,hb1⟩;have hp1:=(hb1.cell (p:=⟨b,o+r,none⟩) HLB.out).trans HP5.out)
           exact K2.out ⟨r,s,a,HS.out,HA.out,HN2.out⟩ _ _ _ _ _ _ _ _ _ _ _ _ _ _ _ _ _ _ _ _ _ _ _ _ _ _ (HB5.out.trans (hb1.mono HB5.out.size))
       · have HN2:=Lh (show badP pool s a=true by unfold badP;rw [HX.out.1,d0,d1];rfl)
         go_wp2_with ((with_reducible refine (hlv.out).mono ?_);rintro e w1 ⟨rfl,hb1⟩;have hp1:=(hb1.cell (p:=⟨b,o+r,none⟩) HLB.out).trans HP5.out)
         exact K2.out ⟨r,s,a,HS.out,HA.out,HN2.out⟩ _ _ _ _ _ _ _ _ _ _ _ _ _ _ _ _ _ _ _ _ _ _ _ _ _ _ (HB5.out.trans (hb1.mono HB5.out.size))
   · have hrn:n≤r:=by omega
     have HN2:=Lh (show ∀ (k:Nat) (s:Int×Int) (a:Int),sp[k]? = some s→pl[k]? = some a→badP pool s a=false from fun k s a h1 h2=>HT.out k s a (by have:=(List.getElem?_eq_some_iff.1 h1).1;have:=HN.out.1;omega) h1 h2)
     clear hrn
     go_wp2
     exact K1.out HN2.out _ _ _ _ _ _ _ _ _ _ _ _ _ _ _ _ _ _ _ _ _ _ _ _ _ _ _ HBL.out
structure At6 (w:World) (p q:Addr) (g h:Nat) (a b:Int) (s t:Int×Int):Prop where
 p:w.cell? p=some (.int .i64 a)
 q:w.cell? q=some (.int .i64 b)
 g:w.heap[g]? = some (.cells #[.int .i64 s.1,.int .i64 s.2] 68 (0,0))
 h:w.heap[h]? = some (.cells #[.int .i64 t.1,.int .i64 t.2] 68 (0,0))
theorem At6.next {w w':World} {p q:Addr} {g h:Nat} {a b:Int} {s t:Int×Int} (x:At6 w p q g h a b s t) (hb:Below w.heap.size w w') (hp:p.block < w.heap.size) (hq:q.block < w.heap.size):At6 w' p q g h a b s t :=
 ⟨(hb.cell hp).trans x.p,(hb.cell hq).trans x.q,(hb.block g (lt_of_block x.g)).trans x.g,(hb.block h (lt_of_block x.h)).trans x.h⟩
theorem At6.cells {w:World} {p q:Addr} {g h:Nat} {a b:Int} {s t:Int×Int} (x:At6 w p q g h a b s t):w.cell? ⟨g,0,none⟩=some (.int .i64 s.1)∧w.cell? ⟨g,1,none⟩=some (.int .i64 s.2)∧w.cell? ⟨h,0,none⟩=some (.int .i64 t.1)∧w.cell? ⟨h,1,none⟩=some (.int .i64 t.2):=by
 have h1:=x.g
 have h2:=x.h
 simp only [World.cell?,h1,h2]
 exact ⟨rfl,rfl,rfl,rfl⟩
set_option maxHeartbeats 4000000 in
theorem acheck_l4 {Ap:Option Addr} {cp gs n r g13:Nat} {a:Int} {s:Int×Int} {sp:List (Int×Int)} {pl:List Int} {G:Nat→Prop} (w:World) (Q:Exit→Act→World→Prop) (hg:SpansAt w gs sp) (hn:sp.length=n∧pl.length=n) (hp:NumsAt w G (.slice Ap n cp) pl) (hG:∀ k,G k→k < w.heap.size) (hr:r < n) (hs:sp[r]? = some s) (ha:pl[r]? = some a) (h13:w.heap[g13]? = some (.cells #[.int .i64 s.1,.int .i64 s.2] 68 (0,0))) (hn3:n≤1000)
   (k1:(∀ (i:Nat) (t:Int×Int) (b:Int),i < r→sp[i]? = some t→pl[i]? = some b→clashP s t a b=false)→∀ (pP nQ pQ mY iS iT iU iV iW iX iY iZ i7 i8 i9 jA jB jC jD jE jF jG jH:Value) (w':World),Below w.heap.size w w'→Q (.exit 4) ⟨#[aB,aA,.slice Ap n cp,kW,aC,aD,pP,kY,kZ,lA,lB,lC,.int .i64 (r:Nat),.pointer (some ⟨g13,0,none⟩),nQ,pQ,aI,aJ,aK,aL,aM,aN,aO,aP,aQ,aR,aS,aT,aU,aV,aW,aX,aY,aZ,a8,bA,bB,bC,bD,bE,bF,bG,bH,bI,bJ,bK,bL,bM,bN,bO,bP,bQ,bS,bT,bU,bV,bW,bX,bY,bZ,b4,b6,cA,cC,cD,cE,cF,cG,cH,cI,cJ,cK,cL,.slice (some ⟨gs,0,none⟩) r n,.int .i64 (r:Nat),mY,iS,iT,iU,iV,iW,iX,iY,iZ,i7,i8,i9,jA,jB,jC,jD,jE,jF,jG,jH,dI],[]⟩ w') (k2:(∃ (i:Nat) (t:Int×Int) (b:Int),i < r∧sp[i]? = some t∧pl[i]? = some b∧clashP s t a b=true)→∀ (nQ pQ mY iS iT iU iV iW iX iY iZ i7 i8 i9 jA jB jC jD jE jF jG jH:Value) (w':World),Below w.heap.size w w'→Q (.ret) ⟨#[aB,aA,.slice Ap n cp,kW,aC,aD,.int .i64 6,kY,kZ,lA,lB,lC,.int .i64 (r:Nat),.pointer (some ⟨g13,0,none⟩),nQ,pQ,aI,aJ,aK,aL,aM,aN,aO,aP,aQ,aR,aS,aT,aU,aV,aW,aX,aY,aZ,a8,bA,bB,bC,bD,bE,bF,bG,bH,bI,bJ,bK,bL,bM,bN,bO,bP,bQ,bS,bT,bU,bV,bW,bX,bY,bZ,b4,b6,cA,cC,cD,cE,cF,cG,cH,cI,cJ,cK,cL,.slice (some ⟨gs,0,none⟩) r n,.int .i64 (r:Nat),mY,iS,iT,iU,iV,iW,iX,iY,iZ,i7,i8,i9,jA,jB,jC,jD,jE,jF,jG,jH,dI],[]⟩ w'):(partL Tryd.f24 4).wp Tryd.prog Q ⟨#[aB,aA,.slice Ap n cp,kW,aC,aD,kX,kY,kZ,lA,lB,lC,.int .i64 (r:Nat),.pointer (some ⟨g13,0,none⟩),aG,aH,aI,aJ,aK,aL,aM,aN,aO,aP,aQ,aR,aS,aT,aU,aV,aW,aX,aY,aZ,a8,bA,bB,bC,bD,bE,bF,bG,bH,bI,bJ,bK,bL,bM,bN,bO,bP,bQ,bS,bT,bU,bV,bW,bX,bY,bZ,b4,b6,cA,cC,cD,cE,cF,cG,cH,cI,cJ,cK,cL,.slice (some ⟨gs,0,none⟩) r n,.int .i64 (r:Nat),.int .i64 0,cP,cQ,cR,cT,cU,cV,cW,cX,cY,cZ,c8,dA,dB,dC,dD,dE,dF,dG,dH,dI],[]⟩ w:=by
 have HG:=Lh hg
 have HN:=Lh hn
 have HPL:=Lh hp
 have HSA:=Lh (And.intro hs ha)
 have H13:=Lh h13
 have HLT:=Lh (And.intro (lt_of_block hg) hG)
 have K1:=Lh k1
 have K2:=Lh k2
 obtain ⟨bR,oR,hA,hGR,hcR⟩:=hp.at_ ha
 subst hA
 have HCR:=Lh hcR
 have HBR:=Lh (hG bR hGR)
 clear hg hn hp hG hs ha h13 k1 k2 hGR hcR
 conv=>arg 2;whnf
 go_wp2
 go_loopw [75] (fun j wr=>∃ k:Nat,k≤r∧j=.int .i64 k∧Below w.heap.size w wr∧Hid (∀ (i:Nat) (t:Int×Int) (b:Int),i < k→sp[i]? = some t→pl[i]? = some b→clashP s t a b=false)) (fun j _=>r - (intOf j).toNat)
 case atStart=>exact ⟨0,by omega,rfl,Below.refl _ _,Lh (fun k s a h=>absurd h (by omega))⟩
 case round =>
   obtain ⟨k,hk,rfl,hbl,HT⟩:=hrel
   have HBL:=Lh hbl
   clear hbl
   by_cases hlt:k < r
   · obtain ⟨t,ht⟩:∃ s,sp[k]? = some s:=⟨_,List.getElem?_eq_getElem (by have:=HN.out.1;omega)⟩
     obtain ⟨b,hb⟩:∃ s,pl[k]? = some s:=⟨_,List.getElem?_eq_getElem (by have:=HN.out.2;omega)⟩
     obtain ⟨b',o',hA',hGb,hc⟩:=HPL.out.at_ hb
     cases hA'
     have hsp:=(HG.out.next HBL.out).cells ht
     have HS:=Lh ht
     have HA:=Lh hb
     obtain ⟨W5,hW5⟩:∃ q,q=wr.alloc (.cells #[.int .i64 t.1,.int .i64 t.2] 68):=⟨_,rfl⟩
     have hb5:Below wr.heap.size wr W5:=by rw [hW5];exact (Below.refl _ _).alloc (Nat.le_refl _) _
     have HB5:=Lh (HBL.out.trans (hb5.mono HBL.out.size))
     have lb:bR < wr.heap.size:=Nat.lt_of_lt_of_le HBR.out HBL.out.size
     have H6:=Lh (show At6 W5 ⟨bR,oR+r,none⟩ ⟨bR,oR+k,none⟩ g13 wr.heap.size a b s t from ⟨(HB5.out.cell (p:=⟨bR,oR+r,none⟩) HBR.out).trans HCR.out,(HB5.out.cell (p:=⟨bR,oR+k,none⟩) HBR.out).trans hc,
       (HB5.out.block g13 (lt_of_block H13.out)).trans H13.out,by rw [hW5];exact heap_alloc_new wr _⟩)
     have HL5:=Lh (show bR < W5.heap.size from Nat.lt_of_lt_of_le HBR.out HB5.out.size)
     have HMT:=Lh (meets_any s t W5.drew)
     have HW5:=Lh hW5
     have hs0:=hsp.1
     have hs1:=hsp.2
     have i0:(0:Int)≤(k:Int):=by omega
     have i1:(k:Int) < (r:Int):=by omega
     have j0:(0:Int)≤(r:Int):=by omega
     have j1:(r:Int) < (n:Int):=by omega
     have j2:(k:Int) < (n:Int):=by omega
     have q1:IntKind.i64.wrap (k:Int)=k:=by simp [IntKind.wrap,IntKind.bits,IntKind.signed];omega
     have q2:IntKind.i64.wrap (r:Int)=r:=by simp [IntKind.wrap,IntKind.bits,IntKind.signed];omega
     obtain ⟨m,hm⟩:∃ m,meetsF s t=m:=⟨_,rfl⟩
     rw [hm] at HMT
     have HM:=Lh hm
     clear ht hb hc hsp hb5 hGb hW5 hm
     go_upto_region 19 with fail
     rw [←HW5.out]
     clear hs0 hs1
     cases d0:(a == b)
     · have HN2:=Lh (show clashP s t a b=false by unfold clashP;rw [d0];rfl)
       (refine wp_region_lines (fun w_=>At6 w_ ⟨bR,oR+r,none⟩ ⟨bR,oR+k,none⟩ g13 wr.heap.size a b s t) (by kernel_rfl) (by kernel_rfl) (H6.out.next (Below.refl _ _).drew HL5.out HL5.out) ?_)
       (try simp only [])
       repeat (first | (refine runL_no (by rfl) ?_;(try simp only [Act.put,List.setIfInBounds_toArray,List.set_cons_zero,List.set_cons_succ])) | (refine runL_val (v:=?_) (by rfl) ?_ ?_;rotate_left;(focus (intro w_ hw_;have f1_:=hw_.p;have f2_:=hw_.q;have f3_:=hw_.cells.1;have f4_:=hw_.cells.2.1;have f5_:=hw_.cells.2.2.1;have f6_:=hw_.cells.2.2.2;go_simp;(try with_reducible rfl);done));(try simp only [Act.put,List.setIfInBounds_toArray,List.set_cons_zero,List.set_cons_succ])))
       (refine runL_nil ?_)
       clear d0
       go_wp2
       go_roundw
       case rel=>exact ⟨k+1,by omega,by go_num,HB5.out.drew,Lh (fun i t' b' hk h1 h2=>by
         by_cases e:i=k
         · subst e;rw [HS.out] at h1;rw [HA.out] at h2;cases h1;cases h2;exact HN2.out
         · exact HT.out i t' b' (by omega) h1 h2)⟩
       case measure=>simp [intOf];omega
     · skip
       (refine wp_region_lines (fun w_=>At6 w_ ⟨bR,oR+r,none⟩ ⟨bR,oR+k,none⟩ g13 wr.heap.size a b s t) (by kernel_rfl) (by kernel_rfl) (H6.out.next (Below.refl _ _).drew HL5.out HL5.out) ?_)
       (try simp only [])
       repeat (first | (refine runL_no (by rfl) ?_;(try simp only [Act.put,List.setIfInBounds_toArray,List.set_cons_zero,List.set_cons_succ])) | (refine runL_val (v:=?_) (by rfl) ?_ ?_;rotate_left;(focus (intro w_ hw_;have f1_:=hw_.p;have f2_:=hw_.q;have f3_:=hw_.cells.1;have f4_:=hw_.cells.2.1;have f5_:=hw_.cells.2.2.1;have f6_:=hw_.cells.2.2.2;go_simp;(try with_reducible rfl);done));(try simp only [Act.put,List.setIfInBounds_toArray,List.set_cons_zero,List.set_cons_succ])) | (refine runL_call (f:=?_) (args:=?_) (w1:=?_) (by rfl) (by rfl) ?_ ?_;rotate_left 3;(focus (go_simp;refine ⟨⟨?_,?_⟩,?_⟩ <;> with_reducible rfl));(with_reducible refine (HMT.out).mono ?_);rintro e w1 ⟨rfl,hb⟩;have HB6:=Lh ((Below.refl W5.heap.size W5).drew.trans hb);clear hb;refine ⟨_,rfl,.inr (H6.out.next HB6.out HL5.out HL5.out),?_⟩;(try simp only [Act.put,List.setIfInBounds_toArray,List.set_cons_zero,List.set_cons_succ])))
       (refine runL_nil ?_)
       have HD:=Lh d0
       clear d0
       cases m
       · have HN2:=Lh (show clashP s t a b=false by unfold clashP;rw [HD.out,HM.out];rfl)
         go_wp2
         go_roundw
         case rel=>exact ⟨k+1,by omega,by go_num,HB5.out.trans (HB6.out.mono HB5.out.size),Lh (fun i t' b' hk h1 h2=>by
           by_cases e:i=k
           · subst e;rw [HS.out] at h1;rw [HA.out] at h2;cases h1;cases h2;exact HN2.out
           · exact HT.out i t' b' (by omega) h1 h2)⟩
         case measure=>simp [intOf];omega
       · have HN2:=Lh (show clashP s t a b=true by unfold clashP;rw [HD.out,HM.out];rfl)
         go_wp2
         exact K2.out ⟨k,t,b,hlt,HS.out,HA.out,HN2.out⟩ _ _ _ _ _ _ _ _ _ _ _ _ _ _ _ _ _ _ _ _ _ _ _ (HB5.out.trans (HB6.out.mono HB5.out.size))
   · have HN2:=Lh (show ∀ (i:Nat) (t:Int×Int) (b:Int),i < r→sp[i]? = some t→pl[i]? = some b→clashP s t a b=false from fun i t b h h1 h2=>HT.out i t b (by omega) h1 h2)
     go_wp2
     exact K1.out HN2.out _ _ _ _ _ _ _ _ _ _ _ _ _ _ _ _ _ _ _ _ _ _ _ _ HBL.out
set_option maxHeartbeats 4000000 in
theorem acheck_l2 {Ap:Option Addr} {cp gs n:Nat} {sp:List (Int×Int)} {pl:List Int} {G:Nat→Prop} (w:World) (Q:Exit→Act→World→Prop) (hg:SpansAt w gs sp) (hn:sp.length=n∧pl.length=n) (hp:NumsAt w G (.slice Ap n cp) pl) (hG:∀ k,G k→k < w.heap.size) (hn3:n≤1000)
   (k1:(∀ (r i:Nat) (s t:Int×Int) (a b:Int),i < r→sp[r]? = some s→pl[r]? = some a→sp[i]? = some t→pl[i]? = some b→clashP s t a b=false)→∀ (pP mP nA nQ pQ mB mC mD mE mF mG mH mI mJ mY iS iT iU iV iW iX iY iZ i7 i8 i9 jA jB jC jD jE jF jG jH jI:Value) (w':World),Below w.heap.size w w'→Q (.exit 2) ⟨#[aB,aA,.slice Ap n cp,kW,aC,aD,pP,kY,kZ,.slice (some ⟨gs,0,none⟩) n n,lB,lC,mP,nA,nQ,pQ,aI,aJ,aK,aL,aM,aN,aO,aP,aQ,aR,aS,aT,aU,aV,aW,aX,aY,aZ,a8,bA,bB,bC,bD,bE,bF,bG,bH,bI,bJ,bK,bL,bM,bN,bO,bP,bQ,bS,bT,bU,bV,bW,bX,bY,bZ,b4,b6,cA,cC,.slice (some ⟨gs,0,none⟩) n n,.int .i64 (n:Nat),mB,mC,mD,mE,mF,mG,mH,mI,mJ,mY,iS,iT,iU,iV,iW,iX,iY,iZ,i7,i8,i9,jA,jB,jC,jD,jE,jF,jG,jH,jI],[]⟩ w') (k2:(∃ (r i:Nat) (s t:Int×Int) (a b:Int),i < r∧sp[r]? = some s∧pl[r]? = some a∧sp[i]? = some t∧pl[i]? = some b∧clashP s t a b=true)→∀ (mP nA nQ pQ mB mC mD mE mF mG mH mI mJ mY iS iT iU iV iW iX iY iZ i7 i8 i9 jA jB jC jD jE jF jG jH jI:Value) (w':World),Below w.heap.size w w'→Q (.ret) ⟨#[aB,aA,.slice Ap n cp,kW,aC,aD,.int .i64 6,kY,kZ,.slice (some ⟨gs,0,none⟩) n n,lB,lC,mP,nA,nQ,pQ,aI,aJ,aK,aL,aM,aN,aO,aP,aQ,aR,aS,aT,aU,aV,aW,aX,aY,aZ,a8,bA,bB,bC,bD,bE,bF,bG,bH,bI,bJ,bK,bL,bM,bN,bO,bP,bQ,bS,bT,bU,bV,bW,bX,bY,bZ,b4,b6,cA,cC,.slice (some ⟨gs,0,none⟩) n n,.int .i64 (n:Nat),mB,mC,mD,mE,mF,mG,mH,mI,mJ,mY,iS,iT,iU,iV,iW,iX,iY,iZ,i7,i8,i9,jA,jB,jC,jD,jE,jF,jG,jH,jI],[]⟩ w'):(partL Tryd.f24 2).wp Tryd.prog Q ⟨#[aB,aA,.slice Ap n cp,kW,aC,aD,kX,kY,kZ,.slice (some ⟨gs,0,none⟩) n n,lB,lC,aE,aF,aG,aH,aI,aJ,aK,aL,aM,aN,aO,aP,aQ,aR,aS,aT,aU,aV,aW,aX,aY,aZ,a8,bA,bB,bC,bD,bE,bF,bG,bH,bI,bJ,bK,bL,bM,bN,bO,bP,bQ,bS,bT,bU,bV,bW,bX,bY,bZ,b4,b6,cA,cC,.slice (some ⟨gs,0,none⟩) n n,.int .i64 (n:Nat),.int .i64 0,cG,cH,cI,cJ,cK,cL,cM,cN,cO,cP,cQ,cR,cT,cU,cV,cW,cX,cY,cZ,c8,dA,dB,dC,dD,dE,dF,dG,dH,dI],[]⟩ w:=by
 have HG:=Lh hg
 have HN:=Lh hn
 have HPL:=Lh hp
 have HLT:=Lh (And.intro (lt_of_block hg) hG)
 have K1:=Lh k1
 have K2:=Lh k2
 clear hg hn hp hG k1 k2
 conv=>arg 2;whnf
 go_wp2
 go_loopw [66] (fun j wr=>∃ r:Nat,r≤n∧j=.int .i64 r∧Below w.heap.size w wr∧Hid (∀ (r' i:Nat) (s t:Int×Int) (a b:Int),r' < r→i < r'→sp[r']? = some s→pl[r']? = some a→sp[i]? = some t→pl[i]? = some b→clashP s t a b=false)) (fun j _=>n - (intOf j).toNat)
 case atStart=>exact ⟨0,by omega,rfl,Below.refl _ _,Lh (fun k _ s _ a _ h=>absurd h (by omega))⟩
 case round =>
   obtain ⟨r,hr,rfl,hbl,HT⟩:=hrel
   have HBL:=Lh hbl
   clear hbl
   by_cases hlt:r < n
   · obtain ⟨s,hs⟩:∃ s,sp[r]? = some s:=⟨_,List.getElem?_eq_getElem (by have:=HN.out.1;omega)⟩
     obtain ⟨a,ha⟩:∃ s,pl[r]? = some s:=⟨_,List.getElem?_eq_getElem (by have:=HN.out.2;omega)⟩
     have hsp:=(HG.out.next HBL.out).cells hs
     have HS:=Lh hs
     have HA:=Lh ha
     obtain ⟨W5,hW5⟩:∃ q,q=wr.alloc (.cells #[.int .i64 s.1,.int .i64 s.2] 68):=⟨_,rfl⟩
     have hb5:Below wr.heap.size wr W5:=by rw [hW5];exact (Below.refl _ _).alloc (Nat.le_refl _) _
     have HB5:=Lh (HBL.out.trans (hb5.mono HBL.out.size))
     have H13:=Lh (show W5.heap[wr.heap.size]? = some (.cells #[.int .i64 s.1,.int .i64 s.2] 68 (0,0)) by rw [hW5];exact heap_alloc_new wr _)
     have HW5:=Lh hW5
     have hs0:=hsp.1
     have hs1:=hsp.2
     have j0:(0:Int)≤(r:Int):=by omega
     have j1:(r:Int) < (n:Int):=by omega
     have j2:(r:Int)≤(n:Int):=by omega
     clear hs ha hsp hb5 hW5
     go_upto_region 16 with fail
     rw [←HW5.out]
     clear hs0 hs1
     go_wp2
     refine wp_code (c:=partL Tryd.f24 4) (by kernel_rfl) ?_
     refine acheck_l4 (gs:=gs) (r:=r) (g13:=wr.heap.size) (s:=s) (a:=a) (sp:=sp) (pl:=pl) _ _ (HG.out.next HB5.out) HN.out (Rows.keep HPL.out (SameOn.of_below HB5.out HLT.out.2)) (fun k hk=>Nat.lt_of_lt_of_le (HLT.out.2 k hk) HB5.out.size) hlt HS.out HA.out H13.out hn3 ?_ ?_
     rotate_left
     · rintro ⟨i,t,b,hi,h1,h2,h3⟩ nQ pQ mY iS iT iU iV iW iX iY iZ i7 i8 i9 jA jB jC jD jE jF jG jH w7 hb7
       exact K2.out ⟨r,i,s,t,a,b,hi,HS.out,HA.out,h1,h2,h3⟩ _ _ _ _ _ _ _ _ _ _ _ _ _ _ _ _ _ _ _ _ _ _ _ _ _ _ _ _ _ _ _ _ _ _ _ (HB5.out.trans (hb7.mono HB5.out.size))
     · intro hno pP nQ pQ mY iS iT iU iV iW iX iY iZ i7 i8 i9 jA jB jC jD jE jF jG jH w7 hb7
       have HNO:=Lh hno
       have HB7:=Lh (HB5.out.trans (hb7.mono HB5.out.size))
       clear hno hb7
       go_wp2
       go_roundw
       case rel=>exact ⟨r+1,by omega,by go_num,HB7.out,Lh (fun r' i s' t' a' b' h1 h2 h3 h4 h5 h6=>by
         by_cases e:r'=r
         · subst e;rw [HS.out] at h3;rw [HA.out] at h4;cases h3;cases h4;exact HNO.out i t' b' h2 h5 h6
         · exact HT.out r' i s' t' a' b' (by omega) h2 h3 h4 h5 h6)⟩
       case measure=>simp [intOf];omega
   · have HN2:=Lh (show ∀ (r' i:Nat) (s t:Int×Int) (a b:Int),i < r'→sp[r']? = some s→pl[r']? = some a→sp[i]? = some t→pl[i]? = some b→clashP s t a b=false from fun r' i s t a b h2 h3 h4 h5 h6=>HT.out r' i s t a b (by have:=(List.getElem?_eq_some_iff.1 h3).1;have:=HN.out.1;omega) h2 h3 h4 h5 h6)
     go_wp2
     exact K1.out HN2.out _ _ _ _ _ _ _ _ _ _ _ _ _ _ _ _ _ _ _ _ _ _ _ _ _ _ _ _ _ _ _ _ _ _ _ _ HBL.out
def anyBad (pool:Int) (sp:List (Int×Int)) (pl:List Int):Bool:=(List.range sp.length).any fun k=>badP pool (sp.getD k (-1,-1)) (pl.getD k 0)
def anyClash (sp:List (Int×Int)) (pl:List Int):Bool:=(List.range sp.length).any fun r=>(List.range r).any fun i=>clashP (sp.getD r (-1,-1)) (sp.getD i (-1,-1)) (pl.getD r 0) (pl.getD i 0)
theorem bad_no {pool:Int} {sp:List (Int×Int)} {pl:List Int} (hl:pl.length=sp.length) (h:∀ (k:Nat) (s:Int×Int) (a:Int),sp[k]? = some s→pl[k]? = some a→badP pool s a=false):anyBad pool sp pl=false:=by
 unfold anyBad
 rw [List.any_eq_false]
 intro k hk
 have hk:=List.mem_range.1 hk
 have h1:sp[k]? = some (sp.getD k (-1,-1)):=by rw [List.getD_eq_getElem?_getD,List.getElem?_eq_getElem hk];rfl
 have h2:pl[k]? = some (pl.getD k 0):=by rw [List.getD_eq_getElem?_getD,List.getElem?_eq_getElem (by omega)];rfl
 rw [h k _ _ h1 h2];decide
theorem getD_some {T:Type} {l:List T} {k:Nat} {x:T} (h:l[k]? = some x) (d:T):l.getD k d=x:=by rw [List.getD_eq_getElem?_getD,h];rfl
theorem bad_yes {pool:Int} {sp:List (Int×Int)} {pl:List Int} (h:∃ (k:Nat) (s:Int×Int) (a:Int),sp[k]? = some s∧pl[k]? = some a∧badP pool s a=true):anyBad pool sp pl=true:=by
 obtain ⟨k,s,a,h1,h2,h3⟩:=h
 exact List.any_eq_true.2 ⟨k,List.mem_range.2 (List.getElem?_eq_some_iff.1 h1).1,by rw [getD_some h1,getD_some h2];exact h3⟩
theorem clash_no {sp:List (Int×Int)} {pl:List Int} (hl:pl.length=sp.length) (h:∀ (r i:Nat) (s t:Int×Int) (a b:Int),i < r→sp[r]? = some s→pl[r]? = some a→sp[i]? = some t→pl[i]? = some b→clashP s t a b=false):anyClash sp pl=false:=by
 unfold anyClash
 rw [List.any_eq_false]
 intro r hr
 have hr:=List.mem_range.1 hr
 rw [Bool.not_eq_true,List.any_eq_false]
 intro i hi
 have hi:=List.mem_range.1 hi
 have g1:∀ k,k < sp.length→sp[k]? = some (sp.getD k (-1,-1)):=fun k hk=>by rw [List.getD_eq_getElem?_getD,List.getElem?_eq_getElem hk];rfl
 have g2:∀ k,k < sp.length→pl[k]? = some (pl.getD k 0):=fun k hk=>by rw [List.getD_eq_getElem?_getD,List.getElem?_eq_getElem (by omega)];rfl
 rw [h r i _ _ _ _ hi (g1 r hr) (g2 r hr) (g1 i (by omega)) (g2 i (by omega))];decide
theorem clash_yes {sp:List (Int×Int)} {pl:List Int} (h:∃ (r i:Nat) (s t:Int×Int) (a b:Int),i < r∧sp[r]? = some s∧pl[r]? = some a∧sp[i]? = some t∧pl[i]? = some b∧clashP s t a b=true):anyClash sp pl=true:=by
 obtain ⟨r,i,s,t,a,b,hi,h1,h2,h3,h4,h5⟩:=h
 exact List.any_eq_true.2 ⟨r,List.mem_range.2 (List.getElem?_eq_some_iff.1 h1).1,List.any_eq_true.2 ⟨i,List.mem_range.2 hi,by rw [getD_some h1,getD_some h2,getD_some h3,getD_some h4];exact h5⟩⟩
def placesF (p:LP) (pool:Int) (pl:List Int):Int :=
 if (checkF p 64).2≠0 then (checkF p 64).2
 else if pool < 0∨16 < pool∨(pl.length:Int)≠p.regs then 2
 else if anyBad pool (spansF p) pl=true then 2
 else if anyClash (spansF p) pl=true then 6
 else 0
set_option maxHeartbeats 8000000 in
theorem acheck_any (p:LP) (Ab Ao Ap:Option Addr) (nb cb no co n0 cp:Nat) (pool:Int) (pl:List Int) (w:World) (hp:ProgAt w (fun k=>k < w.heap.size) [.int .i64 p.regs,.slice Ab nb cb,.slice Ao no co] p) (hpl:NumsAt w (fun k=>k < w.heap.size) (.slice Ap n0 cp) pl) :
   Calls Tryd.prog 24 #[.agg #[.int .i64 p.regs,.slice Ab nb cb,.slice Ao no co],.int .i64 pool,.slice Ap n0 cp] w fun e w'=>e=.returned (.int .i64 (placesF p pool pl))∧Below w.heap.size w w':=by
 obtain ⟨W,hW,hbW,hzW,hl_,hr_⟩:=boxed w #[.int .i64 p.regs,.slice Ab nb cb,.slice Ao no co] 25
 have c0:W.cell? ⟨w.heap.size,0,none⟩=some (.int .i64 p.regs):=by rw [hl_];rfl
 have c1:W.cell? ⟨w.heap.size,1,none⟩=some (.slice Ab nb cb):=by rw [hl_];rfl
 have c2:W.cell? ⟨w.heap.size,2,none⟩=some (.slice Ao no co):=by rw [hl_];rfl
 have hp1:=prog_next hp hbW
 have HC:=Lh (check_any p Ab Ao nb cb no co W hp1)
 have hl0:pl.length=n0:=by obtain ⟨A,c,hv,_⟩:=rows_form hpl;cases hv;rfl
 have HPL:=Lh hpl
 have HP1:=Lh hp1
 have HW:=Lh hW
 have HB:=Lh hbW
 have hlt:w.heap.size < W.heap.size:=by omega
 obtain ⟨x,hx⟩:∃ x,(checkF p 64).1=x:=⟨_,rfl⟩
 obtain ⟨y,hy⟩:∃ x,(checkF p 64).2=x:=⟨_,rfl⟩
 obtain ⟨res,hres⟩:∃ x,placesF p pool pl=x:=⟨_,rfl⟩
 have hv:=hres
 unfold placesF at hv
 rw [hy,hl0] at hv
 have HV:=Lh hv
 rw [hx,hy] at HC
 rw [hres]
 have HY:=Lh hy
 have HL0:=Lh hl0
 clear hW hbW hzW hl_ hr_ hp hp1 hpl hx hy hres hv hl0
 by_cases h0:y=0
 rotate_left
 · have d0:(y != 0)=true:=by simpa using h0
   have HV:=Lh (HV.out.symm.trans (if_pos h0))
   clear h0 hlt
   go_enter Tryd.func24,Tryd.ntmps24
   go_upto_region 1 with fail
   rw [←HW.out]
   go_wp2_with ((with_reducible refine (HC.out).mono ?_);rintro e w1 ⟨rfl,hb1⟩)
   go_ret
   exact ⟨by rw [HV.out];rfl,HB.out.trans (hb1.mono HB.out.size)⟩
 subst h0
 have HV:=Lh (HV.out.symm.trans (if_neg (by decide)))
 go_enter Tryd.func24,Tryd.ntmps24
 go_upto_region 1 with fail
 rw [←HW.out]
 go_upto_region 4 with ((with_reducible refine (HC.out).mono ?_);rintro e w1 ⟨rfl,hb1⟩)
 have e0:=(hb1.cell (p:=⟨w.heap.size,0,none⟩) hlt).trans c0
 have e1:=(hb1.cell (p:=⟨w.heap.size,1,none⟩) hlt).trans c1
 have e2:=(hb1.cell (p:=⟨w.heap.size,2,none⟩) hlt).trans c2
 have HB1:=Lh (HB.out.trans (hb1.mono HB.out.size))
 have HPW:=Lh (prog_next HP1.out hb1)
 clear c0 c1 c2 hb1 hlt
 by_cases m1:pool < 0
 · have d1:decide (pool < (0:Int))=true:=decide_eq_true m1
   have HV:=Lh (HV.out.trans (if_pos (.inl m1)))
   clear m1
   go_wp2
   go_ret
   exact ⟨by rw [HV.out];rfl,HB1.out⟩
 have d1:decide (pool < (0:Int))=false:=decide_eq_false m1
 by_cases m2:16 < pool
 · have d2:decide ((16:Int) < pool)=true:=decide_eq_true m2
   have HV:=Lh (HV.out.trans (if_pos (.inr (.inl m2))))
   clear m1 m2
   go_wp2
   go_ret
   exact ⟨by rw [HV.out];rfl,HB1.out⟩
 have d2:decide ((16:Int) < pool)=false:=decide_eq_false m2
 by_cases m3:(n0:Int)=p.regs
 rotate_left
 · have d3:((n0:Int) != p.regs)=true:=by simpa using m3
   have HV:=Lh (HV.out.trans (if_pos (.inr (.inr m3))))
   clear m1 m2 m3
   go_wp2
   go_ret
   exact ⟨by rw [HV.out];rfl,HB1.out⟩
 have d3:((n0:Int) != p.regs)=false:=by simpa using m3
 have HV:=Lh (HV.out.trans (if_neg (by rw [not_or,not_or];exact ⟨m1,m2,fun h=>h m3⟩)))
 have HSP:=Lh (spans_any p Ab Ao nb cb no co n0 w1 HPW.out HY.out m3.symm)
 have HSL:=Lh (show (spansF p).length=n0 by rw [spans_len,←m3];rfl)
 have hn64:n0≤1000:=by have:=(head_ok (check_run HY.out).1).1;omega
 clear m1 m2 m3
 go_upto_region 7 with ((with_reducible refine (HSP.out).mono ?_);rintro e w2 ⟨gs,rfl,hgs,hsp,hb2⟩)
 have HS:=Lh hsp
 have HB2:=Lh (HB1.out.trans (hb2.mono HB1.out.size))
 have HPL2:=Lh (show NumsAt w2 (fun k=>k < w.heap.size) (.slice Ap n0 cp) pl from Rows.keep HPL.out (SameOn.of_below HB2.out fun _ h=>h))
 clear e0 e1 e2 d1 d2 d3 hgs hsp hb2
 go_wp2
 refine wp_code (c:=partL Tryd.f24 0) (by kernel_rfl) ?_
 refine acheck_l0 (gs:=gs) (sp:=spansF p) (pl:=pl) _ _ HS.out ⟨HSL.out,HL0.out⟩ HPL2.out (fun k hk=>Nat.lt_of_lt_of_le hk HB2.out.size) hn64 ?_ ?_
 rotate_left
 · intro hbad mN mO lH lI lJ lK lL lM lN lO lP lQ lR lS lT lU lV lW lX lY lZ l5 l6 l7 l8 w3 hb3
   have HV:=Lh (HV.out.trans (if_pos (bad_yes hbad)))
   have HB3:=Lh (HB2.out.trans (hb3.mono HB2.out.size))
   clear hbad hb3
   go_wp2
   go_ret
   exact ⟨by rw [HV.out];rfl,HB3.out⟩
 intro hno pP mN mO lH lI lJ lK lL lM lN lO lP lQ lR lS lT lU lV lW lX lY lZ l5 l6 l7 l8 w3 hb3
 have HV:=Lh (HV.out.trans (if_neg (by rw [bad_no (by rw [HL0.out,HSL.out]) hno];decide)))
 have HB3:=Lh (HB2.out.trans (hb3.mono HB2.out.size))
 have HS3:=Lh (HS.out.next hb3)
 clear hno hb3
 go_wp2
 refine wp_code (c:=partL Tryd.f24 2) (by kernel_rfl) ?_
 refine acheck_l2 (gs:=gs) (sp:=spansF p) (pl:=pl) _ _ HS3.out ⟨HSL.out,HL0.out⟩ (Rows.keep HPL.out (SameOn.of_below HB3.out fun _ h=>h)) (fun k hk=>Nat.lt_of_lt_of_le hk HB3.out.size) hn64 ?_ ?_
 rotate_left
 · intro hcl mP nA nQ pQ mB mC mD mE mF mG mH mI mJ mY iS iT iU iV iW iX iY iZ i7 i8 i9 jA jB jC jD jE jF jG jH jI w4 hb4
   have HV:=Lh (HV.out.trans (if_pos (clash_yes hcl)))
   have HB4:=Lh (HB3.out.trans (hb4.mono HB3.out.size))
   clear hcl hb4
   go_wp2
   go_ret
   exact ⟨by rw [HV.out];rfl,HB4.out⟩
 intro hno pP mP nA nQ pQ mB mC mD mE mF mG mH mI mJ mY iS iT iU iV iW iX iY iZ i7 i8 i9 jA jB jC jD jE jF jG jH jI w4 hb4
 have HV:=Lh (HV.out.trans (if_neg (by rw [clash_no (by rw [HL0.out,HSL.out]) hno];decide)))
 have HB4:=Lh (HB3.out.trans (hb4.mono HB3.out.size))
 clear hno hb4
 go_wp2
 go_ret
 exact ⟨by rw [HV.out];rfl,HB4.out⟩
end Go.Proofs.YtppoiahhaclleaaDoor
namespace Go.Proofs.YtppoiahhaclleaaDoor
open Go.RowKit
theorem held_all {sp:List (Int×Int)} {ord:List Int} {pool:Nat}:∀ k j,j < k→(plK sp ord pool j,(spanAt sp ord j).2)∈(keepS sp ord pool k).held∨∃ i,i < k∧(spanAt sp ord j).2 < (spanAt sp ord i).1:=by
 intro k
 induction k with
 | zero=>exact fun j h=>absurd h (by omega)
 | succ k ih =>
   intro j hj
   have eh:(keepS sp ord pool (k+1)).held=restK (spanAt sp ord k).1 (keepS sp ord pool k).held++[(plK sp ord pool k,(spanAt sp ord k).2)]:=by
     show (takeK _ _).held=_
     unfold takeK
     split <;> rfl
   rw [eh]
   by_cases e:j=k
   · subst e
     exact .inl (List.mem_append_right _ (List.mem_singleton.2 rfl))
   rcases ih j (by omega) with h | ⟨i,h1,h2⟩
   · by_cases hlt:(spanAt sp ord j).2 < (spanAt sp ord k).1
     · exact .inr ⟨k,by omega,hlt⟩
     · exact .inl (List.mem_append_left _ (List.mem_filter.2 ⟨h,by simpa using hlt⟩))
   · exact .inr ⟨i,by omega,h2⟩
theorem pl_range {sp:List (Int×Int)} {ord:List Int} {pool:Nat} (hm:pool≤16) {k:Nat} (hk:k < 64):-64≤plK sp ord pool k∧plK sp ord pool k < pool ∧
   ∀ x∈restK (spanAt sp ord k).1 (keepS sp ord pool k).held,x.1≠plK sp ord pool k:=by
 obtain ⟨h1,h2⟩:=kinv (sp:=sp) (ord:=ord) hm k (by omega)
 have h3:=(h1.free hm (spanAt sp ord k).1)
 have hl:(freeK (spanAt sp ord k).1 (keepS sp ord pool k)).held.length < 64:=Nat.lt_of_le_of_lt (List.length_filter_le _ _) (by omega)
 obtain ⟨_,h4,h5,h6⟩:=h3.take hm hl 0
 exact ⟨h5,h6,h4⟩
theorem pl_apart {sp:List (Int×Int)} {ord:List Int} {pool:Nat} (hm:pool≤16) (hs:∀ i k,i≤k→k < ord.length→(spanAt sp ord i).1≤(spanAt sp ord k).1) {j k:Nat} (hj:j < k) (hk:k < 64) (hl:k < ord.length) :
   plK sp ord pool j≠plK sp ord pool k∨(spanAt sp ord j).2 < (spanAt sp ord k).1:=by
 rcases held_all (sp:=sp) (ord:=ord) (pool:=pool) k j hj with h | ⟨i,h1,h2⟩
 · by_cases hlt:(spanAt sp ord j).2 < (spanAt sp ord k).1
   · exact .inr hlt
   · exact .inl ((pl_range hm hk).2.2 _ (List.mem_filter.2 ⟨h,by simpa using hlt⟩))
 · have:=hs i k (by omega) hl
   exact .inr (by omega)
theorem OF_get {ord:List Int} {pl:Nat→Int} {n:Nat} (hnd:ord.Nodup) (hb:∀ x∈ord,0≤x∧x < n):∀ m,m≤ord.length→∀ (k:Nat) (r:Int),k < m→ord[k]? = some r→(OF ord pl n m)[r.toNat]? = some (pl k):=by
 intro m
 induction m with
 | zero=>exact fun _ k _ h=>absurd h (by omega)
 | succ m ih =>
   intro hm k r hk hr
   obtain ⟨q,hq⟩:∃ q,ord[m]? = some q:=⟨_,List.getElem?_eq_getElem (by omega)⟩
   have e0:ord.getD m 0=q:=by rw [List.getD_eq_getElem?_getD,hq];rfl
   show ((OF ord pl n m).set (ord.getD m 0).toNat (pl m))[r.toNat]? = some (pl k)
   rw [e0]
   have hrb:=hb r (List.mem_of_getElem? hr)
   have hqb:=hb q (List.mem_of_getElem? hq)
   by_cases e:k=m
   · subst e
     rw [hr] at hq
     cases hq
     rw [List.getElem?_set,if_pos rfl,if_pos (by rw [OF_len];omega)]
   · have hne:q≠r:=fun h=>by
       rw [h] at hq
       have:=(List.getElem?_inj (by omega) hnd).1 (hr.trans hq.symm)
       exact e this
     rw [List.getElem?_set_ne (by omega)]
     exact ih (by omega) k r (by omega) hr
theorem ordTo_nd (sp:List (Int×Int)) (n:Nat):(ordTo sp n).Nodup:=by
 unfold ordTo
 refine List.Pairwise.map _ ?_ (List.Pairwise.filter _ (List.nodup_range (n:=n)))
 intro a b h
 omega
theorem ordTo_mem {sp:List (Int×Int)} {n:Nat} {x:Int}:x∈ordTo sp n↔0≤x∧x < n∧0≤(sp.getD x.toNat (-1,-1)).1:=by
 unfold ordTo
 constructor
 · intro h
   obtain ⟨r,h1,rfl⟩:=List.mem_map.1 h
   have h2:=List.mem_filter.1 h1
   have h3:=List.mem_range.1 h2.1
   refine ⟨by omega,by omega,by simpa using h2.2⟩
 · rintro ⟨h1,h2,h3⟩
   refine List.mem_map.2 ⟨x.toNat,List.mem_filter.2 ⟨List.mem_range.2 (by omega),decide_eq_true h3⟩,by omega⟩
theorem ordTo_len (sp:List (Int×Int)) (n:Nat):(ordTo sp n).length≤n:=by
 unfold ordTo
 rw [List.length_map]
 exact Nat.le_trans (List.length_filter_le _ _) (by simp)
theorem places_ok {p:LP} {pool n:Nat} {ord:List Int} (h0:(checkF p 64).2=0) (hn:p.regs=n) (hm:pool≤16) (hp:ord.Perm (ordTo (spansF p) n)) (hs:Srt (keyF (spansF p)) ord) :
   placesF p pool (OF ord (plK (spansF p) ord pool) n (ordTo (spansF p) n).length)=0:=by
 have hlen:(spansF p).length=n:=by rw [spans_len,hn];rfl
 have hn64:n≤64:=by have:=(head_ok (check_run h0).1).1;omega
 have hol:ord.length=(ordTo (spansF p) n).length:=hp.length_eq
 have hon:=ordTo_len (spansF p) n
 have hnd:ord.Nodup:=hp.nodup_iff.2 (ordTo_nd _ _)
 have hb:∀ x∈ord,0≤x∧x < n:=fun x hx=>by have:=ordTo_mem.1 (hp.mem_iff.1 hx);exact ⟨this.1,this.2.1⟩
 have hsp:∀ (k:Nat) (r:Nat) (s:Int×Int),ord[k]? = some (r:Int)→(spansF p)[r]? = some s→spanAt (spansF p) ord k=s:=fun k r s h1 h2=>by
   unfold spanAt
   rw [List.getD_eq_getElem?_getD,List.getD_eq_getElem?_getD,h1]
   show ((spansF p)[((r:Nat):Int).toNat]?).getD (-1,-1)=s
   rw [Int.toNat_natCast,h2];rfl
 have hsr:∀ i k,i≤k→k < ord.length→(spanAt (spansF p) ord i).1≤(spanAt (spansF p) ord k).1:=fun i k hik hk=>by
   by_cases e:i=k
   · subst e;omega
   have:=(List.pairwise_iff_getElem.1 hs) i k (by omega) hk (by omega)
   unfold keyF at this
   unfold spanAt
   rw [List.getD_eq_getElem?_getD (l:=ord) (i:=i),List.getD_eq_getElem?_getD (l:=ord) (i:=k),List.getElem?_eq_getElem hk,List.getElem?_eq_getElem (show i < ord.length by omega)]
   exact this
 have hgo:∀ (r:Nat) (s:Int×Int) (a:Int),(spansF p)[r]? = some s→(OF ord (plK (spansF p) ord pool) n (ordTo (spansF p) n).length)[r]? = some a→0≤s.1→∃ k,ord[k]? = some (r:Int)∧k < ord.length∧a=plK (spansF p) ord pool k:=fun r s a h1 h2 h3=>by
   have hr:=(List.getElem?_eq_some_iff.1 h1).1
   have hmem:(r:Int)∈ord:=hp.mem_iff.2 (ordTo_mem.2 ⟨by omega,by omega,by rw [Int.toNat_natCast,List.getD_eq_getElem?_getD,h1];exact h3⟩)
   obtain ⟨k,hk⟩:=List.getElem?_of_mem hmem
   have hkl:=(List.getElem?_eq_some_iff.1 hk).1
   have h4:=OF_get (pl:=plK (spansF p) ord pool) hnd hb (ordTo (spansF p) n).length (by omega) k r (by omega) hk
   rw [Int.toNat_natCast,h2] at h4
   exact ⟨k,hk,hkl,Option.some.inj h4⟩
 unfold placesF
 rw [if_neg (by rw [h0];decide),if_neg (by rw [OF_len];omega),bad_no (by rw [OF_len,hlen]) (fun k s a h1 h2=>?bad),if_neg (by decide),clash_no (by rw [OF_len,hlen]) (fun r i s t a b hi h1 h2 h3 h4=>?clash),if_neg (by decide)]
 case bad =>
   unfold badP
   cases hd:decide (0≤s.1) with
   | false=>rfl
   | true =>
     obtain ⟨j,hj,hjl,rfl⟩:=hgo k s a h1 h2 (of_decide_eq_true hd)
     obtain ⟨g1,g2,_⟩:=pl_range (sp:=spansF p) (ord:=ord) hm (show j < 64 by omega)
     simp;omega
 case clash =>
   unfold clashP meetsF
   cases hd:decide (0≤s.1) with
   | false=>simp
   | true =>
     cases hd2:decide (0≤t.1) with
     | false=>simp
     | true =>
       obtain ⟨k,hk,hkl,rfl⟩:=hgo r s a h1 h2 (of_decide_eq_true hd)
       obtain ⟨j,hj,hjl,rfl⟩:=hgo i t b h3 h4 (of_decide_eq_true hd2)
       have e1:=hsp k r s hk h1
       have e2:=hsp j i t hj h3
       have hne:j≠k:=fun e=>by subst e;rw [hk] at hj;cases hj;omega
       rcases Nat.lt_or_ge j k with hjk | hjk
       · rcases pl_apart hm hsr hjk (by omega) hkl with h | h
         · rw [show (plK (spansF p) ord pool k == plK (spansF p) ord pool j)=false by simpa using fun e=>h e.symm];rfl
         · rw [e1,e2] at h
           simp;intros;omega
       · rcases pl_apart hm hsr (show k < j by omega) (by omega) hjl with h | h
         · rw [show (plK (spansF p) ord pool k == plK (spansF p) ord pool j)=false by simpa using h];rfl
         · rw [e1,e2] at h
           simp;intros;omega
end Go.Proofs.YtppoiahhaclleaaDoor
namespace Go.Proofs.YtppoiahhaclleaaDoor
open Go.RowKit
def putR (r:List Nat) (k:Int) (v:Nat):List Nat:=if 0≤k then r.set k.toNat v else r
def atR (r:List Nat) (k:Int):Nat:=if k < 0 then 0 else r.getD k.toNat 0
structure RS where
 i:Nat
 first:Bool
 r:List Nat
 bufs:List (List Nat)
 l:List (Int×Int)
abbrev DoT:=Int→Nat→Int→List (List Nat)→Nat→Nat→Nat→Option (Nat×Nat×Int×List (List Nat))
def stepF (D:DoT) (ops:List LOp) (E:List Int) (s:RS):Option RS :=
 match ops[s.i]? with
 | none=>none
 | some o =>
   if o.kind=16 then some ⟨s.i+1,true,if s.first then putR s.r o.d 0 else s.r,s.bufs,s.l++[((s.i:Int),-1)]⟩
   else if o.kind=17 then
     match ops[(E.getD s.i 0).toNat]? with
     | none=>none
     | some q=>if (atR s.r q.d+1) % 18446744073709551616 < q.imm then some ⟨(E.getD s.i 0).toNat,false,putR s.r q.d ((atR s.r q.d+1) % 18446744073709551616),s.bufs,s.l⟩
       else some ⟨s.i+1,s.first,s.r,s.bufs,s.l⟩
   else match D o.kind o.imm o.buf s.bufs (atR s.r o.a) (atR s.r o.b) (atR s.r o.c) with
     | none=>none
     | some (d,e,pl,bufs)=>some ⟨s.i+1,s.first,putR (putR s.r o.d d) o.e e,bufs,s.l++[((s.i:Int),pl)]⟩
def finF (D:DoT) (ops:List LOp) (E:List Int):Nat→RS→Option (Option RS)
 | 0,_=>none
 | f+1,s=>if ops.length≤s.i then some (some s) else match stepF D ops E s with
   | none=>some none
   | some s'=>finF D ops E f s'
def nmF (nm:Nat→Nat) (k:Int):Int:=if k < 0 then -1 else (nm k.toNat:Int)
def renF (nm:Nat→Nat) (o:LOp):LOp:=⟨o.kind,nmF nm o.d,nmF nm o.e,nmF nm o.a,nmF nm o.b,nmF nm o.c,o.buf,o.imm⟩
theorem ends_ren (nm:Nat→Nat) (ops:List LOp) (k:Nat):endsTo (ops.map (renF nm)) k=endsTo ops k:=by
 induction k with
 | zero=>simp [endsTo]
 | succ k ih =>
   simp only [endsTo,List.getElem?_map,ih]
   cases ops[k]? with
   | none=>rfl
   | some o=>rfl
theorem endsF_ren (nm:Nat→Nat) (ops:List LOp):endsF (ops.map (renF nm))=endsF ops:=by
 unfold endsF
 rw [List.length_map,ends_ren]
theorem putR_len (r:List Nat) (k:Int) (v:Nat):(putR r k v).length=r.length:=by unfold putR;split <;> simp
theorem put_get (r:List Nat) (k:Int) (v x:Nat) (hx:x < r.length):(putR r k v).getD x 0=if k=(x:Int) then v else r.getD x 0:=by
 unfold putR
 by_cases h:0≤k
 · rw [if_pos h,List.getD_eq_getElem?_getD,List.getD_eq_getElem?_getD,List.getElem?_set]
   by_cases e:k=(x:Int)
   · rw [if_pos e,if_pos (by omega),if_pos (by omega)];rfl
   · rw [if_neg e,if_neg (by omega)]
 · rw [if_neg h,if_neg (by omega)]
theorem span_note {p:LP} {r:Nat} {s:Int×Int} (hs:(spansF p)[r]? = some s):∃ t,NoteInv p (endsF p.ops) p.ops.length r t∧s.1=t.1∧t.2≤s.2:=by
 let I:Nat→Int×Int→Prop:=fun r s=>∃ t,NoteInv p (endsF p.ops) p.ops.length r t∧s.1=t.1∧t.2≤s.2
 exact more_keeps I (fun r k o s ho hk hl ⟨t,h1,h2,h3⟩=>by
   unfold Go.Proofs.YtppoiahhaclleaaDoor.lasts at hl
   simp only [Bool.and_eq_true,decide_eq_true_eq] at hl
   exact ⟨t,h1,h2,by show t.2≤(endsF p.ops).getD k 0;omega⟩) _ (fun r s h=>⟨s,notes_inv p _ _ (Nat.le_refl _) r s h,rfl,Int.le_refl _⟩) r s hs
theorem span_has {p:LP} {i x:Nat} {o:LOp} (ho:p.ops[i]? = some o) (hx:(x:Int)∈regsOf p.ops (endsF p.ops) o i) (hr:(x:Int) < p.regs):∃ s,(spansF p)[x]? = some s∧0≤s.1∧s.1≤i∧(i:Int)≤s.2:=by
 obtain ⟨s,hs⟩:∃ s,(spansF p)[x]? = some s:=⟨_,List.getElem?_eq_getElem (by rw [spans_len];omega)⟩
 obtain ⟨t,h1,h2,h3⟩:=span_note hs
 have hi:=(List.getElem?_eq_some_iff.1 ho).1
 have h4:=h1.last i o hi ho hx
 rcases Int.lt_or_le t.1 0 with h0 | h0
 · exact absurd hx ((h1.none_ h0).2 i o hi ho)
 · obtain ⟨j,q,e1,e2,e3,e4,e5⟩:=h1.some_ h0
   refine ⟨s,hs,by omega,?_,by omega⟩
   rcases Nat.lt_or_ge i j with hij | hij
   · exact absurd hx (e5 i o hij ho)
   · omega
theorem made_by {p:LP} {n:Nat}:∀ k,∀ x:Int,0≤x→madeF (runTo p n k).2.2.made x=true→∃ (j:Nat) (o:LOp),j < k∧p.ops[j]? = some o∧(x=o.d∨x=o.e):=by
 intro k
 induction k with
 | zero =>
   intro x hx h
   simp only [runTo,madeF,List.getD_eq_getElem?_getD,List.getElem?_replicate] at h
   split at h <;> simp at h
 | succ k ih =>
   intro x hx h
   have up:madeF (runTo p n k).2.2.made x=true→∃ (j:Nat) (o:LOp),j < k+1∧p.ops[j]? = some o∧(x=o.d∨x=o.e):=fun h=>by
     obtain ⟨j,o,h1,h2⟩:=ih x hx h
     exact ⟨j,o,by omega,h2⟩
   have hput:∀ (m:List Bool) (r:Int) (b:Bool),madeF (putF m r b) x=true→madeF m x=true∨(b=true∧x=r):=fun m r b h=>by
     unfold putF at h
     split at h
     · rename_i h0
       unfold madeF at h ⊢
       rw [List.getD_eq_getElem?_getD,List.getElem?_set] at h
       rw [List.getD_eq_getElem?_getD]
       split at h
       · split at h
         · right
           exact ⟨by simpa using h,by omega⟩
         · simp at h
       · exact .inl h
     · exact .inl h
   simp only [runTo] at h
   split at h
   · exact up h
   · cases ho:p.ops[k]? with
     | none=>rw [ho] at h;exact up h
     | some o =>
       rw [ho] at h
       have h2:madeF (opF p o (runTo p n k).2.2).2.made x=true:=by
         simp only at h
         split at h <;> exact h
       unfold opF at h2
       split at h2
       · exact up h2
       split at h2
       · split at h2
         · exact up h2
         · rcases hput _ _ _ h2 with h3 | ⟨h3,_⟩
           · exact up h3
           · cases h3
       split at h2
       · exact up h2
       split at h2
       · exact up h2
       split at h2
       · exact up h2
       · rcases hput _ _ _ h2 with h3 | ⟨_,h3⟩
         · rcases hput _ _ _ h3 with h4 | ⟨_,h4⟩
           · exact up h4
           · exact ⟨k,o,by omega,ho,.inl h4⟩
         · exact ⟨k,o,by omega,ho,.inr h3⟩
theorem took {p:LP} (h0:(checkF p 64).2=0) {i x:Nat} {o:LOp} {s:Int×Int} (ho:p.ops[i]? = some o) (hk:o.kind≠17) (hx:(x:Int)=o.a∨(x:Int)=o.b∨(x:Int)=o.c) (hs:(spansF p)[x]? = some s):s.1 < i:=by
 obtain ⟨_,h2,_⟩:=check_run h0
 have hi:=(List.getElem?_eq_some_iff.1 ho).1
 have h4:=run_err (Nat.le_of_lt hi) h2
 have h6:=run_err (Nat.succ_le_of_lt hi) h2
 simp only [runTo] at h6
 rw [if_neg (by simp [h4]),ho] at h6
 have h7:(opF p o (runTo p 64 i).2.2).1=0:=by
   simp only at h6
   split at h6
   · exact h6
   · rename_i h;simpa using h
 have hmade:madeF (runTo p 64 i).2.2.made x=true:=by
   unfold opF at h7
   split at h7
   · simp at h7
   try rw [if_neg hk] at h7
   split at h7
   · simp at h7
   split at h7
   · simp at h7
   split at h7
   · simp at h7
   · rename_i h
     simp only [Bool.or_eq_true,not_or,lackF,Bool.and_eq_true,decide_eq_true_eq,not_and,Bool.not_eq_true',Bool.not_eq_false] at h
     rcases hx with e | e | e
     · rw [e];exact h.1.1 (by omega)
     · rw [e];exact h.1.2 (by omega)
     · rw [e];exact h.2 (by omega)
 obtain ⟨j,q,h8,h9,h10⟩:=made_by i (x:Int) (by omega) hmade
 have hrl:=(List.getElem?_eq_some_iff.1 hs).1
 rw [spans_len] at hrl
 obtain ⟨s',e1,_,e3,_⟩:=span_has h9 (x:=x) (by unfold regsOf;rcases h10 with e | e <;> simp [e]) (by omega)
 rw [hs] at e1
 cases e1
 omega
theorem begun {p:LP} (h0:(checkF p 64).2=0) {i x:Nat} {o:LOp} {s:Int×Int} (ho:p.ops[i]? = some o) (hs:(spansF p)[x]? = some s) (h1:s.1=i):o.kind≠17∧((x:Int)=o.d∨(x:Int)=o.e):=by
 have hb:=check_bal h0
 obtain ⟨t,h2,h3,h4⟩:=span_note hs
 obtain ⟨j,q,e1,e2,e3,e4,e5⟩:=h2.some_ (by omega)
 obtain rfl:j=i:=by omega
 rw [ho] at e3
 cases e3
 have hrl:=(List.getElem?_eq_some_iff.1 hs).1
 rw [spans_len] at hrl
 have hreg:=regs_is (check_fields h0 ho)
 by_cases hk:o.kind=17
 · exfalso
   obtain ⟨m,q,hm,hem,hq,hq16⟩:=ends_end hb ho hk
   unfold regsOf at e4
   rw [if_pos hk,hem,Int.toNat_natCast,hq] at e4
   have hr:=hreg.2.2
   obtain ⟨r1,r2,r3,r4,r5⟩:=hr
   have f1:o.d = -1:=by have:=r1;rw [hk] at this;exact this
   have f2:o.e = -1:=by have:=r2;rw [hk] at this;exact this
   have f3:o.a = -1:=by have:=r3;rw [hk] at this;exact this
   have f4:o.b = -1:=by have:=r4;rw [hk] at this;exact this
   have f5:o.c = -1:=by have:=r5;rw [hk] at this;exact this
   rw [f1,f2,f3,f4,f5] at e4
   have hx:(x:Int)=q.d:=by simpa using e4
   exact e5 m q hm hq (by unfold regsOf;simp [hx])
 · refine ⟨hk,?_⟩
   unfold regsOf at e4
   rw [if_neg hk] at e4
   simp only [List.append_nil,List.mem_cons,List.not_mem_nil,or_false] at e4
   rcases e4 with e | e | e | e | e
   · have:=took h0 ho hk (.inl e) hs;omega
   · have:=took h0 ho hk (.inr (.inl e)) hs;omega
   · have:=took h0 ho hk (.inr (.inr e)) hs;omega
   · exact .inl e
   · exact .inr e
end Go.Proofs.YtppoiahhaclleaaDoor
