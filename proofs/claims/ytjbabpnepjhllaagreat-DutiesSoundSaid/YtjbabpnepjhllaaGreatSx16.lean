/- Part 16 of a claim; what it proves stands in its last text. -/
import Derived.Test.YtjbabpnepjhllaaGreatSx15
import Derived.Test.YtjbabpnepjhllaaGreatSx7
import Derived.Laws.CopyRow
import Derived.Laws.MakeOwn
namespace Go.Proofs.YtjbabpnepjhllaaGreat
open Go.RowKit
set_option maxRecDepth 100000
variable {aD aE aF aG aH aJ u8 aK aL aM aN aO aP aQ aR aS aT aU aV aW aX aY aZ a7 a8 bA bB bC bD bE u32 bF bG bH bI bJ bK bL bM bN bO bP bQ bR bS bT bU bV bW bX bY bZ b9 cA cB cC cD cE cF cG cH cI u64 cJ cK cL cM cN cO cP cQ cR cS cT cU cV cW cX cY cZ dA dB dC dD dE dF dG dH dI dJ dK dL dM dN dO dP dQ dR dS dT dU dV dW dX dY dZ eA eB eC eD eE fV fW fX fY fZ f7 f8 f9 gA gB gC gD gE gF gG gH gI gJ gK gL gM gN gO gP gQ : Value}
structure MadeAt (w0 w:World) (bm gm n:Nat) (made:List Bool):Prop where
 below:Below w0.heap.size w0 w
 box:w.heap[bm]? = some (.cells #[.slice (some ⟨gm,0,none⟩) n n] 38 (0,0))
 row:w.ownsRow w0.heap.size 4 1 (.slice (some ⟨gm,0,none⟩) n n) n (made.map Value.bool)
 ne:bm≠gm
 ge:w0.heap.size≤bm
theorem MadeAt.len {w0 w:World} {bm gm n:Nat} {made:List Bool} (h:MadeAt w0 w bm gm n made):made.length=n:=by have:=h.row.1;simpa using this
theorem MadeAt.next {w0 w w':World} {bm gm n:Nat} {made:List Bool} (h:MadeAt w0 w bm gm n made) (hb:Below w.heap.size w w'):MadeAt w0 w' bm gm n made :=
 ⟨h.below.trans (hb.mono h.below.size),(hb.block bm (lt_of_block h.box)).trans h.box,own_next h.row hb,h.ne,h.ge⟩
theorem MadeAt.set {w0 w:World} {bm gm n:Nat} {made:List Bool} (h:MadeAt w0 w bm gm n made) (k:Nat) (b:Bool):MadeAt w0 (w.setCell ⟨gm,k,none⟩ (.bool b)) bm gm n (made.set k b):=by
 have hg:=(own_lt h.row gm rfl)
 refine ⟨⟨h.below.os,h.below.tape,h.below.output,by simpa using h.below.size,fun j hj=>(Below.heap_setCell _ _ _ j (fun e=>?_)).trans (h.below.block j hj)⟩,(Below.heap_setCell _ _ _ bm (fun e=>h.ne e)).trans h.box,?_,h.ne,h.ge⟩
 · simp only at e;omega
 · rw [List.map_set];exact own_set h.row k (.bool b)
theorem MadeAt.cell {w0 w:World} {bm gm n:Nat} {made:List Bool} (h:MadeAt w0 w bm gm n made):w.cell? ⟨bm,0,none⟩=some (.slice (some ⟨gm,0,none⟩) n n):=by simp [World.cell?,h.box]
theorem MadeAt.at_ {w0 w:World} {bm gm n:Nat} {made:List Bool} (h:MadeAt w0 w bm gm n made) {k:Nat} {b:Bool} (hk:made[k]? = some b):w.cell? ⟨gm,k,none⟩=some (.bool b):=own_cell h.row (by rw [List.getElem?_map,hk];rfl)
theorem MadeAt.frozen {w0 w:World} {bm gm n:Nat} {made:List Bool} (h:MadeAt w0 w bm gm n made) (k:Nat):w.frozen? ⟨gm,k,none⟩=false:=own_frozen h.row k
theorem MadeAt.lt {w0 w:World} {bm gm n:Nat} {made:List Bool} (h:MadeAt w0 w bm gm n made):bm < w.heap.size∧gm < w.heap.size:=⟨lt_of_block h.box,(own_lt h.row gm rfl).1⟩
theorem bits_own {w:World} {base g n c:Nat} {made:List Bool} (h:w.ownsRow base 4 1 (.slice (some ⟨g,0,none⟩) n c) n (made.map Value.bool)):BitsAt w (fun k=>k=g) (.slice (some ⟨g,0,none⟩) n c) made:=by
 have hl:made.length=n:=by have:=h.1;simpa using this
 have hnc:n≤c:=by obtain ⟨_,_,_,_,h,_⟩:=own_blk h;exact h
 refine ⟨some ⟨g,0,none⟩,c,by rw [List.length_map,hl],by rw [List.length_map,hl];exact hnc,fun r hr=>by obtain ⟨x,_,rfl⟩:=List.mem_map.1 hr;rfl,fun _=>⟨g,0,rfl,rfl,fun i j r u hr hu=>?_⟩⟩
 rw [List.getElem?_map] at hr
 obtain ⟨x,hx,rfl⟩:=Option.map_eq_some_iff.1 hr
 match j,hu with
 | 0,hu=>cases hu;rw [Nat.zero_add,Nat.mul_one,Nat.add_zero];exact own_cell h (by rw [List.getElem?_map,hx];rfl)
 | j+1,hu=>cases hu
def madeTo (vs:List KVar) (j:Nat):List Bool:=(vs.take j).map givenK++List.replicate (vs.length - j) false
theorem madeTo_next {vs:List KVar} {j:Nat} {v:KVar} (h:vs[j]? = some v):(madeTo vs j).set j (givenK v)=madeTo vs (j+1):=by
 have hj:j < vs.length:=(List.getElem?_eq_some_iff.1 h).1
 unfold madeTo
 rw [List.set_append,if_neg (by rw [List.length_map,List.length_take];omega),List.take_add_one,h,List.map_append,List.append_assoc]
 congr 1
 rw [List.length_map,List.length_take,show j - min j vs.length=0 by omega,show vs.length - j=(vs.length - (j+1))+1 by omega,List.replicate_succ]
 rfl
set_option maxHeartbeats 8000000 in
theorem chk_l2 {Av Ao Ar:Option Addr} {nv cv no co nr cr b0 bm gm:Nat} {k:Krn} {w0:World} (w:World) (Q:Exit→Act→World→Prop) (hk:KBox w0 b0 Av nv cv Ao no co Ar nr cr k) (hm:MadeAt w0 w bm gm nv (madeTo k.vars 0)) (hok:k.vars.length≤100000)
   (k1:∀ (gW gX gY gZ g9 hI hO hZ iA iB iC iD fC:Value) (w':World),MadeAt w0 w' bm gm nv (k.vars.map givenK)→Q ((.exit 2)) ⟨#[aD,.pointer (some ⟨b0,0,none⟩),aE,aF,aG,aH,.pointer (some ⟨bm,0,none⟩),gW,gX,aK,aL,aM,aN,aO,aP,aQ,aR,aS,aT,aU,aV,aW,aX,aY,aZ,a7,a8,bA,bB,bC,bD,bE,u32,bF,bG,bH,bI,bJ,bK,bL,bM,bN,bO,bP,bQ,bR,bS,bT,bU,bV,bW,bX,bY,bZ,b9,cA,cB,cC,cD,cE,cF,cG,cH,cI,u64,.slice Av nv cv,.int .i64 (nv:Nat),gY,gZ,g9,hI,hO,hZ,iA,iB,iC,iD,fC,cW,cX,cY,cZ,dA,dB,dC,dD,dE,dF,dG,dH,dI,dJ,dK,dL,dM,dN,dO,dP,dQ,dR,dS,dT,dU,dV,dW,dX,dY,dZ,eA,eB,eC,eD,eE,fV,fW,fX,fY,fZ,f7,f8,f9,gA,gB,gC,gD,gE,gF,gG,gH,gI,gJ,gK,gL,gM,gN,gO,gP,gQ],[]⟩ w'):(partL Tryz.f37 2).wp Tryz.prog Q ⟨#[aD,.pointer (some ⟨b0,0,none⟩),aE,aF,aG,aH,.pointer (some ⟨bm,0,none⟩),aJ,u8,aK,aL,aM,aN,aO,aP,aQ,aR,aS,aT,aU,aV,aW,aX,aY,aZ,a7,a8,bA,bB,bC,bD,bE,u32,bF,bG,bH,bI,bJ,bK,bL,bM,bN,bO,bP,bQ,bR,bS,bT,bU,bV,bW,bX,bY,bZ,b9,cA,cB,cC,cD,cE,cF,cG,cH,cI,u64,.slice Av nv cv,.int .i64 (nv:Nat),.int .i64 0,cM,cN,cO,cP,cQ,cR,cS,cT,cU,cV,cW,cX,cY,cZ,dA,dB,dC,dD,dE,dF,dG,dH,dI,dJ,dK,dL,dM,dN,dO,dP,dQ,dR,dS,dT,dU,dV,dW,dX,dY,dZ,eA,eB,eC,eD,eE,fV,fW,fX,fY,fZ,f7,f8,f9,gA,gB,gC,gD,gE,gF,gG,gH,gI,gJ,gK,gL,gM,gN,gO,gP,gQ],[]⟩ w:=by
 have HK:=Lh hk
 have HM:=Lh hm
 have K1:=Lh k1
 have HNV:=Lh hk.nv.1
 have n5:nv≤100000:=by have:=hk.nv.1;omega
 clear hk hok k1 hm
 conv=>arg 2;whnf
 go_wp2
 go_loopw [7,8,67] (fun _ _ i wr=>∃ j:Nat,j≤nv∧i=.int .i64 j∧MadeAt w0 wr bm gm nv (madeTo k.vars j)) (fun _ _ i _=>nv - (intOf i).toNat)
 case atStart=>exact ⟨0,by omega,rfl,HM.out⟩
 case round =>
   obtain ⟨j,hj,rfl,hm⟩:=hrel
   have HMR:=Lh hm
   by_cases hlt:j < nv
   · have d1:decide (j < nv)=true:=decide_eq_true hlt
     obtain ⟨v,hx⟩:∃ v,k.vars[j]? = some v:=⟨_,List.getElem?_eq_getElem (by have:=HNV.out;omega)⟩
     have HNX:=Lh (madeTo_next hx)
     obtain ⟨g,off,hA,hg,x0,x1,x2⟩:=(HK.out.next hm.below).vars.at_ hx
     subst hA
     have i0:(0:Int)≤(j:Int):=by omega
     have i1:(j:Int) < (nv:Int):=by omega
     have i2:IntKind.i64.wrap (j:Int)=j:=by rw [IntKind.wrap_i64];omega
     have hjm:∃ b,(madeTo k.vars j)[j]? = some b:=⟨_,List.getElem?_eq_getElem (by rw [hm.len];exact hlt)⟩
     obtain ⟨b,hb⟩:=hjm
     have HBJ:=Lh hb
     clear hm hg hx hb
     go_upto_region 14 with (first | go_in)
     obtain ⟨WV,hWV⟩:∃ W,W=wr.alloc (.cells #[.int .i64 v.limbs,.bool v.secret,.int .i64 v.mode] 60):=⟨_,rfl⟩
     rw [←hWV]
     have hbv:Below wr.heap.size wr WV:=by rw [hWV];exact (Below.refl _ _).alloc (Nat.le_refl _) _
     have hcv:∀ (i:Nat) (u:Value),#[Value.int .i64 v.limbs,.bool v.secret,.int .i64 v.mode][i]? = some u→WV.cell? ⟨wr.heap.size,i,none⟩=some u:=fun i u h=>by rw [hWV];exact cell_new wr _ _ h
     have hz:WV.heap.size=wr.heap.size+1:=by rw [hWV];simp
     have HMV:=Lh (HMR.out.next hbv)
     obtain ⟨q,hq⟩:∃ q,q=wr.heap.size:=⟨_,rfl⟩
     rw [←hq] at hcv hz ⊢
     have HFA:=Lh (show ∀ w_,Below WV.heap.size WV w_→w_.cell? ⟨bm,0,none⟩=some (.slice (some ⟨gm,0,none⟩) nv nv)∧w_.cell? ⟨q,0,none⟩=some (.int .i64 v.limbs)∧w_.cell? ⟨q,1,none⟩=some (.bool v.secret)∧w_.cell? ⟨q,2,none⟩=some (.int .i64 v.mode) from fun w_ h =>
       ⟨(HMV.out.next h).cell,(h.cell (p:=⟨q,0,none⟩) (show q < WV.heap.size by omega)).trans (hcv 0 _ rfl),(h.cell (p:=⟨q,1,none⟩) (show q < WV.heap.size by omega)).trans (hcv 1 _ rfl),(h.cell (p:=⟨q,2,none⟩) (show q < WV.heap.size by omega)).trans (hcv 2 _ rfl)⟩)
     have HGV:=Lh (fun w1=>given_any v w1)
     clear hWV hbv hcv hz hq x0 x1 x2
     have hS:=(Below.refl WV.heap.size WV).drew
     (refine wp_region_lines (Below WV.heap.size WV) (by kernel_rfl) (by kernel_rfl) (Below.refl WV.heap.size WV).drew ?_)
     (try simp only [])
     repeat (first | (refine runL_no (by rfl) ?_;(try simp only [Act.put,List.setIfInBounds_toArray,List.set_cons_zero,List.set_cons_succ])) | (refine runL_val (v:=?_) (by rfl) ?_ ?_;rotate_left;(focus (intro w_ hw_;obtain ⟨f0_,f1_,f2_,f3_⟩:=HFA.out w_ hw_;go_simp;(try with_reducible rfl);done));(try simp only [Act.put,List.setIfInBounds_toArray,List.set_cons_zero,List.set_cons_succ])) | (refine runL_call (f:=?_) (args:=?_) (w1:=?_) (by rfl) (by rfl) ?_ ?_;rotate_left 3;(focus (go_simp;refine ⟨⟨?_,?_⟩,?_⟩ <;> with_reducible rfl));(with_reducible refine (HGV.out _).mono ?_);rintro e w1 ⟨rfl,hb1⟩;replace hS:=hS.trans (hb1.mono hS.size);clear hb1;have HM1:=Lh (HMV.out.next hS);refine ⟨_,rfl,.inr hS,?_⟩;(try simp only [Act.put,List.setIfInBounds_toArray,List.set_cons_zero,List.set_cons_succ])) | (refine runL_skip (w1:=w1.setCell ⟨gm,j,none⟩ (.bool (givenK v))) (by rfl) (by rfl) (exec_store1 4 _ _ rfl gm j _ rfl rfl (by kernel_rfl) (by rw [HM1.out.at_ HBJ.out];rfl) (HM1.out.frozen j) rfl) (.inl ⟨rfl,by kernel_rfl⟩) ?_;(try simp only [Act.put])))
     (refine runL_nil ?_)
     have HM2:=Lh (HM1.out.set j (givenK v))
     clear hS
     go_wp2
     go_roundw
     case rel=>exact ⟨j+1,hlt,by go_num,by rw [←HNX.out];exact HM2.out⟩
     case measure=>simp [intOf];omega
   · have d1:decide (j < nv)=false:=decide_eq_false hlt
     have e:j=nv:=by omega
     subst e
     have HE:=Lh (show madeTo k.vars j=k.vars.map givenK by unfold madeTo;rw [HNV.out,List.take_length,Nat.sub_self];simp)
     clear hm
     go_wp2
     exact K1.out _ _ _ _ _ _ _ _ _ _ _ _ _ _ (by rw [←HE.out];exact HMR.out)
theorem opTo_next' {vs:List KVar} {ops:List KOp} {j:Nat} {o:KOp} {s:List Bool×Int} (h:opTo vs ops j=some s) (ho:ops[j]? = some o):opTo vs ops (j+1)=opStep vs o s:=by
 show (match opTo vs ops j,ops[j]? with | some s,some o=>opStep vs o s | _,_=>none)=_
 rw [h,ho]
theorem opTo_none {vs:List KVar} {ops:List KOp} {j:Nat} (h:opTo vs ops j=none):∀ m,j≤m→opTo vs ops m=none:=by
 intro m hm
 obtain ⟨d,rfl⟩:∃ d,m=j+d:=⟨m - j,by omega⟩
 induction d with
 | zero=>exact h
 | succ d ih =>
   have:=ih (by omega)
   show (match opTo vs ops (j+d),ops[j+d]? with | some s,some o=>opStep vs o s | _,_=>none)=none
   rw [this]
theorem takes_ok {vs:List KVar} {o:KOp} (h:oneK vs o=true):∀ v∈takesK o,0≤v∧v < (vs.length:Int):=by
 by_cases h17:o.kind=17
 · have hn:needK vs.length o=true:=by unfold oneK at h;rwa [if_pos h17] at h
   have h1:=need_in hn
   have hc:o.c = -1:=by
     unfold needK at hn
     simp only [Bool.and_eq_true,beq_iff_eq] at hn
     exact hn.2.2.1
   intro v hv
   unfold takesK at hv
   rw [if_neg (by omega),List.append_nil] at hv
   obtain ⟨h2,h3⟩:=List.mem_filter.1 hv
   simp only [decide_eq_true_eq] at h3
   simp only [List.mem_cons,List.not_mem_nil,or_false] at h2
   rcases h2 with rfl | rfl | rfl
   · exact h1.1
   · omega
   · omega
 · have hp:partsK vs.length o=true:=by
     unfold oneK at h
     rw [if_neg h17] at h
     simp only [Bool.and_eq_true] at h
     exact h.2.2.2.1
   exact takes_in hp
set_option maxHeartbeats 8000000 in
theorem chk_l4 {Av Ao Ar:Option Addr} {nv cv no co nr cr b0 bm gm:Nat} {k:Krn} {w0:World} (w:World) (Q:Exit→Act→World→Prop) (hk:KBox w0 b0 Av nv cv Ao no co Ar nr cr k) (hm:MadeAt w0 w bm gm nv (k.vars.map givenK)) (hok:k.vars.length≤100000∧k.ops.length≤4096) (hko:∀ o∈k.ops,KOpOk o)
   (k1:∀ (made:List Bool) (d:Int) (iE fG fH fI fJ fK fL fM fN fO fP fQ fR fS fT fU iF iG iH iI iJ iK iL iM iN iO iP iQ iR iS iT iU iV iW iX iY iZ jA jB jC:Value) (w':World),(opTo k.vars k.ops k.ops.length=some (made,d)∧MadeAt w0 w' bm gm nv made)→Q ((.exit 4)) ⟨#[aD,.pointer (some ⟨b0,0,none⟩),.int .i64 0,aF,aG,aH,.pointer (some ⟨bm,0,none⟩),aJ,u8,.int .i64 d,aL,iE,aN,aO,aP,aQ,aR,aS,aT,aU,aV,aW,aX,aY,aZ,a7,a8,bA,bB,bC,bD,bE,u32,bF,bG,bH,bI,bJ,bK,bL,bM,bN,bO,bP,bQ,bR,bS,bT,bU,bV,bW,bX,bY,bZ,b9,cA,cB,cC,cD,cE,cF,cG,cH,cI,u64,cJ,cK,cL,cM,cN,cO,cP,cQ,cR,cS,cT,cU,cV,cW,.slice Ao no co,.int .i64 (no:Nat),fG,fH,fI,fJ,fK,fL,fM,fN,fO,fP,fQ,fR,fS,fT,fU,iF,iG,iH,iI,iJ,iK,iL,iM,iN,iO,iP,iQ,iR,iS,iT,iU,iV,iW,iX,iY,iZ,jA,jB,jC,f9,gA,gB,gC,gD,gE,gF,gG,gH,gI,gJ,gK,gL,gM,gN,gO,gP,gQ],[]⟩ w') (k2:opTo k.vars k.ops k.ops.length=none→∀ (jD iE fG fH fI fJ fK fL fM fN fO fP fQ fR fS fT fU iF iG iH iI iJ iK iL iM iN iO iP iQ iR iS iT iU iV iW iX iY iZ jA jB jC:Value) (w':World),Below w0.heap.size w0 w'→Q (.ret) ⟨#[aD,.pointer (some ⟨b0,0,none⟩),.int .i64 2,aF,aG,aH,.pointer (some ⟨bm,0,none⟩),aJ,u8,jD,aL,iE,aN,aO,aP,aQ,aR,aS,aT,aU,aV,aW,aX,aY,aZ,a7,a8,bA,bB,bC,bD,bE,u32,bF,bG,bH,bI,bJ,bK,bL,bM,bN,bO,bP,bQ,bR,bS,bT,bU,bV,bW,bX,bY,bZ,b9,cA,cB,cC,cD,cE,cF,cG,cH,cI,u64,cJ,cK,cL,cM,cN,cO,cP,cQ,cR,cS,cT,cU,cV,cW,.slice Ao no co,.int .i64 (no:Nat),fG,fH,fI,fJ,fK,fL,fM,fN,fO,fP,fQ,fR,fS,fT,fU,iF,iG,iH,iI,iJ,iK,iL,iM,iN,iO,iP,iQ,iR,iS,iT,iU,iV,iW,iX,iY,iZ,jA,jB,jC,f9,gA,gB,gC,gD,gE,gF,gG,gH,gI,gJ,gK,gL,gM,gN,gO,gP,gQ],[]⟩ w'):(partL Tryz.f37 4).wp Tryz.prog Q ⟨#[aD,.pointer (some ⟨b0,0,none⟩),.int .i64 0,aF,aG,aH,.pointer (some ⟨bm,0,none⟩),aJ,u8,.int .i64 0,aL,aM,aN,aO,aP,aQ,aR,aS,aT,aU,aV,aW,aX,aY,aZ,a7,a8,bA,bB,bC,bD,bE,u32,bF,bG,bH,bI,bJ,bK,bL,bM,bN,bO,bP,bQ,bR,bS,bT,bU,bV,bW,bX,bY,bZ,b9,cA,cB,cC,cD,cE,cF,cG,cH,cI,u64,cJ,cK,cL,cM,cN,cO,cP,cQ,cR,cS,cT,cU,cV,cW,.slice Ao no co,.int .i64 (no:Nat),.int .i64 0,dA,dB,dC,dD,dE,dF,dG,dH,dI,dJ,dK,dL,dM,dN,dO,dP,dQ,dR,dS,dT,dU,dV,dW,dX,dY,dZ,eA,eB,eC,eD,eE,fV,fW,fX,fY,fZ,f7,f8,f9,gA,gB,gC,gD,gE,gF,gG,gH,gI,gJ,gK,gL,gM,gN,gO,gP,gQ],[]⟩ w:=by
 have HK:=Lh hk
 have HM:=Lh hm
 have K1:=Lh k1
 have K2:=Lh k2
 have HNV:=Lh hk.nv.1
 have HNO2:=Lh hk.nv.2.1
 have HKO2:=Lh hko
 have n5:nv≤100000:=by have:=hk.nv.1;omega
 have n6:no≤4096:=by have:=hk.nv.2.1;omega
 have hv5:=hok.1
 clear hk hok k1 k2 hm hko
 conv=>arg 2;whnf
 go_wp2
 go_loopw [2,9,11,81] (fun s2 s9 _ i wr=>∃ (j:Nat) (made:List Bool) (d:Int),j≤no∧i=.int .i64 j∧s9=.int .i64 d∧s2=.int .i64 0∧Hid (opTo k.vars k.ops j=some (made,d))∧MadeAt w0 wr bm gm nv made∧(0≤d∧d≤4)) (fun _ _ _ i _=>no - (intOf i).toNat)
 case atStart=>exact ⟨0,_,0,by omega,rfl,rfl,rfl,Lh rfl,HM.out,by omega⟩
 case round =>
   obtain ⟨j,made,d,hj,rfl,rfl,rfl,HT,hm,hd⟩:=hrel
   have HMR:=Lh hm
   by_cases hlt:j < no
   · have d1:decide (j < no)=true:=decide_eq_true hlt
     obtain ⟨o,hx⟩:∃ v,k.ops[j]? = some v:=⟨_,List.getElem?_eq_getElem (by have:=HNO2.out;omega)⟩
     have HNX:=Lh (opTo_next' HT.out hx)
     have HNO:=Lh (show opTo k.vars k.ops (j+1)=none→opTo k.vars k.ops k.ops.length=none from fun h=>opTo_none h _ (by have:=HNO2.out;omega))
     have HKOP:=Lh (HKO2.out o (List.mem_of_getElem? hx))
     obtain ⟨g,off,hA,hg,x0,x1,x2,x3,x4,x5,x6⟩:=(HK.out.next hm.below).ops.at_ hx
     subst hA
     have i0:(0:Int)≤(j:Int):=by omega
     have i1:(j:Int) < (no:Int):=by omega
     clear hm hg hx
     go_upto_region 20 with (first | go_in)
     obtain ⟨WO,hWO⟩:∃ W,W=wr.alloc (.cells #[.int .i64 o.kind,.int .i64 o.d,.int .i64 o.e,.int .i64 o.a,.int .i64 o.b,.int .i64 o.c,.int .u64 o.imm] 43):=⟨_,rfl⟩
     rw [←hWO]
     have hbo:Below wr.heap.size wr WO:=by rw [hWO];exact (Below.refl _ _).alloc (Nat.le_refl _) _
     have hob:OpBox WO wr.heap.size o:=OpBox.of (t:=43) (fr:=(0,0)) (by rw [hWO];exact heap_alloc_new wr _)
     have hz:WO.heap.size=wr.heap.size+1:=by rw [hWO];simp
     have HO:=Lh hob
     have HMO:=Lh (HMR.out.next hbo)
     have HKO:=Lh (HK.out.next HMO.out.below)
     have HZ:=Lh (show wr.heap.size < WO.heap.size by omega)
     obtain ⟨bo,hbo2⟩:∃ b,b=wr.heap.size:=⟨_,rfl⟩
     rw [←hbo2] at HO HZ ⊢
     have y0:=HO.out.kind
     have y1:=HO.out.d
     have y2:=HO.out.e
     have y3:=HO.out.a
     have y4:=HO.out.b
     have y5:=HO.out.c
     have y6:=HO.out.imm
     have p0:=HKO.out.c0
     clear hWO hbo hob hz x0 x1 x2 x3 x4 x5 x6 hbo2
     have HONE:=Lh (fun (w1:World) (h1:Below WO.heap.size WO w1)=>one_any Av nv cv k.vars o w1 _ (HKO.out.next h1).vars (fun k hk=>hk) HKOP.out hv5)
     have HTK:=Lh (fun w1=>takes_any o w1)
     cases hok:oneK k.vars o
     · have HN:=Lh (show opTo k.vars k.ops (j+1)=none by rw [HNX.out];unfold opStep;rw [if_pos hok])
       rw [hok] at HONE
       clear hok
       go_upto_region 21 with (first
         | ((with_reducible refine (HONE.out _ (Below.refl _ _)).mono ?_);rintro e w1 ⟨rfl,hb1⟩;have HB1:=Lh hb1;have y0:=(HO.out.next hb1 HZ.out).kind;have y1:=(HO.out.next hb1 HZ.out).d;have y2:=(HO.out.next hb1 HZ.out).e;have y3:=(HO.out.next hb1 HZ.out).a;have y4:=(HO.out.next hb1 HZ.out).b;have y5:=(HO.out.next hb1 HZ.out).c;have y6:=(HO.out.next hb1 HZ.out).imm;clear hb1)
         | ((with_reducible refine (HTK.out _).mono ?_);rintro e w2 ⟨A2,n2,e2,rfl,hn2,hb2⟩;have HN2:=Lh hn2;have HB2:=Lh (HB1.out.trans (hb2.mono HB1.out.size));clear hn2 hb2)
         | ((with_reducible refine (HCF.out w2 A2 n2 e2 HB2.out HN2.out).mono ?_);rintro e w3 ⟨rfl,hb3⟩;have HB3:=Lh (HB2.out.trans (hb3.mono HB2.out.size));clear hb3)
         | go_in)
       go_wp2
       exact K2.out (HNO.out HN.out) _ _ _ _ _ _ _ _ _ _ _ _ _ _ _ _ _ _ _ _ _ _ _ _ _ _ _ _ _ _ _ _ _ _ _ _ _ _ _ _ _ _ (HMO.out.next HB1.out).below
     have hti:=takes_ok hok
     have HONK:=Lh hok
     have HDL:=Lh (show o.d < (nv:Int) by
       have h1:=oneK_parts hok
       have h2:=h1.d
       have h3:=HNV.out
       split at h2
       · omega
       · omega)
     rw [hok] at HONE
     have HCF:=Lh (fun (w2:World) (A:Option Addr) (n c:Nat) (h3:Below WO.heap.size WO w2) (h4:NumsAt w2 (fun k=>k < w2.heap.size) (.slice A n c) (takesK o))=>ContainsFunc_Int (.slice A n c) 66 #[.pointer (some ⟨bm,0,none⟩)] w2 (fun k=>k < w2.heap.size) (takesK o) (fun v=>!(made.getD v.toNat false)) (by unfold takesK;rw [List.length_append];have:=List.length_filter_le (fun v:Int=>decide (0≤v)) [o.a,o.b,o.c];split <;> simp at * <;> omega) (enters_of Tryz.func66 (by kernel_rfl) rfl) h4 (fun k hk=>hk)
       (fun x hx w4 h5=>chk2_any x made (some ⟨gm,0,none⟩) nv nv bm w4 _ ((HMO.out.next h3).next h5).cell (bits_own ((HMO.out.next h3).next h5).row) (by have h1:=hti x hx;have h2:=HNV.out;have h3:=HMO.out.len;omega)))
     clear hti hok
     cases hany:((takesK o).any fun v=>!(made.getD v.toNat false))
     rotate_left
     · have HN:=Lh (show opTo k.vars k.ops (j+1)=none by rw [HNX.out];unfold opStep;rw [if_neg (by rw [HONK.out];simp),if_pos hany])
       rw [hany] at HCF
       clear hany
       go_upto_region 21 with (first
         | ((with_reducible refine (HONE.out _ (Below.refl _ _)).mono ?_);rintro e w1 ⟨rfl,hb1⟩;have HB1:=Lh hb1;have y0:=(HO.out.next hb1 HZ.out).kind;have y1:=(HO.out.next hb1 HZ.out).d;have y2:=(HO.out.next hb1 HZ.out).e;have y3:=(HO.out.next hb1 HZ.out).a;have y4:=(HO.out.next hb1 HZ.out).b;have y5:=(HO.out.next hb1 HZ.out).c;have y6:=(HO.out.next hb1 HZ.out).imm;clear hb1)
         | ((with_reducible refine (HTK.out _).mono ?_);rintro e w2 ⟨A2,n2,e2,rfl,hn2,hb2⟩;have HN2:=Lh hn2;have HB2:=Lh (HB1.out.trans (hb2.mono HB1.out.size));clear hn2 hb2)
         | ((with_reducible refine (HCF.out w2 A2 n2 e2 HB2.out HN2.out).mono ?_);rintro e w3 ⟨rfl,hb3⟩;have HB3:=Lh (HB2.out.trans (hb3.mono HB2.out.size));clear hb3)
         | go_in)
       go_wp2
       exact K2.out (HNO.out HN.out) _ _ _ _ _ _ _ _ _ _ _ _ _ _ _ _ _ _ _ _ _ _ _ _ _ _ _ _ _ _ _ _ _ _ _ _ _ _ _ _ _ _ (HMO.out.next HB3.out).below
     have HANY:=Lh hany
     rw [hany] at HCF
     clear hany
     go_upto_region 22 with (first
       | ((with_reducible refine (HONE.out _ (Below.refl _ _)).mono ?_);rintro e w1 ⟨rfl,hb1⟩;have HB1:=Lh hb1;have y0:=(HO.out.next hb1 HZ.out).kind;have y1:=(HO.out.next hb1 HZ.out).d;have y2:=(HO.out.next hb1 HZ.out).e;have y3:=(HO.out.next hb1 HZ.out).a;have y4:=(HO.out.next hb1 HZ.out).b;have y5:=(HO.out.next hb1 HZ.out).c;have y6:=(HO.out.next hb1 HZ.out).imm;clear hb1)
       | ((with_reducible refine (HTK.out _).mono ?_);rintro e w2 ⟨A2,n2,e2,rfl,hn2,hb2⟩;have HN2:=Lh hn2;have HB2:=Lh (HB1.out.trans (hb2.mono HB1.out.size));clear hn2 hb2)
       | ((with_reducible refine (HCF.out w2 A2 n2 e2 HB2.out HN2.out).mono ?_);rintro e w3 ⟨rfl,hb3⟩;have HB3:=Lh (HB2.out.trans (hb3.mono HB2.out.size));clear hb3)
       | go_in)
     have HMW:=Lh (HMO.out.next HB3.out)
     have HOW:=Lh (HO.out.next HB3.out HZ.out)
     clear y0 y1 y2 y3 y4 y5 y6 p0
     have y0:=(HOW.out).kind
     have y1:=(HOW.out).d
     have y2:=(HOW.out).e
     have y3:=(HOW.out).a
     have y4:=(HOW.out).b
     have y5:=(HOW.out).c
     have y6:=(HOW.out).imm
     by_cases h15:o.kind=15
     · have e15:(o.kind == 15)=true:=by rw [beq_iff_eq];exact h15
       have HE:=Lh (show (if o.kind=15 then d+1 else if o.kind=16 then d - 1 else d)=d+1 by rw [if_pos h15])
       have hw1:IntKind.i64.wrap (d+1)=d+1:=by rw [IntKind.wrap_i64];omega
       clear h15
       cases d6:decide ((d+1) < 0)
       rotate_left
       · have HN:=Lh (show opTo k.vars k.ops (j+1)=none by rw [HNX.out];unfold opStep;rw [if_neg (by rw [HONK.out];simp),if_neg (by rw [HANY.out];simp)];dsimp only;rw [HE.out,if_pos (.inl (by simpa using d6))])
         go_wp2
         exact K2.out (HNO.out HN.out) _ _ _ _ _ _ _ _ _ _ _ _ _ _ _ _ _ _ _ _ _ _ _ _ _ _ _ _ _ _ _ _ _ _ _ _ _ _ _ _ _ _ HMW.out.below
       cases d7:decide (4 < (d+1))
       rotate_left
       · have HN:=Lh (show opTo k.vars k.ops (j+1)=none by rw [HNX.out];unfold opStep;rw [if_neg (by rw [HONK.out];simp),if_neg (by rw [HANY.out];simp)];dsimp only;rw [HE.out,if_pos (.inr (by simpa using d7))])
         go_wp2
         exact K2.out (HNO.out HN.out) _ _ _ _ _ _ _ _ _ _ _ _ _ _ _ _ _ _ _ _ _ _ _ _ _ _ _ _ _ _ _ _ _ _ _ _ _ _ _ _ _ _ HMW.out.below
       have hbd:0≤(d+1)∧(d+1)≤4:=by have:=of_decide_eq_false d6;have:=of_decide_eq_false d7;omega
       have HBD:=Lh hbd
       by_cases hd0:0≤o.d
       · have d8:decide (0≤o.d)=true:=decide_eq_true hd0
         have HN:=Lh (show opTo k.vars k.ops (j+1)=some (made.set o.d.toNat true,(d+1)) by rw [HNX.out];unfold opStep;rw [if_neg (by rw [HONK.out];simp),if_neg (by rw [HANY.out];simp)];dsimp only;rw [HE.out,if_neg (by omega),if_pos hd0])
         obtain ⟨m,hm⟩:∃ m:Nat,o.d=m:=⟨o.d.toNat,by omega⟩
         have hml:m < nv:=by have:=HDL.out;omega
         obtain ⟨b,hb⟩:∃ b,made[m]? = some b:=⟨_,List.getElem?_eq_getElem (by rw [HMW.out.len];exact hml)⟩
         have g0:=HMW.out.cell
         have g1:=HMW.out.at_ hb
         have g2:=HMW.out.frozen m
         have HS:=Lh (HMW.out.set m true)
         have HDM:=Lh hm
         have i5:(0:Int)≤(m:Int):=by omega
         have i6:(m:Int) < (nv:Int):=by omega
         have i7:IntKind.i64.wrap (m:Int)=m:=by rw [IntKind.wrap_i64];omega
         rw [hm] at y1 d8 HN
         rw [Int.toNat_natCast] at HN
         clear hm hml hb hbd hd0
         go_wp2
         go_roundw
         case rel=>exact ⟨j+1,_,_,hlt,by go_num,rfl,rfl,HN,HS.out,HBD.out⟩
         case measure=>simp [intOf];omega
       · have d8:decide (0≤o.d)=false:=decide_eq_false hd0
         have HN:=Lh (show opTo k.vars k.ops (j+1)=some (made,(d+1)) by rw [HNX.out];unfold opStep;rw [if_neg (by rw [HONK.out];simp),if_neg (by rw [HANY.out];simp)];dsimp only;rw [HE.out,if_neg (by omega),if_neg hd0])
         clear hbd hd0
         go_wp2
         go_roundw
         case rel=>exact ⟨j+1,_,_,hlt,by go_num,rfl,rfl,HN,HMW.out,HBD.out⟩
         case measure=>simp [intOf];omega
     have e15:(o.kind == 15)=false:=beq_eq_false_iff_ne.2 h15
     by_cases h16:o.kind=16
     · have e16:(o.kind == 16)=true:=by rw [beq_iff_eq];exact h16
       have HE:=Lh (show (if o.kind=15 then d+1 else if o.kind=16 then d - 1 else d)=d - 1 by rw [if_neg h15,if_pos h16])
       have hw1:IntKind.i64.wrap (d - 1)=d - 1:=by rw [IntKind.wrap_i64];omega
       clear h15 h16
       cases d6:decide ((d - 1) < 0)
       rotate_left
       · have HN:=Lh (show opTo k.vars k.ops (j+1)=none by rw [HNX.out];unfold opStep;rw [if_neg (by rw [HONK.out];simp),if_neg (by rw [HANY.out];simp)];dsimp only;rw [HE.out,if_pos (.inl (by simpa using d6))])
         go_wp2
         exact K2.out (HNO.out HN.out) _ _ _ _ _ _ _ _ _ _ _ _ _ _ _ _ _ _ _ _ _ _ _ _ _ _ _ _ _ _ _ _ _ _ _ _ _ _ _ _ _ _ HMW.out.below
       cases d7:decide (4 < (d - 1))
       rotate_left
       · have HN:=Lh (show opTo k.vars k.ops (j+1)=none by rw [HNX.out];unfold opStep;rw [if_neg (by rw [HONK.out];simp),if_neg (by rw [HANY.out];simp)];dsimp only;rw [HE.out,if_pos (.inr (by simpa using d7))])
         go_wp2
         exact K2.out (HNO.out HN.out) _ _ _ _ _ _ _ _ _ _ _ _ _ _ _ _ _ _ _ _ _ _ _ _ _ _ _ _ _ _ _ _ _ _ _ _ _ _ _ _ _ _ HMW.out.below
       have hbd:0≤(d - 1)∧(d - 1)≤4:=by have:=of_decide_eq_false d6;have:=of_decide_eq_false d7;omega
       have HBD:=Lh hbd
       by_cases hd0:0≤o.d
       · have d8:decide (0≤o.d)=true:=decide_eq_true hd0
         have HN:=Lh (show opTo k.vars k.ops (j+1)=some (made.set o.d.toNat true,(d - 1)) by rw [HNX.out];unfold opStep;rw [if_neg (by rw [HONK.out];simp),if_neg (by rw [HANY.out];simp)];dsimp only;rw [HE.out,if_neg (by omega),if_pos hd0])
         obtain ⟨m,hm⟩:∃ m:Nat,o.d=m:=⟨o.d.toNat,by omega⟩
         have hml:m < nv:=by have:=HDL.out;omega
         obtain ⟨b,hb⟩:∃ b,made[m]? = some b:=⟨_,List.getElem?_eq_getElem (by rw [HMW.out.len];exact hml)⟩
         have g0:=HMW.out.cell
         have g1:=HMW.out.at_ hb
         have g2:=HMW.out.frozen m
         have HS:=Lh (HMW.out.set m true)
         have HDM:=Lh hm
         have i5:(0:Int)≤(m:Int):=by omega
         have i6:(m:Int) < (nv:Int):=by omega
         have i7:IntKind.i64.wrap (m:Int)=m:=by rw [IntKind.wrap_i64];omega
         rw [hm] at y1 d8 HN
         rw [Int.toNat_natCast] at HN
         clear hm hml hb hbd hd0
         go_wp2
         go_roundw
         case rel=>exact ⟨j+1,_,_,hlt,by go_num,rfl,rfl,HN,HS.out,HBD.out⟩
         case measure=>simp [intOf];omega
       · have d8:decide (0≤o.d)=false:=decide_eq_false hd0
         have HN:=Lh (show opTo k.vars k.ops (j+1)=some (made,(d - 1)) by rw [HNX.out];unfold opStep;rw [if_neg (by rw [HONK.out];simp),if_neg (by rw [HANY.out];simp)];dsimp only;rw [HE.out,if_neg (by omega),if_neg hd0])
         clear hbd hd0
         go_wp2
         go_roundw
         case rel=>exact ⟨j+1,_,_,hlt,by go_num,rfl,rfl,HN,HMW.out,HBD.out⟩
         case measure=>simp [intOf];omega
     have e16:(o.kind == 16)=false:=beq_eq_false_iff_ne.2 h16
     have HE:=Lh (show (if o.kind=15 then d+1 else if o.kind=16 then d - 1 else d)=d by rw [if_neg h15,if_neg h16])
     clear h15 h16
     cases d6:decide (d < 0)
     rotate_left
     · have HN:=Lh (show opTo k.vars k.ops (j+1)=none by rw [HNX.out];unfold opStep;rw [if_neg (by rw [HONK.out];simp),if_neg (by rw [HANY.out];simp)];dsimp only;rw [HE.out,if_pos (.inl (by simpa using d6))])
       go_wp2
       exact K2.out (HNO.out HN.out) _ _ _ _ _ _ _ _ _ _ _ _ _ _ _ _ _ _ _ _ _ _ _ _ _ _ _ _ _ _ _ _ _ _ _ _ _ _ _ _ _ _ HMW.out.below
     cases d7:decide (4 < d)
     rotate_left
     · have HN:=Lh (show opTo k.vars k.ops (j+1)=none by rw [HNX.out];unfold opStep;rw [if_neg (by rw [HONK.out];simp),if_neg (by rw [HANY.out];simp)];dsimp only;rw [HE.out,if_pos (.inr (by simpa using d7))])
       go_wp2
       exact K2.out (HNO.out HN.out) _ _ _ _ _ _ _ _ _ _ _ _ _ _ _ _ _ _ _ _ _ _ _ _ _ _ _ _ _ _ _ _ _ _ _ _ _ _ _ _ _ _ HMW.out.below
     have hbd:0≤d∧d≤4:=by have:=of_decide_eq_false d6;have:=of_decide_eq_false d7;omega
     have HBD:=Lh hbd
     by_cases hd0:0≤o.d
     · have d8:decide (0≤o.d)=true:=decide_eq_true hd0
       have HN:=Lh (show opTo k.vars k.ops (j+1)=some (made.set o.d.toNat true,d) by rw [HNX.out];unfold opStep;rw [if_neg (by rw [HONK.out];simp),if_neg (by rw [HANY.out];simp)];dsimp only;rw [HE.out,if_neg (by omega),if_pos hd0])
       obtain ⟨m,hm⟩:∃ m:Nat,o.d=m:=⟨o.d.toNat,by omega⟩
       have hml:m < nv:=by have:=HDL.out;omega
       obtain ⟨b,hb⟩:∃ b,made[m]? = some b:=⟨_,List.getElem?_eq_getElem (by rw [HMW.out.len];exact hml)⟩
       have g0:=HMW.out.cell
       have g1:=HMW.out.at_ hb
       have g2:=HMW.out.frozen m
       have HS:=Lh (HMW.out.set m true)
       have HDM:=Lh hm
       have i5:(0:Int)≤(m:Int):=by omega
       have i6:(m:Int) < (nv:Int):=by omega
       have i7:IntKind.i64.wrap (m:Int)=m:=by rw [IntKind.wrap_i64];omega
       rw [hm] at y1 d8 HN
       rw [Int.toNat_natCast] at HN
       clear hm hml hb hbd hd0
       go_wp2
       go_roundw
       case rel=>exact ⟨j+1,_,_,hlt,by go_num,rfl,rfl,HN,HS.out,HBD.out⟩
       case measure=>simp [intOf];omega
     · have d8:decide (0≤o.d)=false:=decide_eq_false hd0
       have HN:=Lh (show opTo k.vars k.ops (j+1)=some (made,d) by rw [HNX.out];unfold opStep;rw [if_neg (by rw [HONK.out];simp),if_neg (by rw [HANY.out];simp)];dsimp only;rw [HE.out,if_neg (by omega),if_neg hd0])
       clear hbd hd0
       go_wp2
       go_roundw
       case rel=>exact ⟨j+1,_,_,hlt,by go_num,rfl,rfl,HN,HMW.out,HBD.out⟩
       case measure=>simp [intOf];omega
   · have d1:decide (j < no)=false:=decide_eq_false hlt
     have HN:=Lh (show opTo k.vars k.ops k.ops.length=some (made,d) by rw [←HT.out];congr 1;have:=HNO2.out;omega)
     clear hm
     go_wp2
     exact K1.out made d _ _ _ _ _ _ _ _ _ _ _ _ _ _ _ _ _ _ _ _ _ _ _ _ _ _ _ _ _ _ _ _ _ _ _ _ _ _ _ _ _ ⟨HN.out,HMR.out⟩
set_option maxHeartbeats 8000000 in
theorem chk_l7 {Av Ao Ar:Option Addr} {nv cv no co nr cr b0 bm gm:Nat} {k:Krn} {w0:World} {made:List Bool} (w:World) (Q:Exit→Act→World→Prop) (hk:KBox w0 b0 Av nv cv Ao no co Ar nr cr k) (hm:MadeAt w0 w bm gm nv made) (hok:k.vars.length≤100000)
   (k1:(List.range k.vars.length).all (fun i:Nat=>!outK k.vars (i:Nat) || made.getD i false)=true→∀ (jE jF jG jH jI jJ jK jL jM jN jO jP jQ jR jS:Value) (w':World),MadeAt w0 w' bm gm nv made→Q ((.exit 7)) ⟨#[aD,.pointer (some ⟨b0,0,none⟩),.int .i64 0,.func (.func 60) #[] #[.pointer (some ⟨b0,0,none⟩)],aG,aH,.pointer (some ⟨bm,0,none⟩),aJ,u8,aK,aL,aM,jE,aO,aP,aQ,aR,aS,aT,aU,aV,aW,aX,aY,aZ,a7,a8,bA,bB,bC,bD,bE,u32,bF,bG,bH,bI,bJ,bK,bL,bM,bN,bO,bP,bQ,bR,bS,bT,bU,bV,bW,bX,bY,bZ,b9,cA,cB,cC,cD,cE,cF,cG,cH,cI,u64,cJ,cK,cL,cM,cN,cO,cP,cQ,cR,cS,cT,cU,cV,cW,cX,cY,cZ,dA,dB,dC,dD,dE,dF,dG,dH,dI,dJ,dK,dL,dM,dN,dO,dP,dQ,dR,dS,dT,dU,dV,dW,dX,dY,dZ,eA,eB,eC,eD,eE,fV,fW,fX,fY,fZ,f7,f8,f9,.int .i64 (nv:Nat),jF,jG,jH,jI,jJ,jK,jL,jM,jN,jO,jP,jQ,jR,jS,gP,gQ],[]⟩ w') (k2:(List.range k.vars.length).all (fun i:Nat=>!outK k.vars (i:Nat) || made.getD i false)=false→∀ (jE jF jG jH jI jJ jK jL jM jN jO jP jQ jR jS:Value) (w':World),Below w0.heap.size w0 w'→Q (.ret) ⟨#[aD,.pointer (some ⟨b0,0,none⟩),.int .i64 2,.func (.func 60) #[] #[.pointer (some ⟨b0,0,none⟩)],aG,aH,.pointer (some ⟨bm,0,none⟩),aJ,u8,aK,aL,aM,jE,aO,aP,aQ,aR,aS,aT,aU,aV,aW,aX,aY,aZ,a7,a8,bA,bB,bC,bD,bE,u32,bF,bG,bH,bI,bJ,bK,bL,bM,bN,bO,bP,bQ,bR,bS,bT,bU,bV,bW,bX,bY,bZ,b9,cA,cB,cC,cD,cE,cF,cG,cH,cI,u64,cJ,cK,cL,cM,cN,cO,cP,cQ,cR,cS,cT,cU,cV,cW,cX,cY,cZ,dA,dB,dC,dD,dE,dF,dG,dH,dI,dJ,dK,dL,dM,dN,dO,dP,dQ,dR,dS,dT,dU,dV,dW,dX,dY,dZ,eA,eB,eC,eD,eE,fV,fW,fX,fY,fZ,f7,f8,f9,.int .i64 (nv:Nat),jF,jG,jH,jI,jJ,jK,jL,jM,jN,jO,jP,jQ,jR,jS,gP,gQ],[]⟩ w'):(partL Tryz.f37 7).wp Tryz.prog Q ⟨#[aD,.pointer (some ⟨b0,0,none⟩),.int .i64 0,.func (.func 60) #[] #[.pointer (some ⟨b0,0,none⟩)],aG,aH,.pointer (some ⟨bm,0,none⟩),aJ,u8,aK,aL,aM,aN,aO,aP,aQ,aR,aS,aT,aU,aV,aW,aX,aY,aZ,a7,a8,bA,bB,bC,bD,bE,u32,bF,bG,bH,bI,bJ,bK,bL,bM,bN,bO,bP,bQ,bR,bS,bT,bU,bV,bW,bX,bY,bZ,b9,cA,cB,cC,cD,cE,cF,cG,cH,cI,u64,cJ,cK,cL,cM,cN,cO,cP,cQ,cR,cS,cT,cU,cV,cW,cX,cY,cZ,dA,dB,dC,dD,dE,dF,dG,dH,dI,dJ,dK,dL,dM,dN,dO,dP,dQ,dR,dS,dT,dU,dV,dW,dX,dY,dZ,eA,eB,eC,eD,eE,fV,fW,fX,fY,fZ,f7,f8,f9,.int .i64 (nv:Nat),.int .i64 0,gC,gD,gE,gF,gG,gH,gI,gJ,gK,gL,gM,gN,gO,gP,gQ],[]⟩ w:=by
 have HK:=Lh hk
 have HM:=Lh hm
 have K1:=Lh k1
 have K2:=Lh k2
 have HNV:=Lh hk.nv.1
 have n5:nv≤100000:=by have:=hk.nv.1;omega
 clear hk hok k1 k2 hm
 conv=>arg 2;whnf
 go_wp2
 go_loopw [2,12,122] (fun s2 _ i wr=>∃ j:Nat,j≤nv∧i=.int .i64 j∧s2=.int .i64 0∧Hid (((List.range k.vars.length).take j).all (fun i:Nat=>!outK k.vars (i:Nat) || made.getD i false)=true)∧MadeAt w0 wr bm gm nv made) (fun _ _ i _=>nv - (intOf i).toNat)
 case atStart=>exact ⟨0,by omega,rfl,rfl,Lh rfl,HM.out⟩
 case round =>
   obtain ⟨j,hj,rfl,rfl,HT,hm⟩:=hrel
   have HMR:=Lh hm
   by_cases hlt:j < nv
   · have d1:decide (j < nv)=true:=decide_eq_true hlt
     obtain ⟨b,hb⟩:∃ b,made[j]? = some b:=⟨_,List.getElem?_eq_getElem (by rw [hm.len];exact hlt)⟩
     have hbd:made.getD j false=b:=by rw [List.getD_eq_getElem?_getD,hb];rfl
     have hr:(List.range k.vars.length)[j]? = some j:=by rw [List.getElem?_range (by have:=HNV.out;omega)]
     have HC1:=Lh (fun (w1:World) (h1:Below w0.heap.size w0 w1)=>chk1_any (j:Int) k.vars Av nv cv b0 w1 _ (HK.out.next h1).c0 (HK.out.next h1).vars (by have:=HNV.out;omega))
     have i0:(0:Int)≤(j:Int):=by omega
     have i1:(j:Int) < (nv:Int):=by omega
     have i2:IntKind.i64.wrap (j:Int)=j:=by rw [IntKind.wrap_i64];omega
     have HB:=Lh hb
     have HR:=Lh hr
     have HBD:=Lh hbd
     obtain ⟨q,hq⟩:∃ q,outK k.vars (j:Int)=q:=⟨_,rfl⟩
     have HQ:=Lh hq
     rw [hq] at HC1
     clear hm hb hr hbd hq
     cases q
     · have HN:=Lh (alls_next HT.out HR.out (by rw [HQ.out];rfl))
       go_wp2_with (first | ((with_reducible refine (HC1.out _ HMR.out.below).mono ?_);rintro e w1 ⟨rfl,hb1⟩;have HM1:=Lh (HMR.out.next hb1);clear hb1) | go_in)
       go_roundw
       case rel=>exact ⟨j+1,hlt,by go_num,rfl,HN,HM1.out⟩
       case measure=>simp [intOf];omega
     · cases b
       · have HN:=Lh (alls_here (l:=List.range k.vars.length) (p:=fun i:Nat=>!outK k.vars (i:Nat) || made.getD i false) HR.out (by rw [HQ.out,HBD.out];rfl))
         go_wp2_with (first | ((with_reducible refine (HC1.out _ HMR.out.below).mono ?_);rintro e w1 ⟨rfl,hb1⟩;have HM1:=Lh (HMR.out.next hb1);have g0:=HM1.out.cell;have g1:=HM1.out.at_ HB.out;clear hb1) | go_in)
         exact K2.out HN.out _ _ _ _ _ _ _ _ _ _ _ _ _ _ _ _ HM1.out.below
       · have HN:=Lh (alls_next HT.out HR.out (by rw [HQ.out,HBD.out];rfl))
         go_wp2_with (first | ((with_reducible refine (HC1.out _ HMR.out.below).mono ?_);rintro e w1 ⟨rfl,hb1⟩;have HM1:=Lh (HMR.out.next hb1);have g0:=HM1.out.cell;have g1:=HM1.out.at_ HB.out;clear hb1) | go_in)
         go_roundw
         case rel=>exact ⟨j+1,hlt,by go_num,rfl,HN,HM1.out⟩
         case measure=>simp [intOf];omega
   · have d1:decide (j < nv)=false:=decide_eq_false hlt
     have HN:=Lh (alls_whole HT.out (by rw [List.length_range];have:=HNV.out;omega))
     clear hm
     go_wp2
     exact K1.out HN.out _ _ _ _ _ _ _ _ _ _ _ _ _ _ _ _ HMR.out
end Go.Proofs.YtjbabpnepjhllaaGreat
namespace Go.Proofs.YtjbabpnepjhllaaGreat
open Go.RowKit
set_option maxRecDepth 100000
theorem errK_eq (k:Krn):errK k=if varsK k.vars && (decide (k.ops.length≤4096) && (decide (k.reqs.length≤4096) && (k.reqs.all (reqK k.vars) && opsK k.vars k.ops))) then 0 else 2:=by unfold errK checkK;rfl
theorem kbox_of {W:World} {b:Nat} {Av Ao Ar:Option Addr} {nv cv no co nr cr:Nat} {k:Krn} {t:TypeId} {fr:Nat×Nat} (h:W.heap[b]? = some (.cells #[.slice Av nv cv,.slice Ao no co,.slice Ar nr cr] t fr)) (hk:KernAt W (fun k=>k < W.heap.size) [.slice Av nv cv,.slice Ao no co,.slice Ar nr cr] k) :
   KBox W b Av nv cv Ao no co Ar nr cr k:=by
 obtain ⟨vv,vo,vr,e,h1,h2,h3⟩:=hk.row
 simp only [List.cons.injEq,and_true] at e
 obtain ⟨rfl,rfl,rfl⟩:=e
 exact ⟨by simp [World.cell?,h],by simp [World.cell?,h],by simp [World.cell?,h],lt_of_block h,h1,h2,h3⟩
theorem infoB:(Tryz.prog.info? 4).map (fun i=>(i.zero,i.size,i.bytes))=some (some (.bool false),1,1):=by kernel_rfl
theorem make_bool (n:Nat) (hn:n≤100000) (w:World):(Instr.makeSlice 38 (.int .i64 n) (.int .i64 n)).run Tryz.prog w=.ok (.slice (some ⟨w.heap.size,0,none⟩) n n) (w.alloc (.cells ((List.replicate n false).map Value.bool).toArray 4)):=by
 obtain ⟨i0,hi,hz0,hz1,hz2⟩:=info_parts infoB
 have h:=run_make (P:=Tryz.prog) w 38 4 i0 (.bool false) Tryz.underlying38 hi hz0 .i64 .i64 n n (by omega) (by omega) (by rw [hz2];omega) (by omega)
 rw [hz1] at h
 have e:(Value.bool false).cells=#[.bool false]:=rfl
 have e2:madeCells #[.bool false] n=((List.replicate n false).map Value.bool).toArray:=by
   refine Array.ext (by simp [size_madeCells]) fun i h1 h2=>?_
   simp [madeCells,Nat.mod_one]
 rw [e] at h
 simp only [Int.toNat_natCast,Nat.mul_one,e2] at h
 exact h
theorem own_made {w:World} {m base:Nat} (hb:base≤w.heap.size) (hm:m≤100000):(w.alloc (.cells (Array.replicate m (Value.bool false)) 4)).ownsRow base 4 1 (.slice (some ⟨w.heap.size,0,none⟩) m m) m ((List.replicate m false).map Value.bool):=by
 refine ⟨by simp,.inr ⟨w.heap.size,m,_,rfl,hb,heap_alloc_new w _,Nat.le_refl _,by unfold maxLen;omega,by simp,by simp⟩⟩
set_option maxHeartbeats 8000000 in
theorem lcheck_any (Av Ao Ar:Option Addr) (nv cv no co nr cr:Nat) (k:Krn) (w:World) (F:Nat→Prop) (hk:KernAt w F [.slice Av nv cv,.slice Ao no co,.slice Ar nr cr] k) (hF:∀ k,F k→k < w.heap.size) (hvn:k.vars.length≤100000) :
   Calls Tryz.prog 37 #[.agg #[.slice Av nv cv,.slice Ao no co,.slice Ar nr cr]] w fun e w'=>e=.returned (.int .i64 (errK k))∧Below w.heap.size w w':=by
 obtain ⟨W,hW⟩:∃ W,W=w.alloc (.cells #[.slice Av nv cv,.slice Ao no co,.slice Ar nr cr] 25):=⟨_,rfl⟩
 have hb:Below w.heap.size w W:=by rw [hW];exact (Below.refl _ _).alloc (Nat.le_refl _) _
 have hz:W.heap.size=w.heap.size+1:=by rw [hW];simp
 have hbox:W.heap[w.heap.size]? = some (.cells #[.slice Av nv cv,.slice Ao no co,.slice Ar nr cr] 25 (0,0)):=by rw [hW];exact heap_alloc_new w _
 have hk2:KernAt W (fun k=>k < W.heap.size) [.slice Av nv cv,.slice Ao no co,.slice Ar nr cr] k:=(hk.keep (SameOn.of_below hb hF)).mono fun j hj=>by have:=hF j hj;omega
 have hkb:=kbox_of hbox hk2
 have HW:=Lh hW
 have HB:=Lh hb
 have HK:=Lh hkb
 have HKO:=Lh hk.ops
 have HNN:=Lh hkb.nv
 have n5:nv≤100000:=by have:=hkb.nv;omega
 have n6:no≤9223372036854775807:=by have:=hkb.nv;have:=hk.no;omega
 have n7:nr≤9223372036854775807:=by have:=hkb.nv;have:=hk.nr;omega
 have he:=errK_eq k
 have c0:=hkb.c0
 have c1:=hkb.c1
 have c2:=hkb.c2
 have HVA:=Lh (vars_any Av nv cv k.vars W _ hkb.vars (fun k hk=>hk) hvn)
 clear hW hb hz hbox hk2 hkb hk hF
 cases hv:varsK k.vars
 · have HX:=Lh (show errK k=2 by rw [he,hv];rfl)
   rw [hv] at HVA
   clear he hv
   go_enter Tryz.func37,Tryz.ntmps37
   go_upto_region 1 with (first | go_in)
   rw [←HW.out]
   go_wp2_with (first | ((with_reducible refine HVA.out.mono ?_);rintro e w1 ⟨rfl,hb1⟩;have HB1:=Lh (HB.out.trans (hb1.mono HB.out.size));clear hb1) | go_in)
   go_ret
   exact ⟨by rw [HX.out];rfl,HB1.out⟩
 rw [hv] at HVA
 rw [hv,Bool.true_and] at he
 clear hv
 by_cases ho:no≤4096
 rotate_left
 · have d2:decide ((4096:Int) < (no:Int))=true:=decide_eq_true (by omega)
   have HX:=Lh (show errK k=2 by rw [he,decide_eq_false (p:=k.ops.length≤4096) (by have:=HNN.out;omega)];rfl)
   clear he ho
   go_enter Tryz.func37,Tryz.ntmps37
   go_upto_region 1 with (first | go_in)
   rw [←HW.out]
   go_wp2_with (first | ((with_reducible refine HVA.out.mono ?_);rintro e w1 ⟨rfl,hb1⟩;have c1:=(HK.out.next hb1).c1;have c2:=(HK.out.next hb1).c2;have HB1:=Lh (HB.out.trans (hb1.mono HB.out.size));clear hb1) | go_in)
   go_ret
   exact ⟨by rw [HX.out];rfl,HB1.out⟩
 have d2:decide ((4096:Int) < (no:Int))=false:=decide_eq_false (by omega)
 rw [decide_eq_true (p:=k.ops.length≤4096) (by have:=HNN.out;omega),Bool.true_and] at he
 by_cases hr:nr≤4096
 rotate_left
 · have d3:decide ((4096:Int) < (nr:Int))=true:=decide_eq_true (by omega)
   have HX:=Lh (show errK k=2 by rw [he,decide_eq_false (p:=k.reqs.length≤4096) (by have:=HNN.out;omega)];rfl)
   clear he ho hr
   go_enter Tryz.func37,Tryz.ntmps37
   go_upto_region 1 with (first | go_in)
   rw [←HW.out]
   go_wp2_with (first | ((with_reducible refine HVA.out.mono ?_);rintro e w1 ⟨rfl,hb1⟩;have c1:=(HK.out.next hb1).c1;have c2:=(HK.out.next hb1).c2;have HB1:=Lh (HB.out.trans (hb1.mono HB.out.size));clear hb1) | go_in)
   go_ret
   exact ⟨by rw [HX.out];rfl,HB1.out⟩
 have d3:decide ((4096:Int) < (nr:Int))=false:=decide_eq_false (by omega)
 rw [decide_eq_true (p:=k.reqs.length≤4096) (by have:=HNN.out;omega),Bool.true_and] at he
 have HE:=Lh he
 have HOR:=Lh (And.intro ho hr)
 clear he ho hr
 go_enter Tryz.func37,Tryz.ntmps37
 go_upto_region 1 with (first | go_in)
 rw [←HW.out]
 clear HW
 go_upto_region 4 with (first | ((with_reducible refine HVA.out.mono ?_);rintro e w1 ⟨rfl,hb1⟩;have c1:=(HK.out.next hb1).c1;have c2:=(HK.out.next hb1).c2;have HK1:=Lh (HK.out.next hb1);have HB1:=Lh (HB.out.trans (hb1.mono HB.out.size));clear hb1) | go_in)
 clear c0 c1 c2
 have c0:=HK1.out.c0
 have c1:=HK1.out.c1
 have c2:=HK1.out.c2
 go_wp2
 refine wp_code (c:=partL Tryz.f37 0) (by kernel_rfl) ?_
 refine chk_l0 _ _ HK1.out (by have:=HNN.out;have:=HOR.out;omega) ?_ ?_
 rotate_left
 · intro hall a5 a33 a34 a35 a36 a37 a38 a39 a40 a41 a42 a43 a44 a45 a46 a47 a48 a49 a50 a51 a52 a53 a54 a55 a56 a57 a58 a59 w2 hb2
   have HX:=Lh (show errK k=2 by rw [HE.out,hall];rfl)
   clear hall
   go_wp2
   go_ret
   exact ⟨by rw [HX.out];rfl,HB1.out.trans (hb2.mono HB1.out.size)⟩
 intro hall a5 a33 a34 a35 a36 a37 a38 a39 a40 a41 a42 a43 a44 a45 a46 a47 a48 a49 a50 a51 a52 a53 a54 a55 a56 a57 a58 a59 w2 hb2
 have he:=HE.out
 rw [hall,Bool.true_and] at he
 have HE:=Lh he
 have HK2:=Lh (HK1.out.next hb2)
 have HB2:=Lh (HB1.out.trans (hb2.mono HB1.out.size))
 clear hall he hb2 c0 c1 c2
 have c0:=HK2.out.c0
 have c1:=HK2.out.c1
 have c2:=HK2.out.c2
 have hmk:=make_bool nv n5
 go_upto_region 11 with (first | go_in)
 obtain ⟨W3,hW3⟩:∃ W,W=(w2.alloc (.cells (Array.replicate nv (Value.bool false)) 4)).alloc (.cells #[.slice (some ⟨w2.heap.size,0,none⟩) nv nv] 38):=⟨_,rfl⟩
 rw [←hW3]
 have hb3:Below w2.heap.size w2 W3:=by rw [hW3];exact ((Below.refl _ _).alloc (Nat.le_refl _) _).alloc (by simp) _
 have hrow:W3.ownsRow w2.heap.size 4 1 (.slice (some ⟨w2.heap.size,0,none⟩) nv nv) nv ((List.replicate nv false).map Value.bool):=by rw [hW3];exact (own_made (Nat.le_refl _) n5).alloc _
 have hbx:W3.heap[w2.heap.size+1]? = some (.cells #[.slice (some ⟨w2.heap.size,0,none⟩) nv nv] 38 (0,0)):=by
   rw [hW3]
   have h:=heap_alloc_new (w2.alloc (.cells (Array.replicate nv (Value.bool false)) 4)) (.cells #[.slice (some ⟨w2.heap.size,0,none⟩) nv nv] 38)
   simpa using h
 have HM3:=Lh (show MadeAt w2 W3 (w2.heap.size+1) w2.heap.size nv (madeTo k.vars 0) from ⟨hb3,hbx,by unfold madeTo;rw [List.take_zero,List.map_nil,List.nil_append,Nat.sub_zero,←HNN.out.1];exact hrow,by omega,by omega⟩)
 obtain ⟨bm,hbm⟩:∃ b,b=w2.heap.size+1:=⟨_,rfl⟩
 obtain ⟨gm,hgm⟩:∃ b,b=w2.heap.size:=⟨_,rfl⟩
 rw [←hbm,←hgm] at HM3
 rw [←hbm]
 clear hW3 hb3 hrow hbx hbm hgm hmk c0 c1 c2
 have c0:=(HK2.out.next HM3.out.below).c0
 go_wp2
 refine wp_code (c:=partL Tryz.f37 2) (by kernel_rfl) ?_
 refine chk_l2 (w0:=w2) (gm:=gm) _ _ HK2.out HM3.out hvn ?_
 intro b7 b8 b67 b68 b69 b70 b71 b72 b73 b74 b75 b76 b77 w4 hm4
 have HM4:=Lh hm4
 have c1:=(HK2.out.next hm4.below).c1
 clear c0 hm4
 go_wp2
 refine wp_code (c:=partL Tryz.f37 4) (by kernel_rfl) ?_
 refine chk_l4 (w0:=w2) (gm:=gm) _ _ HK2.out HM4.out (by have:=HNN.out;have:=HOR.out;omega) HKO.out ?_ ?_
 rotate_left
 · intro hnone c9 c11 c81 c82 c83 c84 c85 c86 c87 c88 c89 c90 c91 c92 c93 c94 c95 c96 c97 c98 c99 c100 c101 c102 c103 c104 c105 c106 c107 c108 c109 c110 c111 c112 c113 c114 c115 c116 c117 c118 c119 w5 hb5
   have HX:=Lh (show errK k=2 by rw [HE.out];unfold opsK;rw [hnone];rfl)
   clear hnone
   go_wp2
   go_ret
   exact ⟨by rw [HX.out];rfl,HB2.out.trans (hb5.mono HB2.out.size)⟩
 intro made dd c11 c81 c82 c83 c84 c85 c86 c87 c88 c89 c90 c91 c92 c93 c94 c95 c96 c97 c98 c99 c100 c101 c102 c103 c104 c105 c106 c107 c108 c109 c110 c111 c112 c113 c114 c115 c116 c117 c118 c119 w5 hq5
 obtain ⟨hops,hm5⟩:=hq5
 have hek:=HE.out
 unfold opsK at hek
 rw [hops] at hek
 have HE:=Lh hek
 have HM5:=Lh hm5
 have g0:=hm5.cell
 clear hops hek hm5 c1
 go_wp2
 refine wp_code (c:=partL Tryz.f37 7) (by kernel_rfl) ?_
 refine chk_l7 (w0:=w2) (gm:=gm) (made:=made) _ _ HK2.out HM5.out hvn ?_ ?_
 rotate_left
 · intro hno d12 d122 d123 d124 d125 d126 d127 d128 d129 d130 d131 d132 d133 d134 d135 w6 hb6
   have HX:=Lh (show errK k=2 by rw [HE.out];simp only [hno,Bool.false_and];rfl)
   clear hno
   go_wp2
   go_ret
   exact ⟨by rw [HX.out];rfl,HB2.out.trans (hb6.mono HB2.out.size)⟩
 intro hyes d12 d122 d123 d124 d125 d126 d127 d128 d129 d130 d131 d132 d133 d134 d135 w6 hm6
 have hek:=HE.out
 simp only [hyes,Bool.true_and] at hek
 have HM6:=Lh hm6
 clear hyes hm6 g0
 cases hd:(dd == 0)
 · have hd2:(dd != 0)=true:=by rw [bne,hd];rfl
   have HX:=Lh (show errK k=2 by rw [hek,hd];rfl)
   clear hek hd
   go_wp2
   go_ret
   exact ⟨by rw [HX.out];rfl,HB2.out.trans (HM6.out.below.mono HB2.out.size)⟩
 · have hd2:(dd != 0)=false:=by rw [bne,hd];rfl
   have HX:=Lh (show errK k=0 by rw [hek,hd];rfl)
   clear hek hd
   go_wp2
   go_ret
   exact ⟨by rw [HX.out];rfl,HB2.out.trans (HM6.out.below.mono HB2.out.size)⟩
end Go.Proofs.YtjbabpnepjhllaaGreat
namespace Go.Proofs.YtjbabpnepjhllaaGreat
open Go.RowKit
set_option maxRecDepth 100000
theorem cell_row {w:World} {b ty:Nat} {row:List Value} (h:w.heap[b]? = some (.cells row.toArray ty (0,0))) {k:Nat} {v:Value} (hv:row[k]? = some v):w.cell? ⟨b,k,none⟩=some v:=by
 simp only [World.cell?,h]
 simpa using hv
theorem frozen_row {w:World} {b ty:Nat} {row:List Value} (h:w.heap[b]? = some (.cells row.toArray ty (0,0))) (k:Nat):w.frozen? ⟨b,k,none⟩=false:=by simp [World.frozen?,h]
theorem run_copyR {w:World} (sz:Nat) (t ty e:TypeId) (hu:Tryz.prog.underlying t=some (.slice e)) (hi:(Tryz.prog.info? e).map (·.size)=some sz)
   {g g2 off off2 dLen dCap sLen sCap:Nat} (cur:Array Value) (t':TypeId) (hg:w.heap[g]? = some (.cells cur t' (0,0)))
   (cs:List Value) (hcs:cs.length=Nat.min sLen dLen*sz) (hsrc:∀ j v,cs[j]? = some v→w.cell? ⟨g2,off2+j,none⟩=some v) (hfit:off+cs.length≤cur.size) (h1:∀ v∈cs,v.oneCell'=true) :
   (Builtin.copy_ #[t,t] ty #[.slice (some ⟨g,off,none⟩) dLen dCap,.slice (some ⟨g2,off2,none⟩) sLen sCap]).run Tryz.prog w=.ok (.int .i64 (Nat.min sLen dLen:Nat)) (w.setRow g (cur.toList.take off++cs++cur.toList.drop (off+cs.length)).toArray):=by
 have hl:=run_loadCells_list (P:=Tryz.prog) w ⟨g2,off2,none⟩ cs (fun j v hv=>by rw [sep_add];exact hsrc j v hv)
 have hst:=run_storeCells_at Tryz.prog g off t' cs 0 cur w hg (by simpa using hfit) h1
 cases hq:Tryz.prog.info? e with
 | none=>simp [hq] at hi
 | some i =>
   have hi':i.size=sz:=by simpa [hq] using hi
   have hl':(loadCells ⟨g2,off2,none⟩ (Nat.min sLen dLen*sz)).run Tryz.prog w=.ok cs.toArray w:=by rw [←hcs];exact hl
   simp [Builtin.copy_,run_underlying hu,Builtin.lenOf,Builtin.firstCells,sizeOf,typeInfo,hq,hi',hl',hst,goInt]
theorem exec_copy {o:Oper} {a:Act} {w w':World} (d s:Operand) (t:TypeId) {vd vs r:Value} (hr:(Builtin.copy_ #[t,t] o.type #[vd,vs]).run Tryz.prog w=.ok r w') (ho:o.op=.call { callee:=.builtin .copy,args:=#[d,s],argTypes:=#[t,t] }) (hd:a.eval d=vd) (hs:a.eval s=vs) :
   (execOp a.eval o).run Tryz.prog w=.ok (.value r) w':=by
 unfold execOp
 simp only [ho,resolve,invoke,builtin,hd,hs,List.map_toArray,List.map_cons,List.map_nil,Sem.run_bind,hr,Result.andThen_ok,Sem.run_pure]
def repV (x:List Value) (n:Nat):List Value:=(List.replicate n x).flatten
theorem repV_len (x:List Value) (n:Nat):(repV x n).length=n*x.length:=by simp [repV]
theorem repV_add (x:List Value) (m n:Nat):repV x (m+n)=repV x m++repV x n:=by unfold repV;rw [←List.replicate_append_replicate,List.flatten_append]
theorem repV_take (x:List Value) {m n:Nat} (h:m≤n):(repV x n).take (m*x.length)=repV x m:=by
 obtain ⟨d,rfl⟩:=Nat.exists_eq_add_of_le h
 rw [repV_add,←repV_len,List.take_left]
theorem repV_grow (x rest:List Value) (k m:Nat) (sz:Nat) (hx:x.length=sz):(repV x k++rest).take (k*sz)++repV x m++(repV x k++rest).drop (k*sz+(repV x m).length)=repV x (k+m)++rest.drop (m*sz):=by
 subst hx
 rw [repV_add,repV_len,←repV_len x k,List.take_left,List.append_assoc,List.append_assoc]
 congr 2
 rw [List.drop_append,List.drop_of_length_le (by omega)]
 simp
theorem make_Int (n:Nat) (hn:n≤65536) (w:World):∃ zs:Array Value,zs.size=n*1∧(Instr.makeSlice 50 (.int .i64 n) (.int .i64 n)).run Tryz.prog w=.ok (.slice (some ⟨w.heap.size,0,none⟩) n n) (w.alloc (.cells zs 3)):=by
 obtain ⟨i0,hi,hz0,hz1,hz2⟩:=info_parts infoI
 have h:=run_make (P:=Tryz.prog) w 50 3 i0 (.int .i64 0) Tryz.underlying50 hi hz0 .i64 .i64 n n (by omega) (by omega) (by rw [hz2];omega) (by omega)
 rw [hz1] at h
 simp only [Int.toNat_natCast] at h
 exact ⟨_,size_madeCells _ _,h⟩
set_option maxHeartbeats 4000000 in
theorem Repeat_Int (x:List Value) (hxl:x.length=1) (h1:∀ v∈x,v.oneCell'=true) (g0 o0 c0 n:Nat) (hn:n≤65536) (w:World) (hg0:g0 < w.heap.size) (hx:∀ j v,x[j]? = some v→w.cell? ⟨g0,o0+j,none⟩=some v) :
   Calls Tryz.prog 74 #[.slice (some ⟨g0,o0,none⟩) 1 c0,.int .i64 n] w fun e w'=>e=.returned (.slice (some ⟨w.heap.size,0,none⟩) n n)∧w'.heap[w.heap.size]? = some (.cells (repV x n).toArray 3 (0,0))∧Below w.heap.size w w':=by
 obtain ⟨zs,hzs,hmk⟩:=make_Int n hn w
 have hone:∀ k,∀ v∈repV x k,v.oneCell'=true:=fun k v hv=>by
   unfold repV at hv
   rw [List.mem_flatten] at hv
   obtain ⟨l,hl,hvl⟩:=hv
   rw [(List.mem_replicate.1 hl).2] at hvl
   exact h1 v hvl
 have hmul:=Tryz.bits_Mul 1 n (by omega) (by omega)
 have e1:(1*n / 18446744073709551616:Nat)=0:=Nat.div_eq_of_lt (by omega)
 have e2:(1*n % 18446744073709551616:Nat)=n:=by rw [Nat.mod_eq_of_lt (by omega),Nat.one_mul]
 rw [e1,e2] at hmul
 have HMUL:=Lh (show ∀ w,Calls Tryz.prog 106 #[.int .u64 1,.int .u64 (n:Int)] w fun e w'=>e=.returned (.tuple #[.int .u64 0,.int .u64 (n:Int)])∧w'=w from hmul)
 have w1:IntKind.u64.wrap (n:Int)=n:=by simp [IntKind.wrap,IntKind.bits,IntKind.signed];omega
 have w2:IntKind.i64.wrap (n:Int)=n:=by simp [IntKind.wrap,IntKind.bits,IntKind.signed];omega
 have d0:decide ((n:Int) < 0)=false:=decide_eq_false (by omega)
 have d1:decide ((9223372036854775807:Int) < (n:Int))=false:=decide_eq_false (by omega)
 obtain ⟨W,hW⟩:∃ W,W=w.alloc (.cells zs 3):=⟨_,rfl⟩
 have hbW:Below w.heap.size w W:=by rw [hW];exact (Below.refl _ _).alloc (Nat.le_refl _) _
 have hg:W.heap[w.heap.size]? = some (.cells zs 3 (0,0)):=by rw [hW];exact heap_alloc_new w _
 obtain ⟨g,hgg⟩:∃ g,w.heap.size=g:=⟨_,rfl⟩
 have HG:=Lh hgg
 rw [hgg] at hg hmk hbW hg0
 rw [←hW] at hmk
 have HMK:=Lh hmk
 have HGB:=Lh hg
 have HBW:=Lh hbW
 have HX:=Lh hx
 have HXL:=Lh hxl
 have HZ:=Lh hzs
 have HONE:=Lh hone
 have HG0:=Lh hg0
 clear hmul hW hmk hbW hg hzs e1 e2 hgg hx hxl hone hg0 h1
 rw [HG.out]
 go_enter Tryz.func74,Tryz.ntmps74
 go_upto_region 6 with ((with_reducible refine (HMUL.out _).mono ?_);rintro e w_ ⟨rfl,hw_⟩;obtain rfl:=hw_.symm)
 have hmk:=HMK.out
 go_upto_region 7 with fail
 have HM0:=Lh (show Nat.min 1 n≤n∧(n=0∨1≤Nat.min 1 n)∧Nat.min 1 n≤1 from ⟨Nat.min_le_right _ _,by by_cases h:n=0;exact .inl h;exact .inr (Nat.le_min.2 ⟨Nat.le_refl _,by omega⟩),Nat.min_le_left _ _⟩)
 obtain ⟨m0,hm0⟩:∃ m,Nat.min 1 n=m:=⟨_,rfl⟩
 rw [hm0] at HM0
 have hlen0:(repV x m0).length=m0*1:=by rw [repV_len,HXL.out]
 have hex:(Builtin.copy_ #[50,50] 3 #[.slice (some ⟨g,0,none⟩) n n,.slice (some ⟨g0,o0,none⟩) 1 c0]).run Tryz.prog W=.ok (.int .i64 (m0:Nat)) (W.setRow g (repV x m0++zs.toList.drop (m0*1)).toArray):=by
   have h:=run_copyR (w:=W) (g:=g) (g2:=g0) (off:=0) (off2:=o0) (dLen:=n) (dCap:=n) (sLen:=1) (sCap:=c0) 1 50 3 3 Tryz.underlying50 (by kernel_rfl) zs 3 HGB.out (repV x m0) (by rw [hm0,hlen0]) (fun j v hv=>by
     have hj:j < (repV x m0).length:=(List.getElem?_eq_some_iff.1 hv).1
     have hm1:m0=1:=by have:=HM0.out;rw [hlen0] at hj;by_cases h:m0=0;(rw [h] at hj;omega);omega
     rw [hm1] at hv
     rw [HBW.out.cell (p:=⟨g0,o0+j,none⟩) HG0.out]
     exact HX.out j v (by simpa [repV] using hv)) (by rw [hlen0,HZ.out];have:=HM0.out.1;omega) (HONE.out m0)
   rw [hm0,hlen0] at h
   simpa using h
 obtain ⟨W1,hW1⟩:∃ q,q=W.setRow g (repV x m0++zs.toList.drop (m0*1)).toArray:=⟨_,rfl⟩
 rw [←hW1] at hex
 have HS1:=Lh (show W1.heap[g]? = some (.cells (repV x m0++zs.toList.drop (m0*1)).toArray 3 (0,0)) by rw [hW1];exact setRow_heap _ _ _ _ _ _ HGB.out)
 have HB1:=Lh (show Below g w W1 by rw [hW1];exact HBW.out.trans ⟨rfl,rfl,rfl,by simp,fun k hk=>setRow_other _ _ _ _ (fun e=>by omega)⟩)
 have HL0:=Lh (show (repV x m0++zs.toList.drop (m0*1)).length=n*1 by
   rw [List.length_append,List.length_drop,hlen0,Array.length_toList,HZ.out]
   have:=HM0.out.1
   omega)
 clear hW1 hmk hm0 hlen0
 go_wp2
 clear hex d0 d1 w1 w2
 go_loopw [8] (fun i wr=>∃ (k:Nat) (rest:List Value),k≤n∧(n=0∨1≤k)∧i=.int .i64 k∧(repV x k++rest).length=n*1∧wr.heap[g]? = some (.cells (repV x k++rest).toArray 3 (0,0))∧Below g w wr) (fun i _=>n - (intOf i).toNat)
 case atStart=>exact ⟨m0,_,HM0.out.1,HM0.out.2.1,rfl,HL0.out,HS1.out,HB1.out⟩
 case round =>
   obtain ⟨k,rest,hk,hk1,rfl,hlen,hblk,hbel⟩:=hrel
   have HLEN:=Lh hlen
   have HBLK:=Lh hblk
   have HBEL:=Lh hbel
   have HK1:=Lh hk1
   clear hlen hblk hbel hk1
   by_cases hlt:k < n
   · have i0:(0:Int)≤(k:Int):=by omega
     have i1:(k:Int)≤(n:Int):=by omega
     have d1:decide (k < n)=true:=decide_eq_true hlt
     obtain ⟨m,hm⟩:∃ m,Nat.min k (n - k)=m:=⟨_,rfl⟩
     have hmk:m≤k∧m≤n - k∧1≤m:=by
       have h1:Nat.min k (n - k)≤k:=Nat.min_le_left k (n - k)
       have h2:Nat.min k (n - k)≤n - k:=Nat.min_le_right k (n - k)
       have h3:1≤Nat.min k (n - k):=Nat.le_min.2 ⟨by have:=HK1.out;omega,by omega⟩
       rw [hm] at h1 h2 h3
       exact ⟨by omega,by omega,by omega⟩
     have HM:=Lh hmk
     have HMM:=Lh hm
     have hwr:IntKind.i64.wrap ((k:Int)+(m:Int))=(k:Int)+(m:Int):=by simp [IntKind.wrap,IntKind.bits,IntKind.signed];omega
     have hlr:(repV x m).length=m*1:=by rw [repV_len,HXL.out]
     have hlk:(repV x k).length=k*1:=by rw [repV_len,HXL.out]
     have hcp:=run_copyR (w:=wr.drew) (g:=g) (g2:=g) (off:=k) (off2:=0) (dLen:=n - k) (dCap:=n - k) (sLen:=k) (sCap:=n) 1 50 3 3 Tryz.underlying50 (by kernel_rfl) (repV x k++rest).toArray 3 HBLK.out (repV x m) (by rw [hm,hlr]) (fun j v hv=>by
       have hj:j < (repV x m).length:=(List.getElem?_eq_some_iff.1 hv).1
       have hv2:(repV x k)[j]? = some v:=by rw [←repV_take x hmk.1,List.getElem?_take] at hv;split at hv;exact hv;cases hv
       show World.cell? wr ⟨g,0+j,none⟩=some v
       rw [Nat.zero_add]
       exact cell_row HBLK.out (by rw [List.getElem?_append_left (by rw [hlk];rw [hlr] at hj;have:=hmk.1;omega)];exact hv2)) (by rw [hlr];simp only [List.size_toArray,HLEN.out];have:=hmk.2.1;omega) (HONE.out m)
     have hgrow:((repV x k++rest).toArray.toList.take (k)++repV x m++(repV x k++rest).toArray.toList.drop (k+(repV x m).length))=repV x (k+m)++rest.drop (m*1):=by
       have:=repV_grow x rest k m 1 HXL.out
       simpa using this
     rw [hgrow,hm] at hcp
     obtain ⟨W2,hW2⟩:∃ q,q=wr.drew.setRow g (repV x (k+m)++rest.drop (m*1)).toArray:=⟨_,rfl⟩
     rw [←hW2] at hcp
     have HCP:=Lh hcp
     have HS2:=Lh (show W2.heap[g]? = some (.cells (repV x (k+m)++rest.drop (m*1)).toArray 3 (0,0)) by rw [hW2];exact setRow_heap wr.drew _ _ _ _ _ HBLK.out)
     have HB2:=Lh (show Below g w W2 by rw [hW2];exact HBEL.out.drew.trans ⟨rfl,rfl,rfl,by simp,fun k hk=>setRow_other _ _ _ _ (fun e=>by omega)⟩)
     have HL2:=Lh (show (repV x (k+m)++rest.drop (m*1)).length=n*1 by
       have:=HLEN.out
       rw [List.length_append,List.length_drop,repV_len,HXL.out]
       rw [List.length_append,hlk] at this
       have:=hmk.2.1
       omega)
     have hnk:(n=k)=False:=by simp;omega
     clear hm hmk hcp hW2 hgrow hlr hlk
     go_upto_region 9 with fail
     (refine wp_region_lines (fun _=>True) (by kernel_rfl) (by kernel_rfl) trivial ?_)
     (try simp only [])
     repeat (first | (refine runL_no (by rfl) ?_;(try simp only [Act.put,List.setIfInBounds_toArray,List.set_cons_zero,List.set_cons_succ])) | (refine runL_val (v:=?_) (by rfl) ?_ ?_;rotate_left;(focus (intro w_ hw_;skip;go_simp;(try with_reducible rfl);done));(try simp only [Act.put,List.setIfInBounds_toArray,List.set_cons_zero,List.set_cons_succ])) | (refine runL_op (v:=.int .i64 (m:Nat)) (w1:=W2) (by rfl) (by rfl) (exec_copy _ _ 50 HCP.out rfl rfl rfl) (.inr trivial) ?_;(try simp only [Act.put,List.setIfInBounds_toArray,List.set_cons_zero,List.set_cons_succ])))
     (refine runL_nil ?_)
     clear hnk
     go_wp2
     go_roundw
     case rel=>exact ⟨k+m,_,by have:=HM.out;omega,by have:=HM.out;omega,by go_num,HL2.out,HS2.out,HB2.out⟩
     case measure=>simp [intOf];have:=HM.out;omega
   · have d1:decide (k < n)=false:=decide_eq_false hlt
     have hkn:k=n:=by omega
     have HRES:=Lh (show wr.heap[g]? = some (.cells (repV x n).toArray 3 (0,0)) by
       have h1:=HLEN.out
       have h2:=HBLK.out
       rw [hkn] at h1 h2
       rw [List.length_append,repV_len,HXL.out] at h1
       rw [List.eq_nil_of_length_eq_zero (by omega:rest.length=0),List.append_nil] at h2
       exact h2)
     clear hkn
     go_wp2
     go_ret
     exact ⟨rfl,HRES.out,HBEL.out⟩
end Go.Proofs.YtjbabpnepjhllaaGreat
namespace Go.Proofs.YtjbabpnepjhllaaGreat
open Go.RowKit
theorem kTo_len (ops:List KOp):∀ k,(kTo ops k).1.length=ops.length:=by
 intro k
 induction k with
 | zero=>simp [kTo]
 | succ k ih =>
   unfold kTo
   split
   · unfold kStep
     split
     · exact ih
     · split
       · split
         · rename_i h;simp only [List.length_set];exact ih
         · exact ih
       · exact ih
   · exact ih
structure EndAt (w0 w:World) (g:Nat) (out:List Int) (st:List Nat) (vl:Value) (m:Nat):Prop where
 below:Below w0.heap.size w0 w
 ge:w0.heap.size≤g
 blk:w.heap[g]? = some (.cells (intV out).toArray 3 (0,0))
 row:w.ownsRow w0.heap.size 3 1 vl m (intV (st.reverse.map fun x:Nat=>(x:Int)))
 ne:vl.ownBlock≠some g
theorem EndAt.len {w0 w:World} {g:Nat} {out:List Int} {st:List Nat} {vl:Value} {m:Nat} (h:EndAt w0 w g out st vl m):st.length=m:=by
 have:=h.row.1
 simpa [intV] using this
theorem EndAt.next {w0 w w':World} {g:Nat} {out:List Int} {st:List Nat} {vl:Value} {m:Nat} (h:EndAt w0 w g out st vl m) (hb:Below w.heap.size w w'):EndAt w0 w' g out st vl m :=
 ⟨h.below.trans (hb.mono h.below.size),h.ge,(hb.block g (lt_of_block h.blk)).trans h.blk,own_next h.row hb,h.ne⟩
theorem EndAt.set {w0 w:World} {g:Nat} {out:List Int} {st:List Nat} {vl:Value} {m:Nat} (h:EndAt w0 w g out st vl m) (k:Nat) (x:Int):EndAt w0 (w.setCell ⟨g,k,none⟩ (.int .i64 x)) g (out.set k x) st vl m:=by
 refine ⟨⟨h.below.os,h.below.tape,h.below.output,by simpa using h.below.size,fun j hj=>(Below.heap_setCell _ _ _ j (fun e=>?_)).trans (h.below.block j hj)⟩,h.ge,?_,?_,h.ne⟩
 · have:=h.ge;simp only at e;omega
 · simp [World.setCell,Array.getElem?_modify,h.blk,intV,List.map_set]
 · exact h.row.kept (grownBy_setCell _ _ _ _) (by
     cases hv:vl.ownBlock with
     | none=>left;rfl
     | some q=>right;intro e;cases e;exact h.ne hv)
theorem EndAt.cell {w0 w:World} {g:Nat} {out:List Int} {st:List Nat} {vl:Value} {m:Nat} (h:EndAt w0 w g out st vl m) {k:Nat} {x:Int} (hk:out[k]? = some x):w.cell? ⟨g,k,none⟩=some (.int .i64 x) :=
 cell_row h.blk (by rw [intV,List.getElem?_map,hk];rfl)
theorem EndAt.frozen {w0 w:World} {g:Nat} {out:List Int} {st:List Nat} {vl:Value} {m:Nat} (h:EndAt w0 w g out st vl m) (k:Nat):w.frozen? ⟨g,k,none⟩=false:=frozen_row h.blk k
end Go.Proofs.YtjbabpnepjhllaaGreat
