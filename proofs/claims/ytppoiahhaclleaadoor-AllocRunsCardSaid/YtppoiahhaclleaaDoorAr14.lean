/- Part 14 of a claim; what it proves stands in its last text. -/
import Derived.Test.YtppoiahhaclleaaDoorAr13
import Derived.Laws.Bits64b
import Derived.WalkSpells
import Derived.ArgAppend
namespace Go.Proofs.YtppoiahhaclleaaDoor
open Go.RowKit
def encH (x:Int×Int):List Value:=[.int .i64 x.1,.int .i64 x.2]
structure HeldBlk (w:World) (g o c:Nat) (l:List (Int×Int)):Prop where
 blk:∃ cs:Array Value,w.heap[g]? = some (.cells cs 101 (0,0))∧o+c*2≤cs.size∧∀ (j:Nat) (u:Value),(spV l)[j]? = some u→cs[o+j]? = some u
 le:l.length≤c
theorem HeldBlk.at_ {w:World} {g o c:Nat} {l:List (Int×Int)} (h:HeldBlk w g o c l) {j:Nat} {u:Value} (hj:(spV l)[j]? = some u):w.cell? ⟨g,o+j,none⟩=some u:=by
 obtain ⟨cs,h1,_,h3⟩:=h.blk
 simp only [World.cell?,h1]
 exact h3 j u hj
theorem HeldBlk.cell {w:World} {g o c:Nat} {l:List (Int×Int)} (h:HeldBlk w g o c l) {i:Nat} {x:Int×Int} (hx:l[i]? = some x):w.cell? ⟨g,o+i*2,none⟩=some (.int .i64 x.1)∧w.cell? ⟨g,o+i*2+1,none⟩=some (.int .i64 x.2) :=
 ⟨h.at_ (spV_get hx).1,h.at_ (spV_get hx).2⟩
theorem HeldBlk.lt {w:World} {g o c:Nat} {l:List (Int×Int)} (h:HeldBlk w g o c l):g < w.heap.size:=by
 obtain ⟨cs,h1,_⟩:=h.blk
 exact lt_of_block h1
theorem HeldBlk.keep {w w':World} {g o c:Nat} {l:List (Int×Int)} (h:HeldBlk w g o c l) (hb:w'.heap[g]? = w.heap[g]?):HeldBlk w' g o c l:=by
 obtain ⟨cs,h1,h2⟩:=h.blk
 exact ⟨⟨cs,hb.trans h1,h2⟩,h.le⟩
theorem HeldBlk.frozen {w:World} {g o c:Nat} {l:List (Int×Int)} (h:HeldBlk w g o c l) (k:Nat):w.frozen? ⟨g,k,none⟩=false:=by
 obtain ⟨cs,h1,_⟩:=h.blk
 simp [World.frozen?,h1]
theorem HeldBlk.tail {w:World} {g o c:Nat} {x:Int×Int} {l:List (Int×Int)} (h:HeldBlk w g o c (x :: l)):HeldBlk w g (o+2) (c - 1) l:=by
 obtain ⟨cs,h1,h2,h3⟩:=h.blk
 have hle:=h.le
 rw [List.length_cons] at hle
 refine ⟨⟨cs,h1,by omega,fun j u hj=>?_⟩,by omega⟩
 rw [show o+2+j=o+(j+2) by omega]
 exact h3 (j+2) u hj
theorem ltU (x y:Int×Int):Go.Proofs.ltOf (fun x y:Int×Int=>Lib.compareInt x.2 y.2) x y=decide (x.2 < y.2):=by
 unfold Go.Proofs.ltOf Lib.compareInt
 by_cases h1:x.2 < y.2
 · simp [h1]
 · by_cases h2:y.2 < x.2 <;> simp [h1,h2]
theorem swoU:Go.Sort.SWO (Go.Proofs.ltOf fun x y:Int×Int=>Lib.compareInt x.2 y.2) where
 irrefl x:=by rw [ltU];simp
 trans x y z h1 h2:=by rw [ltU] at *;simp at *;omega
 ntrans x y z h1 h2:=by rw [ltU] at *;simp at *;omega
set_option maxHeartbeats 1000000 in
theorem until_cmp (x y:Int×Int) (W:World):Calls Tryd.prog 56 #[.agg #[.int .i64 x.1,.int .i64 x.2],.agg #[.int .i64 y.1,.int .i64 y.2]] W fun e w'=>e=.returned (.int .i64 (Lib.compareInt x.2 y.2))∧∃ q os',w'=Go.Sort.grow (W.drewN q) os':=by
 have hcon:=fun W'=>Tryd.cmp_Compare_int x.2 y.2 W'
 generalize Lib.compareInt x.2 y.2=r at hcon ⊢
 go_enter Tryd.func56,Tryd.ntmps56
 go_wp2_with ((with_reducible refine (hcon _).mono ?_);rintro e w' ⟨rfl,rfl⟩)
 go_ret
 exact ⟨rfl,0,_,by rw [Go.Sort.alloc_eq_grow,Go.Sort.alloc_eq_grow,Go.Sort.grow_grow];rfl⟩
theorem flatH (d:Array (Int×Int)) {j:Nat} {u:Value} (hj:(spV d.toList)[j]? = some u):(Go.Sort.flatK encH 2 d)[j]! = u:=by
 have hlt:j < d.size*2:=by
   have:=(List.getElem?_eq_some_iff.1 hj).1
   rw [spV_len] at this
   simpa using this
 rw [Go.Sort.get_flatK encH 2 d j hlt]
 obtain ⟨x,hx⟩:∃ x,d.toList[j / 2]? = some x:=⟨_,List.getElem?_eq_getElem (by simp;omega)⟩
 have h2:=spV_get hx
 have hd:d[j / 2]! = x:=by
   rw [Array.getElem!_eq_getD,Array.getD_eq_getD_getElem?,←Array.getElem?_toList,hx];rfl
 rw [hd]
 rcases Nat.mod_two_eq_zero_or_one j with h | h
 · rw [show j / 2*2=j by omega,hj] at h2
   rw [h,Option.some.inj h2.1];rfl
 · rw [show j / 2*2+1=j by omega,hj] at h2
   rw [h,Option.some.inj h2.2];rfl
theorem sortW_block (w:World) (g o m:Nat) (d:Array (Int×Int)) (os:Array Obj) {j:Nat} (hj:j < w.heap.size) (hne:j≠g):(Go.Proofs.sortWorldK encH 2 w g o m d os).heap[j]? = w.heap[j]?:=by
 unfold Go.Proofs.sortWorldK Go.Sort.grow Go.Sort.putRowK Go.Sort.putRow Go.Sort.mapBlock Go.Sort.ahead
 show ((w.heap.modify g _)++os)[j]? = _
 rw [Array.getElem?_append_left (by simpa using hj),Array.getElem?_modify,if_neg (fun e=>hne e.symm)]
theorem sortW_at (w:World) (g o m:Nat) (d:Array (Int×Int)) (os:Array Obj) {cs:Array Value} {T:TypeId} {fr:Nat×Nat} (h:w.heap[g]? = some (.cells cs T fr)):(Go.Proofs.sortWorldK encH 2 w g o m d os).heap[g]? = some (.cells (Go.Sort.putCells id o (Go.Sort.flatK encH 2 d) cs) T fr):=by
 unfold Go.Proofs.sortWorldK Go.Sort.grow Go.Sort.putRowK Go.Sort.putRow Go.Sort.mapBlock Go.Sort.ahead
 show ((w.heap.modify g _)++os)[g]? = _
 rw [Array.getElem?_append_left (by simpa using lt_of_block h),Array.getElem?_modify,if_pos rfl,h]
 rfl
set_option maxHeartbeats 1000000 in
theorem sortH_any {g o c n:Nat} {l:List (Int×Int)} (w:World) (h:HeldBlk w g o c l) (hn:l.length=n) (hn1:n≤1000) :
   Calls Tryd.prog 55 #[.slice (some ⟨g,o,none⟩) n c,.func (.func 56) #[] #[]] w fun e w'=>e=.returned (.tuple #[]) ∧
     ∃ l':List (Int×Int),l'.Perm l∧l'.Pairwise (fun x y=>x.2≤y.2)∧HeldBlk w' g o c l'∧Chg (fun j=>j=g) w w':=by
 subst hn
 have eg:∀ args w,(callFunc 56 args).run Tryd.prog w=.ok (.enter 56 args) w:=enters_of Tryd.func56 (by kernel_rfl) rfl
 have hH:Go.Sort.HoldsK encH 2 w g o l.toArray:=by
   intro j hj
   obtain ⟨u,hu⟩:∃ u,(spV l)[j]? = some u:=⟨_,List.getElem?_eq_getElem (by rw [spV_len];simpa using hj)⟩
   have:=flatH l.toArray (j:=j) (u:=u) (by simpa using hu)
   rw [this]
   exact ⟨h.at_ hu,h.frozen _⟩
 have hcon:=AnyQ.slices_SortFunc Tryd.sortS 2 Tryd.isAgg101 Tryd.sizeOf101 encH (fun _=>rfl) (fun x v hv=>by simp [encH] at hv;rcases hv with rfl | rfl <;> rfl) (fun x y=>Lib.compareInt x.2 y.2) swoU 56 #[] g o c l.toArray w eg (fun _ _ _ _ x y=>until_cmp x y _) hH h.lt (by simp;omega)
 change Calls Tryd.prog 55 _ _ _ at hcon
 refine hcon.mono ?_
 rintro e w' ⟨rfl,d',m,os,hp,hs,rfl⟩
 obtain ⟨cs,h1,h2,h3⟩:=h.blk
 have hsz:d'.size=l.length:=by simpa using hp.1
 have hperm:d'.toList.Perm l:=by
   have h5:=hp.2.2
   simp only [Array.toList_extract,List.extract_eq_take_drop] at h5
   simpa [List.take_of_length_le,hsz] using h5
 refine ⟨rfl,d'.toList,hperm,?_,?_,?_⟩
 · refine List.pairwise_iff_getElem.2 fun i j hi hj hij=>?_
   have:=hs i j (Nat.zero_le _) hij (by simpa [hsz] using hj)
   rw [ltU] at this
   have h4:=of_decide_eq_false this
   rw [Array.length_toList] at hi hj
   rw [getElem!_pos d' i hi,getElem!_pos d' j hj] at h4
   simp only [Array.getElem_toList]
   omega
 · refine ⟨⟨_,sortW_at w g o m d' os h1,by simpa [Go.Sort.putCells] using h2,fun j u hj=>?_⟩,by rw [Array.length_toList,hsz];exact h.le⟩
   have hlt:=(List.getElem?_eq_some_iff.1 hj).1
   rw [spV_len,Array.length_toList,hsz] at hlt
   have hle:=h.le
   have:=flatH d' hj
   unfold Go.Sort.putCells
   rw [Array.getElem?_mapIdx,Array.getElem?_eq_getElem (show o+j < cs.size by omega),Option.map_some,if_pos ⟨by omega,by rw [Go.Sort.size_flatK,hsz];omega⟩,show o+j - o=j by omega,this]
   rfl
 · exact ⟨rfl,rfl,rfl,by unfold Go.Proofs.sortWorldK Go.Sort.grow Go.Sort.putRowK Go.Sort.putRow Go.Sort.mapBlock Go.Sort.ahead;simp,fun j hj hne=>sortW_block w g o m d' os hj hne⟩
end Go.Proofs.YtppoiahhaclleaaDoor
namespace Go.Proofs.YtppoiahhaclleaaDoor
open Go.RowKit
set_option maxRecDepth 100000
variable {aA kV kW aD kX kY kZ lA lB lC aE aF aG aH aI aJ aK aL aM aN aO aP aQ aR aS aT aU aV aW aX aY aZ a8 bA bB bC bD bE bF bG bH bI bJ bK bL bM bN bO bP bQ bS bT bU bV bW bX bY bZ b4 b6 cA cC : Value}
theorem or_pow (x q:Nat) (hx:x < 18446744073709551616) (hq:q < 64):bits BinOp.or IntKind.u64 (x:Int) (IntKind.u64.wrap ((2:Int) ^ q))=((x ||| 2 ^ q:Nat):Int):=by
 have h2:2 ^ q < 18446744073709551616:=Nat.pow_lt_pow_right (by decide) hq
 have e:IntKind.u64.wrap ((2:Int) ^ q)=((2 ^ q:Nat):Int):=by
   rw [IntKind.wrap_u64,show ((2:Int) ^ q)=((2 ^ q:Nat):Int) by simp]
   exact Int.emod_eq_of_lt (Int.natCast_nonneg _) (Int.ofNat_lt.2 h2)
 rw [e]
 exact bits_or_u64_nat x (2 ^ q) hx h2
set_option maxHeartbeats 4000000 in
theorem free_r4 {k pool slots n c q:Nat} {A:Option Addr} (w:World) (Q:Exit→Act→World→Prop) (hk:KeepAt w k pool slots (.slice A n c)) (hq:q < 64) (hp:pool < 18446744073709551616)
   (kk:∀ (mX lD lE lF lG lH lI lJ lK:Value) (w':World),KeepAt w' k (pool ||| 2 ^ q) slots (.slice A n c)∧Chg (fun j=>j=k) w w'→Q .normal ⟨#[.pointer (some ⟨k,0,none⟩),aA,kV,kW,.int .i64 (q:Nat),aD,kX,kY,kZ,lA,lB,lC,aE,aF,aG,aH,aI,aJ,aK,aL,aM,aN,aO,aP,aQ,aR,aS,aT,aU,aV,aW,aX,aY,aZ,a8,bA,mX,lD,lE,lF,lG,lH,lI,lJ,lK,bK,bL,bM,bN,bO,bP,bQ,bS,bT,bU,bV,bW,bX,bY,bZ,b4,b6,cA,cC],[]⟩ w'):(partR Tryd.f37 4).wp Tryd.prog Q ⟨#[.pointer (some ⟨k,0,none⟩),aA,kV,kW,.int .i64 (q:Nat),aD,kX,kY,kZ,lA,lB,lC,aE,aF,aG,aH,aI,aJ,aK,aL,aM,aN,aO,aP,aQ,aR,aS,aT,aU,aV,aW,aX,aY,aZ,a8,bA,bB,bC,bD,bE,bF,bG,bH,bI,bJ,bK,bL,bM,bN,bO,bP,bQ,bS,bT,bU,bV,bW,bX,bY,bZ,b4,b6,cA,cC],[]⟩ w:=by
 have HK:=Lh kk
 have HKP:=Lh hk
 obtain ⟨p',hp'⟩:∃ z:Nat,z=pool ||| 2 ^ q:=⟨_,rfl⟩
 have hv:bits BinOp.or IntKind.u64 (pool:Int) (IntKind.u64.wrap ((2:Int) ^ q))=(p':Int):=by rw [hp'];exact or_pow pool q hp hq
 clear hp
 have HP:=Lh hp'
 clear hk kk hp'
 conv=>arg 2;whnf
 go_wp2_with fail
 (refine wp_region_lines (fun w_=>KeepAt w_ k pool slots (.slice A n c)) (by kernel_rfl) (by kernel_rfl) HKP.out.drew ?_)
 (try simp only [])
 repeat (first | (refine runL_no (by rfl) ?_;(try simp only [Act.put,List.setIfInBounds_toArray,List.set_cons_zero,List.set_cons_succ])) | (refine runL_val (v:=?_) (by rfl) ?_ ?_;rotate_left;(focus (intro w_ hw_;have f0_:=hw_.cells.1;have f1_:=hw_.cells.2.1;go_simp;(try with_reducible rfl);done));(try simp only [Act.put,List.setIfInBounds_toArray,List.set_cons_zero,List.set_cons_succ])) | (refine runL_skip (w1:=w.drew.setCell ⟨k,0,none⟩ (.int .u64 (p':Nat))) (by rfl) (by rfl) (exec_store1 45 _ _ rfl k 0 _ rfl rfl (by kernel_rfl) (by show (World.cell? w _).isSome=true;rw [HKP.out.cells.1];rfl) (frozen_row (row:=[_,_,_]) HKP.out _) rfl) (.inl ⟨rfl,by kernel_rfl⟩) ?_;(try simp only [Act.put])))
 (refine runL_nil ?_)
 exact HK.out _ _ _ _ _ _ _ _ _ _ ⟨by rw [←HP.out];exact HKP.out.drew.set0 p',(Chg.refl (fun j=>j=k) w).drew.setCell (p:=⟨k,0,none⟩) (.inl rfl) _⟩
set_option maxHeartbeats 4000000 in
theorem free_r5 {k pool slots n c q:Nat} {A:Option Addr} (w:World) (Q:Exit→Act→World→Prop) (hk:KeepAt w k pool slots (.slice A n c)) (hq:q < 64) (hp:slots < 18446744073709551616)
   (kk:∀ (lL lM lN lO lP lQ lR lS lT lU lV:Value) (w':World),KeepAt w' k pool (slots ||| 2 ^ q) (.slice A n c)∧Chg (fun j=>j=k) w w'→Q .normal ⟨#[.pointer (some ⟨k,0,none⟩),aA,kV,kW,.int .i64 (-1 - (q:Int)),aD,kX,kY,kZ,lA,lB,lC,aE,aF,aG,aH,aI,aJ,aK,aL,aM,aN,aO,aP,aQ,aR,aS,aT,aU,aV,aW,aX,aY,aZ,a8,bA,bB,bC,bD,bE,bF,bG,bH,bI,bJ,lL,lM,lN,lO,lP,lQ,lR,lS,lT,lU,lV,bW,bX,bY,bZ,b4,b6,cA,cC],[]⟩ w'):(partR Tryd.f37 5).wp Tryd.prog Q ⟨#[.pointer (some ⟨k,0,none⟩),aA,kV,kW,.int .i64 (-1 - (q:Int)),aD,kX,kY,kZ,lA,lB,lC,aE,aF,aG,aH,aI,aJ,aK,aL,aM,aN,aO,aP,aQ,aR,aS,aT,aU,aV,aW,aX,aY,aZ,a8,bA,bB,bC,bD,bE,bF,bG,bH,bI,bJ,bK,bL,bM,bN,bO,bP,bQ,bS,bT,bU,bV,bW,bX,bY,bZ,b4,b6,cA,cC],[]⟩ w:=by
 have HK:=Lh kk
 have HKP:=Lh hk
 obtain ⟨p',hp'⟩:∃ z:Nat,z=slots ||| 2 ^ q:=⟨_,rfl⟩
 have hv:bits BinOp.or IntKind.u64 (slots:Int) (IntKind.u64.wrap ((2:Int) ^ q))=(p':Int):=by rw [hp'];exact or_pow slots q hp hq
 have z1:-(-1 - (q:Int))=(q:Int)+1:=by omega
 have z2:IntKind.i64.wrap ((q:Int)+1)=(q:Int)+1:=by rw [IntKind.wrap_i64];omega
 have z3:IntKind.i64.wrap (q:Int)=(q:Int):=by rw [IntKind.wrap_i64];omega
 clear hp
 have HP:=Lh hp'
 clear hk kk hp'
 conv=>arg 2;whnf
 go_wp2_with fail
 (refine wp_region_lines (fun w_=>KeepAt w_ k pool slots (.slice A n c)) (by kernel_rfl) (by kernel_rfl) HKP.out.drew ?_)
 (try simp only [])
 repeat (first | (refine runL_no (by rfl) ?_;(try simp only [Act.put,List.setIfInBounds_toArray,List.set_cons_zero,List.set_cons_succ])) | (refine runL_val (v:=?_) (by rfl) ?_ ?_;rotate_left;(focus (intro w_ hw_;have f0_:=hw_.cells.1;have f1_:=hw_.cells.2.1;go_simp;(try with_reducible rfl);done));(try simp only [Act.put,List.setIfInBounds_toArray,List.set_cons_zero,List.set_cons_succ])) | (refine runL_skip (w1:=w.drew.setCell ⟨k,1,none⟩ (.int .u64 (p':Nat))) (by rfl) (by rfl) (exec_store1 45 _ _ rfl k 1 _ rfl rfl (by kernel_rfl) (by show (World.cell? w _).isSome=true;rw [HKP.out.cells.2.1];rfl) (frozen_row (row:=[_,_,_]) HKP.out _) rfl) (.inl ⟨rfl,by kernel_rfl⟩) ?_;(try simp only [Act.put])))
 (refine runL_nil ?_)
 exact HK.out _ _ _ _ _ _ _ _ _ _ _ _ ⟨by rw [←HP.out];exact HKP.out.drew.set1 p',(Chg.refl (fun j=>j=k) w).drew.setCell (p:=⟨k,1,none⟩) (.inl rfl) _⟩
end Go.Proofs.YtppoiahhaclleaaDoor
namespace Go.Proofs.YtppoiahhaclleaaDoor
open Go.RowKit
set_option maxRecDepth 100000
def relP (pool:Nat) (l:List (Int×Int)):Nat:=l.foldl (fun p x=>if 0≤x.1 then p ||| 2 ^ x.1.toNat else p) pool
def relS (slots:Nat) (l:List (Int×Int)):Nat:=l.foldl (fun p x=>if 0≤x.1 then p else p ||| 2 ^ (-1 - x.1).toNat) slots
theorem relP_snoc (pool:Nat) (l:List (Int×Int)) (x:Int×Int):relP pool (l++[x])=if 0≤x.1 then relP pool l ||| 2 ^ x.1.toNat else relP pool l:=by
 unfold relP;rw [List.foldl_append];rfl
theorem relS_snoc (pool:Nat) (l:List (Int×Int)) (x:Int×Int):relS pool (l++[x])=if 0≤x.1 then relS pool l else relS pool l ||| 2 ^ (-1 - x.1).toNat:=by
 unfold relS;rw [List.foldl_append];rfl
theorem or_lt (a q:Nat) (h:a < 18446744073709551616) (hq:q < 64):a ||| 2 ^ q < 18446744073709551616:=Nat.or_lt_two_pow (n:=64) h (Nat.pow_lt_pow_right (by decide) hq)
def PlOk (x:Int×Int):Prop:=-64≤x.1∧x.1 < 64
theorem relP_lt {pool:Nat} {l:List (Int×Int)} (h:pool < 18446744073709551616) (hl:∀ x∈l,PlOk x):relP pool l < 18446744073709551616:=by
 induction l generalizing pool with
 | nil=>exact h
 | cons x l ih =>
   have hx:=hl x (List.mem_cons_self)
   refine ih (pool:=if 0≤x.1 then pool ||| 2 ^ x.1.toNat else pool) ?_ (fun y hy=>hl y (List.mem_cons_of_mem _ hy))
   split
   · exact or_lt _ _ h (by have:=hx.2;omega)
   · exact h
theorem relS_lt {pool:Nat} {l:List (Int×Int)} (h:pool < 18446744073709551616) (hl:∀ x∈l,PlOk x):relS pool l < 18446744073709551616:=by
 induction l generalizing pool with
 | nil=>exact h
 | cons x l ih =>
   have hx:=hl x (List.mem_cons_self)
   refine ih (pool:=if 0≤x.1 then pool else pool ||| 2 ^ (-1 - x.1).toNat) ?_ (fun y hy=>hl y (List.mem_cons_of_mem _ hy))
   split
   · exact h
   · exact or_lt _ _ h (by have:=hx.1;omega)
def Freed (k g:Nat) (now:Int) (pool slots:Nat) (l:List (Int×Int)) (w w':World):Prop :=
 ∃ (gone rest:List (Int×Int)) (o c:Nat),(gone++rest).Perm l∧(∀ x∈gone,x.2 < now)∧(∀ x∈rest,now≤x.2)∧KeepAt w' k (relP pool gone) (relS slots gone) (.slice (some ⟨g,o,none⟩) rest.length c)∧HeldBlk w' g o c rest∧Chg (fun j=>j=k∨j=g) w w'
theorem KeepAt.chg {k pool slots:Nat} {v:Value} {F:Nat→Prop} {w w':World} (h:KeepAt w k pool slots v) (hb:Chg F w w') (h1:¬ F k):KeepAt w' k pool slots v:=(hb.block k (lt_of_block h) h1).trans h
theorem HeldBlk.chg {g o c:Nat} {l:List (Int×Int)} {F:Nat→Prop} {w w':World} (h:HeldBlk w g o c l) (hb:Chg F w w') (h1:¬ F g):HeldBlk w' g o c l:=h.keep (hb.block g h.lt h1)
theorem Chg.weak {F G:Nat→Prop} {w w':World} (h:Chg F w w') (hfg:∀ j,F j→G j):Chg G w w':=⟨h.os,h.tape,h.output,h.size,fun j hj hn=>h.block j hj fun e=>hn (hfg j e)⟩
set_option maxHeartbeats 8000000 in
theorem free_any {k pool slots g o c n:Nat} {l:List (Int×Int)} (now:Int) (w:World) (hk:KeepAt w k pool slots (.slice (some ⟨g,o,none⟩) n c)) (hH:HeldBlk w g o c l) (hn:l.length=n) (hn1:n≤1000) (hne:k≠g) (hv:∀ x∈l,PlOk x) (hp:pool < 18446744073709551616) (hs:slots < 18446744073709551616) :
   Calls Tryd.prog 37 #[.pointer (some ⟨k,0,none⟩),.int .i64 now] w fun e w'=>e=.returned (.tuple #[])∧Freed k g now pool slots l w w':=by
 have HS:=Lh (sortH_any w hH hn hn1)
 have HKP:=Lh hk
 have HNE:=Lh hne
 have HV:=Lh hv
 have HPS:=Lh (And.intro hp hs)
 have HN:=Lh hn
 have f2:=hk.cells.2.2
 clear hk hH hn hne hv hp hs
 go_enter Tryd.func37,Tryd.ntmps37
 go_wp2_with ((with_reducible refine (HS.out).mono ?_);rintro e w1 ⟨rfl,l1,h1,h2,h3,h4⟩;have H1:=Lh (And.intro h1 (And.intro h2 (And.intro h3 h4)));clear h1 h2 h3 h4)
 clear f2
 have HPL:=Lh (fun x (hx:x∈l1)=>HV.out x (H1.out.1.mem_iff.1 hx))
 have HK1:=Lh (HKP.out.chg H1.out.2.2.2 HNE.out)
 have HL1:=Lh (show l1.length=n by rw [H1.out.1.length_eq];exact HN.out)
 go_loopw [4] (fun _ wr=>∃ (gone rest:List (Int×Int)) (o c:Nat),Hid (gone++rest=l1∧(∀ x∈gone,x.2 < now)∧KeepAt wr k (relP pool gone) (relS slots gone) (.slice (some ⟨g,o,none⟩) rest.length c)∧HeldBlk wr g o c rest∧Chg (fun j=>j=k∨j=g) w wr)) (fun _ wr=>match wr.cell? ⟨k,2,none⟩ with | some (.slice _ n _)=>n | _=>0)
 case atStart=>exact ⟨[],l1,o,c,Lh ⟨rfl,(fun x hx=>by cases hx),by rw [HL1.out];exact HK1.out,H1.out.2.2.1,H1.out.2.2.2.weak fun j hj=>.inr hj⟩⟩
 case round =>
   obtain ⟨gone,rest,o2,c2,HJ⟩:=hrel
   have F2:=Lh HJ.out.2.2.1.cells.2.2
   cases rest with
   | nil =>
     have f2:wr.cell? ⟨k,2,none⟩=some (.slice (some ⟨g,o2,none⟩) 0 c2):=F2.out
     go_wp2
     refine bodyPost_end (v:=.tuple #[]) (results_none rfl _ _ _) rfl ?_
     exact ⟨rfl,gone,[],o2,c2,by rw [HJ.out.1];exact H1.out.1,HJ.out.2.1,(fun x hx=>by cases hx),HJ.out.2.2⟩
   | cons x rest =>
     obtain ⟨m,hm⟩:∃ q,(x :: rest).length=q:=⟨_,rfl⟩
     rw [hm] at F2 HJ
     have HM:=Lh hm
     have f2:=F2.out
     have hm0:0 < m:=by rw [←hm,List.length_cons];omega
     have hmd:decide (0 < m)=true:=decide_eq_true hm0
     have hm2:m≤1000:=by
       have:=HL1.out
       rw [←HJ.out.1,List.length_append,hm] at this
       omega
     have HX:=Lh (HJ.out.2.2.2.1.cell (i:=0) rfl)
     have x0:wr.cell? ⟨g,o2,none⟩=some (.int .i64 x.1):=HX.out.1
     have x1:wr.cell? ⟨g,o2+1,none⟩=some (.int .i64 x.2):=HX.out.2
     have HPX:=Lh (show PlOk x from HPL.out x (by rw [←HJ.out.1];simp))
     clear hm
     by_cases hu:x.2 < now
     · have hud:decide (x.2 < now)=true:=decide_eq_true hu
       have HU:=Lh hu
       clear hu
       by_cases h0:0≤x.1
       · obtain ⟨q,hq⟩:∃ q:Nat,x.1=q:=⟨x.1.toNat,by omega⟩
         have hq1:q < 64:=by have:=HPX.out.2;omega
         have HP2:=Lh (show relP pool (gone++[x])=relP pool gone ||| 2 ^ q by rw [relP_snoc,if_pos h0,hq];rfl)
         have HS2:=Lh (show relS slots (gone++[x])=relS slots gone by rw [relS_snoc,if_pos h0])
         rw [hq] at x0
         have hqd:(0:Int)≤(q:Int):=by omega
         have HGO:=Lh (fun y (hy:y∈gone)=>HPL.out y (by rw [←HJ.out.1];exact List.mem_append_left _ hy))
         clear h0 hq
         go_upto_region 4 with fail
         refine wp_code (c:=partR Tryd.f37 4) (by kernel_rfl) ?_
         refine free_r4 (q:=q) _ _ HJ.out.2.2.1 hq1 (relP_lt HPS.out.1 HGO.out) ?_
         intro mX lD lE lF lG lH lI lJ lK w3 h3
         have H3:=Lh h3
         clear h3
         have HB3:=Lh (HJ.out.2.2.2.1.chg H3.out.2 (fun e=>HNE.out e.symm))
         have g2:=H3.out.1.cells.2.2
         have fz:w3.frozen? ⟨k,2,none⟩=false:=frozen_row (row:=[_,_,_]) H3.out.1 _
         have hlt3:k < w3.heap.size:=lt_of_block H3.out.1
         by_cases hc:c2=1
         · subst hc
           have HM1:=Lh (show m=1 by have:=HB3.out.le;rw [HM.out] at this;omega)
           obtain rfl:m=1:=HM1.out
           have HR0:=Lh (show rest=[] from List.eq_nil_of_length_eq_zero (by have:=HM.out;rw [List.length_cons] at this;omega))
           go_wp2
           go_roundw
           case rel=>exact ⟨gone++[x],[],o2,0,Lh ⟨by rw [←HJ.out.1,HR0.out];simp,by
             intro y hy
             rcases List.mem_append.1 hy with h | h
             · exact HJ.out.2.1 y h
             · rw [List.mem_singleton.1 h];exact HU.out,by rw [HP2.out,HS2.out];exact H3.out.1.set2 _,⟨by obtain ⟨cs,a1,a2,_⟩:=HB3.out.blk;exact ⟨cs,by rw [←a1];exact Below.heap_setCell _ _ _ _ (fun e=>HNE.out e.symm),by omega,fun j u hj=>by cases hj⟩,Nat.zero_le _⟩,(HJ.out.2.2.2.2.trans (H3.out.2.weak fun j hj=>.inl hj)).setCell (.inl (.inl rfl)) _⟩⟩
           case measure=>rw [F2.out,(H3.out.1.set2 _).cells.2.2];simp
         · have hc1:1 < c2:=by have:=HB3.out.le;rw [HM.out] at this;omega
           obtain ⟨m1,rfl⟩:∃ z,m=z+1:=⟨m - 1,by omega⟩
           have HM1:=Lh (show rest.length=m1 by have:=HM.out;rw [List.length_cons] at this;omega)
           go_wp2
           go_roundw
           case rel=>exact ⟨gone++[x],rest,o2+2,c2 - 1,Lh ⟨by rw [←HJ.out.1];simp,by
             intro y hy
             rcases List.mem_append.1 hy with h | h
             · exact HJ.out.2.1 y h
             · rw [List.mem_singleton.1 h];exact HU.out,by rw [HP2.out,HS2.out,HM1.out];exact H3.out.1.set2 _,HB3.out.tail.keep (Below.heap_setCell _ _ _ _ (fun e=>HNE.out e.symm)),(HJ.out.2.2.2.2.trans (H3.out.2.weak fun j hj=>.inl hj)).setCell (.inl (.inl rfl)) _⟩⟩
           case measure=>rw [F2.out,(H3.out.1.set2 _).cells.2.2];simp
       · obtain ⟨q,hq⟩:∃ q:Nat,x.1 = -1 - (q:Int):=⟨(-1 - x.1).toNat,by omega⟩
         have hq1:q < 64:=by have:=HPX.out.1;omega
         have HP2:=Lh (show relP pool (gone++[x])=relP pool gone by rw [relP_snoc,if_neg h0])
         have HS2:=Lh (show relS slots (gone++[x])=relS slots gone ||| 2 ^ q by rw [relS_snoc,if_neg h0,hq,show (-1 - (-1 - (q:Int))).toNat=q by omega])
         rw [hq] at x0
         have hqd:decide ((0:Int)≤-1 - (q:Int))=false:=decide_eq_false (by omega)
         have hqe:decide ((q:Int)≤-1)=false:=decide_eq_false (by omega)
         have HGO:=Lh (fun y (hy:y∈gone)=>HPL.out y (by rw [←HJ.out.1];exact List.mem_append_left _ hy))
         clear h0 hq
         go_upto_region 5 with fail
         refine wp_code (c:=partR Tryd.f37 5) (by kernel_rfl) ?_
         refine free_r5 (q:=q) _ _ HJ.out.2.2.1 hq1 (relS_lt HPS.out.2 HGO.out) ?_
         intro lL lM lN lO lP lQ lR lS lT lU lV w3 h3
         have H3:=Lh h3
         clear h3
         have HB3:=Lh (HJ.out.2.2.2.1.chg H3.out.2 (fun e=>HNE.out e.symm))
         have g2:=H3.out.1.cells.2.2
         have fz:w3.frozen? ⟨k,2,none⟩=false:=frozen_row (row:=[_,_,_]) H3.out.1 _
         have hlt3:k < w3.heap.size:=lt_of_block H3.out.1
         by_cases hc:c2=1
         · subst hc
           have HM1:=Lh (show m=1 by have:=HB3.out.le;rw [HM.out] at this;omega)
           obtain rfl:m=1:=HM1.out
           have HR0:=Lh (show rest=[] from List.eq_nil_of_length_eq_zero (by have:=HM.out;rw [List.length_cons] at this;omega))
           go_wp2
           go_roundw
           case rel=>exact ⟨gone++[x],[],o2,0,Lh ⟨by rw [←HJ.out.1,HR0.out];simp,by
             intro y hy
             rcases List.mem_append.1 hy with h | h
             · exact HJ.out.2.1 y h
             · rw [List.mem_singleton.1 h];exact HU.out,by rw [HP2.out,HS2.out];exact H3.out.1.set2 _,⟨by obtain ⟨cs,a1,a2,_⟩:=HB3.out.blk;exact ⟨cs,by rw [←a1];exact Below.heap_setCell _ _ _ _ (fun e=>HNE.out e.symm),by omega,fun j u hj=>by cases hj⟩,Nat.zero_le _⟩,(HJ.out.2.2.2.2.trans (H3.out.2.weak fun j hj=>.inl hj)).setCell (.inl (.inl rfl)) _⟩⟩
           case measure=>rw [F2.out,(H3.out.1.set2 _).cells.2.2];simp
         · have hc1:1 < c2:=by have:=HB3.out.le;rw [HM.out] at this;omega
           obtain ⟨m1,rfl⟩:∃ z,m=z+1:=⟨m - 1,by omega⟩
           have HM1:=Lh (show rest.length=m1 by have:=HM.out;rw [List.length_cons] at this;omega)
           go_wp2
           go_roundw
           case rel=>exact ⟨gone++[x],rest,o2+2,c2 - 1,Lh ⟨by rw [←HJ.out.1];simp,by
             intro y hy
             rcases List.mem_append.1 hy with h | h
             · exact HJ.out.2.1 y h
             · rw [List.mem_singleton.1 h];exact HU.out,by rw [HP2.out,HS2.out,HM1.out];exact H3.out.1.set2 _,HB3.out.tail.keep (Below.heap_setCell _ _ _ _ (fun e=>HNE.out e.symm)),(HJ.out.2.2.2.2.trans (H3.out.2.weak fun j hj=>.inl hj)).setCell (.inl (.inl rfl)) _⟩⟩
           case measure=>rw [F2.out,(H3.out.1.set2 _).cells.2.2];simp
     · have hud:decide (x.2 < now)=false:=decide_eq_false hu
       have HU:=Lh hu
       clear hu
       go_wp2
       refine bodyPost_end (v:=.tuple #[]) (results_none rfl _ _ _) rfl ?_
       refine ⟨rfl,gone,x :: rest,o2,c2,by rw [HJ.out.1];exact H1.out.1,HJ.out.2.1,fun y hy=>?_,by rw [HM.out];exact HJ.out.2.2⟩
       have hsrt:=H1.out.2.1
       rw [←HJ.out.1] at hsrt
       have h5:=(List.pairwise_append.1 hsrt).2.1
       have:=HU.out
       rcases List.mem_cons.1 hy with rfl | h
       · omega
       · have:=(List.pairwise_cons.1 h5).1 y h
         omega
end Go.Proofs.YtppoiahhaclleaaDoor
namespace Go.Proofs.YtppoiahhaclleaaDoor
open Go.RowKit
set_option maxRecDepth 100000
theorem HeldBlk.spare {w:World} {g o c:Nat} {l:List (Int×Int)} (h:HeldBlk w g o c l) (hr:l.length+1≤c) (j:Nat) (hj:j < 2):(w.cell? ⟨g,o+l.length*2+j,none⟩).isSome=true∧w.frozen? ⟨g,o+l.length*2+j,none⟩=false:=by
 obtain ⟨cs,h1,h2,_⟩:=h.blk
 refine ⟨?_,h.frozen _⟩
 simp only [World.cell?,h1]
 exact Option.isSome_iff_exists.2 ⟨_,Array.getElem?_eq_getElem (show o+l.length*2+j < cs.size by omega)⟩
theorem HeldBlk.put {w:World} {g o c:Nat} {l:List (Int×Int)} {p u:Int} (h:HeldBlk w g o c l) (hr:l.length+1≤c):HeldBlk (w.setCells g (o+l.length*2) [.int .i64 p,.int .i64 u]) g o c (l++[(p,u)]):=by
 obtain ⟨cs,h1,h2,h3⟩:=h.blk
 have e:(w.setCells g (o+l.length*2) [.int .i64 p,.int .i64 u]).heap[g]? = some (.cells ((cs.setIfInBounds (o+l.length*2) (.int .i64 p)).setIfInBounds (o+l.length*2+1) (.int .i64 u)) 101 (0,0)):=by
   show ((w.setCell ⟨g,o+l.length*2,none⟩ (.int .i64 p)).setCell ⟨g,o+l.length*2+1,none⟩ (.int .i64 u)).heap[g]? = _
   unfold World.setCell
   simp only [Array.getElem?_modify,if_true,h1]
   rfl
 refine ⟨⟨_,e,by simpa using h2,fun j x hj=>?_⟩,by rw [List.length_append];exact hr⟩
 have hln:=spV_len l
 rcases Nat.lt_or_ge j (l.length*2) with hlt | hge
 · rw [spV_append,List.getElem?_append_left (by omega)] at hj
   rw [Array.getElem?_setIfInBounds_ne (by omega),Array.getElem?_setIfInBounds_ne (by omega)]
   exact h3 j x hj
 · rw [spV_append,List.getElem?_append_right (by omega),hln] at hj
   have hlt2:=(List.getElem?_eq_some_iff.1 hj).1
   have hs2:(spV [(p,u)]).length=2:=rfl
   rw [hs2] at hlt2
   rcases Nat.lt_or_ge (j - l.length*2) 1 with h0 | h0
   · obtain rfl:j=l.length*2:=by omega
     rw [Nat.sub_self] at hj
     rw [Array.getElem?_setIfInBounds_ne (by omega),Array.getElem?_setIfInBounds_self_of_lt (by omega)]
     exact hj
   · obtain rfl:j=l.length*2+1:=by omega
     rw [show l.length*2+1 - l.length*2=1 by omega] at hj
     rw [show o+(l.length*2+1)=o+l.length*2+1 by omega,Array.getElem?_setIfInBounds_self_of_lt (by simp;omega)]
     exact hj
theorem chg_cells (g o:Nat) (vs:List Value) (w:World):Chg (fun j=>j=g) w (w.setCells g o vs):=by
 induction vs generalizing o w with
 | nil=>exact Chg.refl _ _
 | cons v vs ih=>exact ((Chg.refl (fun j=>j=g) w).setCell (p:=⟨g,o,none⟩) (.inl rfl) v).trans (ih _ _)
theorem held_own {w:World} {base n c:Nat} {A:Option Addr} {l:List (Int×Int)} (h:w.ownsRow base 101 2 (.slice A n c) n (spV l)) (hl:l.length=n) (hn:0 < n):∃ g,A=some ⟨g,0,none⟩∧base≤g∧HeldBlk w g 0 c l:=by
 rcases h.2 with ⟨_,h0⟩ | ⟨g,cap,cur,hv,hb,hg,hnc,_,hsz,htk⟩
 · omega
 · cases hv
   refine ⟨g,rfl,hb,⟨cur,hg,by rw [hsz,Nat.zero_add];exact Nat.le_refl _,fun j u hj=>?_⟩,by omega⟩
   rw [Nat.zero_add,←Array.getElem?_toList]
   have hlt:=(List.getElem?_eq_some_iff.1 hj).1
   rw [←htk,List.getElem?_take] at hj
   split at hj
   · exact hj
   · cases hj
structure Taken2 (B k g0 pool slots:Nat) (l:List (Int×Int)) (place un:Int) (w:World) (e:Ending) (w':World):Prop where
 is:e=.returned (.int .i64 place)
 held:∃ g o c,KeepAt w' k pool slots (.slice (some ⟨g,o,none⟩) (l.length+1) c)∧HeldBlk w' g o c (l++[(place,un)])∧B≤g∧g≠k
 chg:Chg (fun j=>j=k∨j=g0) w w'
set_option maxHeartbeats 4000000 in
theorem take_reg2 {B k pool slots n c p' g o:Nat} {l:List (Int×Int)} (un:Int) (w:World) (hk:KeepAt w k pool slots (.slice (some ⟨g,o,none⟩) n c)) (hH:HeldBlk w g o c l) (hne:k≠g) (hbg:B≤g)
   (hT:TzAt w) (hp:pool≠0) (hp64:pool < 18446744073709551616) (hn:n≤1000) (hl:l.length=n) (hb:B≤w.heap.size) (hp':andV pool=(p':Int)) :
   Calls Tryd.prog 38 #[.pointer (some ⟨k,0,none⟩),.int .i64 un] w fun e w'=>Taken2 B k g p' slots l (Lib.ctz 64 pool:Nat) un w e w':=by
 have H:=Lh (tz_any pool hp64 w hT)
 have HKP:=Lh hk
 have HNE:=Lh hne
 have HBG:=Lh hbg
 obtain ⟨j0,hie,hy0,hy1,hy2⟩:=info_parts infoS
 have f0:=hk.cells.1
 have d0:((pool:Int) != 0)=true:=by simp;omega
 obtain ⟨pl,hpl⟩:∃ x,(Lib.ctz 64 pool:Nat)=x:=⟨_,rfl⟩
 rw [hpl] at H ⊢
 have HP:=Lh hp'
 unfold andV at hp'
 obtain ⟨W3,hW3⟩:∃ q,q=w.drew.setCell ⟨k,0,none⟩ (.int .u64 (p':Nat)):=⟨_,rfl⟩
 have HKP3:=Lh (show KeepAt W3 k p' slots (.slice (some ⟨g,o,none⟩) n c) by rw [hW3];exact hk.drew.set0 p')
 have hck:Chg (fun j=>j=k∨j=g) w W3:=by rw [hW3];exact (Chg.refl _ w).drew.setCell (.inl (.inl rfl)) _
 have HC3:=Lh hck
 have HHA:=Lh (fun (pl:Int)=>show HeldBlk (W3.alloc (.cells #[.int .i64 pl,.int .i64 un] 101)) g o c l from (show HeldBlk W3 g o c l by rw [hW3];exact (HeldBlk.keep (w:=w) (w':=w.drew) hH rfl).keep (Below.heap_setCell _ _ _ _ (fun e=>hne e.symm))).keep (((Below.refl W3.heap.size W3).alloc (Nat.le_refl _) _).block g (Nat.lt_of_lt_of_le hH.lt hck.size)))
 have HBZ:=Lh (show B≤W3.heap.size from Nat.le_trans hb hck.size)
 have HW3:=Lh hW3
 have HL:=Lh hl
 clear hk hH hne hbg hT hp hp64 hl hb hW3 hck hpl
 go_enter Tryd.func38,Tryd.ntmps38
 go_wp2_with ((with_reducible refine (H.out).mono ?_);rintro e w1 ⟨rfl,rfl⟩)
 clear f0
 (refine wp_region_lines (fun w_=>KeepAt w_ k pool slots (.slice (some ⟨g,o,none⟩) n c)) (by kernel_rfl) (by kernel_rfl) HKP.out.drew ?_)
 (try simp only [])
 repeat (first | (refine runL_no (by rfl) ?_;(try simp only [Act.put,List.setIfInBounds_toArray,List.set_cons_zero,List.set_cons_succ])) | (refine runL_val (v:=?_) (by rfl) ?_ ?_;rotate_left;(focus (intro w_ hw_;have f0_:=hw_.cells.1;have f1_:=hw_.cells.2.1;go_simp;(try with_reducible rfl);done));(try simp only [Act.put,List.setIfInBounds_toArray,List.set_cons_zero,List.set_cons_succ])) | (refine runL_skip (w1:=w1.drew.setCell ⟨k,0,none⟩ (.int .u64 (p':Nat))) (by rfl) (by rfl) (exec_store1 45 _ _ rfl k 0 _ rfl rfl (by kernel_rfl) (by show (World.cell? w1 _).isSome=true;rw [HKP.out.cells.1];rfl) (frozen_row (row:=[_,_,_]) HKP.out _) rfl) (.inl ⟨rfl,by kernel_rfl⟩) ?_;(try simp only [Act.put])))
 (refine runL_nil ?_)
 have f2:=HKP3.out.cells.2.2
 by_cases hr:n+1≤c
 · rw [←HW3.out]
   go_wp2_with ((at_builtin;refine wpList_append_arg _ rfl _ _ 71 rfl 101 j0 (.agg #[.int .i64 0,.int .i64 0]) 2 16 Tryd.underlying71 hie hy0 hy1 hy2 rfl (by decide) g o n c (spV l) rfl (by rw [spV_len,HL.out]) (fun j u hj=>(HHA.out ((pl:Nat):Int)).at_ hj) ⟨W3.heap.size,0,none⟩ 1 1 [.int .i64 ((pl:Nat):Int),.int .i64 un] rfl (by simp) (World.news_of_block (cs:=#[.int .i64 ((pl:Nat):Int),.int .i64 un]) (t:=101) (fr:=(0,0)) (heap_alloc_new W3 _)) (by simp [Value.oneCell']) (fun hr j hj=>by have:=(HHA.out ((pl:Nat):Int)).spare (by rw [HL.out];exact hr) j hj;rw [HL.out] at this;exact this) (by unfold maxLen;omega) (by omega) (fun _=>?_) (fun hlt=>absurd hlt (by omega)));obtain ⟨W6,hW6⟩:∃ q,q=(W3.alloc (.cells #[.int .i64 ((pl:Nat):Int),.int .i64 un] 101)).setCells g (o+n*2) [.int .i64 ((pl:Nat):Int),.int .i64 un]:=⟨_,rfl⟩;rw [←hW6];have HK6:=Lh (show KeepAt W6 k p' slots (.slice (some ⟨g,o,none⟩) n c) by rw [hW6];exact (HKP3.out.next ((Below.refl _ _).alloc (Nat.le_refl _) _)).chg (chg_cells g _ _ _) HNE.out);have HH6:=Lh (show HeldBlk W6 g o c (l++[(((pl:Nat):Int),un)]) by rw [hW6,←HL.out];exact (HHA.out ((pl:Nat):Int)).put (by rw [HL.out];omega));have HC6:=Lh (show Chg (fun j=>j=k∨j=g) w1 W6 by rw [hW6];exact (HC3.out.alloc _).trans ((chg_cells g _ _ _).weak fun j hj=>.inr hj));clear hW6;have s2:=HK6.out.cells.2.2;have s3:=frozen_row (row:=[_,_,_]) HK6.out 2)
   go_wp2
   go_ret
   exact ⟨rfl,⟨g,o,c,by rw [HL.out];exact HK6.out.set2 _,HH6.out.keep (Below.heap_setCell _ _ _ _ (fun e=>HNE.out e.symm)),HBG.out,fun e=>HNE.out e.symm⟩,HC6.out.setCell (.inl (.inl rfl)) _⟩
 · rw [←HW3.out]
   go_wp2_with ((at_builtin;refine wpList_append_arg _ rfl _ _ 71 rfl 101 j0 (.agg #[.int .i64 0,.int .i64 0]) 2 16 Tryd.underlying71 hie hy0 hy1 hy2 rfl (by decide) g o n c (spV l) rfl (by rw [spV_len,HL.out]) (fun j u hj=>(HHA.out ((pl:Nat):Int)).at_ hj) ⟨W3.heap.size,0,none⟩ 1 1 [.int .i64 ((pl:Nat):Int),.int .i64 un] rfl (by simp) (World.news_of_block (cs:=#[.int .i64 ((pl:Nat):Int),.int .i64 un]) (t:=101) (fr:=(0,0)) (heap_alloc_new W3 _)) (by simp [Value.oneCell']) (fun hr=>absurd hr (by omega)) (by unfold maxLen;omega) (by omega) (fun hr=>absurd hr (by omega)) (fun _=>?_));intro pP w6 hown6 hg6;obtain ⟨A6,c6,rfl⟩:=own_form hown6;have HOWN6:=Lh hown6;have HG6:=Lh hg6;clear hown6 hg6;have HK6:=Lh ((HKP3.out.next ((Below.refl _ _).alloc (Nat.le_refl _) _)).grown HG6.out (fun e=>by cases e));have s2:=HK6.out.cells.2.2;have s3:=frozen_row (row:=[_,_,_]) HK6.out 2)
   go_wp2
   go_ret
   obtain ⟨g6,rfl,hg6,hh6⟩:=held_own (l:=l++[(((pl:Nat):Int),un)]) (by rw [spV_append];exact HOWN6.out) (by rw [List.length_append,HL.out];rfl) (by omega)
   have hkz:=lt_of_block HKP3.out
   have hg7:W3.heap.size+1≤g6:=by have:=hg6;simp at this;omega
   have hg8:g6≠k:=fun e=>by omega
   exact ⟨rfl,⟨g6,0,c6,by rw [HL.out];exact HK6.out.set2 _,hh6.keep (Below.heap_setCell _ _ _ _ hg8),by have:=HBZ.out;omega,hg8⟩,((HC3.out.alloc _).trans (chg_grown HG6.out fun j hj=>by cases hj)).setCell (.inl (.inl rfl)) _⟩
set_option maxHeartbeats 4000000 in
theorem take_slot2 {B k pool slots n c p' g o:Nat} {l:List (Int×Int)} (un:Int) (w:World) (hk:KeepAt w k pool slots (.slice (some ⟨g,o,none⟩) n c)) (hH:HeldBlk w g o c l) (hne:k≠g) (hbg:B≤g)
   (hT:TzAt w) (hp:pool=0) (hp64:slots < 18446744073709551616) (hn:n≤1000) (hl:l.length=n) (hb:B≤w.heap.size) (hp':andV slots=(p':Int)) :
   Calls Tryd.prog 38 #[.pointer (some ⟨k,0,none⟩),.int .i64 un] w fun e w'=>Taken2 B k g pool p' l (-1 - (Lib.ctz 64 slots:Nat)) un w e w':=by
 have H:=Lh (tz_any slots hp64 w hT)
 have HKP:=Lh hk
 have HNE:=Lh hne
 have HBG:=Lh hbg
 obtain ⟨j0,hie,hy0,hy1,hy2⟩:=info_parts infoS
 have f0:=hk.cells.1
 have f1:=hk.cells.2.1
 have d0:((pool:Int) != 0)=false:=by subst hp;rfl
 have hz:=ctz_le slots hp64
 obtain ⟨pl,hpl⟩:∃ x,(Lib.ctz 64 slots:Nat)=x:=⟨_,rfl⟩
 rw [hpl] at H hz ⊢
 have hw:IntKind.i64.wrap (-1 - (pl:Int)) = -1 - pl:=by rw [IntKind.wrap_i64];omega
 have HP:=Lh hp'
 unfold andV at hp'
 obtain ⟨W3,hW3⟩:∃ q,q=w.drew.setCell ⟨k,1,none⟩ (.int .u64 (p':Nat)):=⟨_,rfl⟩
 have HKP3:=Lh (show KeepAt W3 k pool p' (.slice (some ⟨g,o,none⟩) n c) by rw [hW3];exact hk.drew.set1 p')
 have hck:Chg (fun j=>j=k∨j=g) w W3:=by rw [hW3];exact (Chg.refl _ w).drew.setCell (.inl (.inl rfl)) _
 have HC3:=Lh hck
 have HHA:=Lh (fun (pl:Int)=>show HeldBlk (W3.alloc (.cells #[.int .i64 pl,.int .i64 un] 101)) g o c l from (show HeldBlk W3 g o c l by rw [hW3];exact (HeldBlk.keep (w:=w) (w':=w.drew) hH rfl).keep (Below.heap_setCell _ _ _ _ (fun e=>hne e.symm))).keep (((Below.refl W3.heap.size W3).alloc (Nat.le_refl _) _).block g (Nat.lt_of_lt_of_le hH.lt hck.size)))
 have HBZ:=Lh (show B≤W3.heap.size from Nat.le_trans hb hck.size)
 have HW3:=Lh hW3
 have HL:=Lh hl
 clear hk hH hne hbg hT hp hp64 hl hb hW3 hck hpl
 go_enter Tryd.func38,Tryd.ntmps38
 go_wp2_with ((with_reducible refine (H.out).mono ?_);rintro e w1 ⟨rfl,rfl⟩)
 clear f0 f1
 (refine wp_region_lines (fun w_=>KeepAt w_ k pool slots (.slice (some ⟨g,o,none⟩) n c)) (by kernel_rfl) (by kernel_rfl) HKP.out.drew ?_)
 (try simp only [])
 repeat (first | (refine runL_no (by rfl) ?_;(try simp only [Act.put,List.setIfInBounds_toArray,List.set_cons_zero,List.set_cons_succ])) | (refine runL_val (v:=?_) (by rfl) ?_ ?_;rotate_left;(focus (intro w_ hw_;have f0_:=hw_.cells.1;have f1_:=hw_.cells.2.1;go_simp;(try with_reducible rfl);done));(try simp only [Act.put,List.setIfInBounds_toArray,List.set_cons_zero,List.set_cons_succ])) | (refine runL_skip (w1:=w1.drew.setCell ⟨k,1,none⟩ (.int .u64 (p':Nat))) (by rfl) (by rfl) (exec_store1 45 _ _ rfl k 1 _ rfl rfl (by kernel_rfl) (by show (World.cell? w1 _).isSome=true;rw [HKP.out.cells.2.1];rfl) (frozen_row (row:=[_,_,_]) HKP.out _) rfl) (.inl ⟨rfl,by kernel_rfl⟩) ?_;(try simp only [Act.put])))
 (refine runL_nil ?_)
 have f2:=HKP3.out.cells.2.2
 by_cases hr:n+1≤c
 · rw [←HW3.out]
   go_wp2_with ((at_builtin;refine wpList_append_arg _ rfl _ _ 71 rfl 101 j0 (.agg #[.int .i64 0,.int .i64 0]) 2 16 Tryd.underlying71 hie hy0 hy1 hy2 rfl (by decide) g o n c (spV l) rfl (by rw [spV_len,HL.out]) (fun j u hj=>(HHA.out (-1 - ((pl:Nat):Int))).at_ hj) ⟨W3.heap.size,0,none⟩ 1 1 [.int .i64 (-1 - ((pl:Nat):Int)),.int .i64 un] rfl (by simp) (World.news_of_block (cs:=#[.int .i64 (-1 - ((pl:Nat):Int)),.int .i64 un]) (t:=101) (fr:=(0,0)) (heap_alloc_new W3 _)) (by simp [Value.oneCell']) (fun hr j hj=>by have:=(HHA.out (-1 - ((pl:Nat):Int))).spare (by rw [HL.out];exact hr) j hj;rw [HL.out] at this;exact this) (by unfold maxLen;omega) (by omega) (fun _=>?_) (fun hlt=>absurd hlt (by omega)));obtain ⟨W6,hW6⟩:∃ q,q=(W3.alloc (.cells #[.int .i64 (-1 - ((pl:Nat):Int)),.int .i64 un] 101)).setCells g (o+n*2) [.int .i64 (-1 - ((pl:Nat):Int)),.int .i64 un]:=⟨_,rfl⟩;rw [←hW6];have HK6:=Lh (show KeepAt W6 k pool p' (.slice (some ⟨g,o,none⟩) n c) by rw [hW6];exact (HKP3.out.next ((Below.refl _ _).alloc (Nat.le_refl _) _)).chg (chg_cells g _ _ _) HNE.out);have HH6:=Lh (show HeldBlk W6 g o c (l++[((-1 - ((pl:Nat):Int)),un)]) by rw [hW6,←HL.out];exact (HHA.out (-1 - ((pl:Nat):Int))).put (by rw [HL.out];omega));have HC6:=Lh (show Chg (fun j=>j=k∨j=g) w1 W6 by rw [hW6];exact (HC3.out.alloc _).trans ((chg_cells g _ _ _).weak fun j hj=>.inr hj));clear hW6;have s2:=HK6.out.cells.2.2;have s3:=frozen_row (row:=[_,_,_]) HK6.out 2)
   go_wp2
   go_ret
   exact ⟨rfl,⟨g,o,c,by rw [HL.out];exact HK6.out.set2 _,HH6.out.keep (Below.heap_setCell _ _ _ _ (fun e=>HNE.out e.symm)),HBG.out,fun e=>HNE.out e.symm⟩,HC6.out.setCell (.inl (.inl rfl)) _⟩
 · rw [←HW3.out]
   go_wp2_with ((at_builtin;refine wpList_append_arg _ rfl _ _ 71 rfl 101 j0 (.agg #[.int .i64 0,.int .i64 0]) 2 16 Tryd.underlying71 hie hy0 hy1 hy2 rfl (by decide) g o n c (spV l) rfl (by rw [spV_len,HL.out]) (fun j u hj=>(HHA.out (-1 - ((pl:Nat):Int))).at_ hj) ⟨W3.heap.size,0,none⟩ 1 1 [.int .i64 (-1 - ((pl:Nat):Int)),.int .i64 un] rfl (by simp) (World.news_of_block (cs:=#[.int .i64 (-1 - ((pl:Nat):Int)),.int .i64 un]) (t:=101) (fr:=(0,0)) (heap_alloc_new W3 _)) (by simp [Value.oneCell']) (fun hr=>absurd hr (by omega)) (by unfold maxLen;omega) (by omega) (fun hr=>absurd hr (by omega)) (fun _=>?_));intro pP w6 hown6 hg6;obtain ⟨A6,c6,rfl⟩:=own_form hown6;have HOWN6:=Lh hown6;have HG6:=Lh hg6;clear hown6 hg6;have HK6:=Lh ((HKP3.out.next ((Below.refl _ _).alloc (Nat.le_refl _) _)).grown HG6.out (fun e=>by cases e));have s2:=HK6.out.cells.2.2;have s3:=frozen_row (row:=[_,_,_]) HK6.out 2)
   go_wp2
   go_ret
   obtain ⟨g6,rfl,hg6,hh6⟩:=held_own (l:=l++[((-1 - ((pl:Nat):Int)),un)]) (by rw [spV_append];exact HOWN6.out) (by rw [List.length_append,HL.out];rfl) (by omega)
   have hkz:=lt_of_block HKP3.out
   have hg7:W3.heap.size+1≤g6:=by have:=hg6;simp at this;omega
   have hg8:g6≠k:=fun e=>by omega
   exact ⟨rfl,⟨g6,0,c6,by rw [HL.out];exact HK6.out.set2 _,hh6.keep (Below.heap_setCell _ _ _ _ hg8),by have:=HBZ.out;omega,hg8⟩,((HC3.out.alloc _).trans (chg_grown HG6.out fun j hj=>by cases hj)).setCell (.inl (.inl rfl)) _⟩
end Go.Proofs.YtppoiahhaclleaaDoor
namespace Go.Proofs.YtppoiahhaclleaaDoor
open Go.RowKit
structure KS where
 pool:Nat
 slots:Nat
 held:List (Int×Int)
def goneK (now:Int) (l:List (Int×Int)):List (Int×Int):=l.filter fun x=>decide (x.2 < now)
def restK (now:Int) (l:List (Int×Int)):List (Int×Int):=l.filter fun x=>!decide (x.2 < now)
def freeK (now:Int) (s:KS):KS:=⟨relP s.pool (goneK now s.held),relS s.slots (goneK now s.held),restK now s.held⟩
def placeK (s:KS):Int:=if s.pool=0 then -1 - (Lib.ctz 64 s.slots:Nat) else (Lib.ctz 64 s.pool:Nat)
def takeK (un:Int) (s:KS):KS :=
 if s.pool=0 then ⟨s.pool,s.slots &&& (s.slots - 1),s.held++[(placeK s,un)]⟩ else ⟨s.pool &&& (s.pool - 1),s.slots,s.held++[(placeK s,un)]⟩
def spanAt (sp:List (Int×Int)) (ord:List Int) (k:Nat):Int×Int:=sp.getD (ord.getD k 0).toNat (-1,-1)
def keepS (sp:List (Int×Int)) (ord:List Int) (pool:Nat):Nat→KS
 | 0=>⟨2 ^ pool - 1,18446744073709551615,[]⟩
 | k+1=>takeK (spanAt sp ord k).2 (freeK (spanAt sp ord k).1 (keepS sp ord pool k))
def plK (sp:List (Int×Int)) (ord:List Int) (pool k:Nat):Int:=placeK (freeK (spanAt sp ord k).1 (keepS sp ord pool k))
theorem or_right (a b c:Nat):a ||| b ||| c=a ||| c ||| b:=by rw [Nat.or_assoc,Nat.or_comm b,←Nat.or_assoc]
theorem relP_perm {l l':List (Int×Int)} (h:l.Perm l'):∀ p,relP p l=relP p l':=by
 induction h with
 | nil=>exact fun _=>rfl
 | cons x _ ih=>exact fun p=>ih _
 | swap x y l =>
   intro p
   unfold relP
   simp only [List.foldl_cons]
   congr 1
   by_cases hx:0≤x.1 <;> by_cases hy:0≤y.1 <;> (simp only [hx,hy,if_true,if_false];try exact or_right _ _ _)
 | trans _ _ ih1 ih2=>exact fun p=>(ih1 p).trans (ih2 p)
theorem relS_perm {l l':List (Int×Int)} (h:l.Perm l'):∀ p,relS p l=relS p l':=by
 induction h with
 | nil=>exact fun _=>rfl
 | cons x _ ih=>exact fun p=>ih _
 | swap x y l =>
   intro p
   unfold relS
   simp only [List.foldl_cons]
   congr 1
   by_cases hx:0≤x.1 <;> by_cases hy:0≤y.1 <;> (simp only [hx,hy,if_true,if_false];try exact or_right _ _ _)
 | trans _ _ ih1 ih2=>exact fun p=>(ih1 p).trans (ih2 p)
theorem relP_bit (l:List (Int×Int)):∀ (p i:Nat),(relP p l).testBit i=(p.testBit i || l.any fun x=>decide (x.1=i)):=by
 induction l with
 | nil=>intro p i;simp [relP]
 | cons x l ih =>
   intro p i
   have e:relP p (x :: l)=relP (if 0≤x.1 then p ||| 2 ^ x.1.toNat else p) l:=rfl
   rw [e,ih,List.any_cons]
   by_cases h:0≤x.1
   · rw [if_pos h,Nat.testBit_or,Nat.testBit_two_pow,Bool.or_assoc]
     congr 2
     exact decide_eq_decide.2 ⟨fun h'=>by omega,fun h'=>by omega⟩
   · rw [if_neg h,show decide (x.1=(i:Int))=false from decide_eq_false (by omega),Bool.false_or]
theorem relS_bit (l:List (Int×Int)):∀ (p i:Nat),(relS p l).testBit i=(p.testBit i || l.any fun x=>decide (x.1 = -1 - (i:Int))):=by
 induction l with
 | nil=>intro p i;simp [relS]
 | cons x l ih =>
   intro p i
   have e:relS p (x :: l)=relS (if 0≤x.1 then p else p ||| 2 ^ (-1 - x.1).toNat) l:=rfl
   rw [e,ih,List.any_cons]
   by_cases h:0≤x.1
   · rw [if_pos h,show decide (x.1 = -1 - (i:Int))=false from decide_eq_false (by omega),Bool.false_or]
   · rw [if_neg h,Nat.testBit_or,Nat.testBit_two_pow,Bool.or_assoc]
     congr 2
     exact decide_eq_decide.2 ⟨fun h'=>by omega,fun h'=>by omega⟩
theorem low_bit (x:Nat) (h0:x≠0) (h:x < 18446744073709551616):Lib.ctz 64 x < 64∧x.testBit (Lib.ctz 64 x)=true∧∀ i,(x &&& (x - 1)).testBit i=(x.testBit i && decide (i≠Lib.ctz 64 x)):=by
 obtain ⟨m,hm,hk⟩:=Lib.ctzFrom_spec 64 x (by omega) h
 have e:Lib.ctz 64 x=Lib.ctzFrom 64 x:=by simp [Lib.ctz,h0]
 rw [e]
 generalize Lib.ctzFrom 64 x=p at hm hk
 have hpos:0 < 2 ^ p:=Nat.two_pow_pos p
 have hx1:x - 1=2 ^ p*(2*m)+(2 ^ p - 1):=by
   rw [hm,Nat.mul_add,Nat.mul_one];omega
 have t1:∀ j,x.testBit j=(decide (j ≥ p) && (2*m+1).testBit (j - p)):=fun j=>by rw [hm,Nat.testBit_two_pow_mul]
 have t2:∀ j,(x - 1).testBit j=if j < p then (2 ^ p - 1).testBit j else (2*m).testBit (j - p):=fun j=>by rw [hx1];exact Nat.testBit_two_pow_mul_add _ (by omega) j
 refine ⟨hk,by rw [t1,Nat.sub_self];simp,fun i=>?_⟩
 rw [Nat.testBit_and,t1,t2]
 rcases Nat.lt_trichotomy i p with h1 | rfl | h1
 · simp [show ¬ (i ≥ p) by omega]
 · simp
 · obtain ⟨d,hd⟩:∃ d,i - p=d+1:=⟨i - p - 1,by omega⟩
   rw [hd,Nat.testBit_succ,Nat.testBit_succ,show (2*m+1) / 2=m by omega,show 2*m / 2=m by omega]
   simp [show i ≥ p by omega,show ¬ i < p by omega,show i≠p by omega]
theorem nodup_le {l l':List Int} (h:l.Nodup) (hs:∀ x∈l,x∈l'):l.length≤l'.length:=by
 induction l generalizing l' with
 | nil=>exact Nat.zero_le _
 | cons x l ih =>
   have hx:=hs x (List.mem_cons_self)
   obtain ⟨a,b,rfl⟩:=List.append_of_mem hx
   have h2:=List.nodup_cons.1 h
   have:=ih (l':=a++b) h2.2 (fun y hy=>by
     have h3:=hs y (List.mem_cons_of_mem _ hy)
     have hne:y≠x:=fun e=>h2.1 (e▸hy)
     simp only [List.mem_append,List.mem_cons] at h3 ⊢
     rcases h3 with h3 | h3 | h3
     · exact .inl h3
     · exact absurd h3 hne
     · exact .inr h3)
   simp only [List.length_append,List.length_cons] at this ⊢
   omega
structure KInv (m:Nat) (s:KS):Prop where
 pl:∀ i:Nat,s.pool.testBit i=true→i < m
 sl:s.slots < 18446744073709551616
 all:∀ i:Nat,i < 64→s.slots.testBit i=true∨∃ x∈s.held,x.1 = -1 - (i:Int)
 ok:∀ x∈s.held,(0≤x.1∧x.1 < m∧s.pool.testBit x.1.toNat=false)∨(x.1 < 0∧-64≤x.1∧s.slots.testBit (-1 - x.1).toNat=false)
 nd:(s.held.map (·.1)).Nodup
theorem KInv.places {m:Nat} {s:KS} (h:KInv m s) (hm:m≤16):∀ x∈s.held,PlOk x:=fun x hx=>by
 rcases h.ok x hx with h1 | h1 <;> exact ⟨by omega,by omega⟩
theorem KInv.pool_lt {m:Nat} {s:KS} (h:KInv m s) (hm:m≤16):s.pool < 18446744073709551616:=by
 refine Nat.lt_pow_two_of_testBit (n:=64) _ fun i hi=>?_
 cases hb:s.pool.testBit i with
 | false=>rfl
 | true=>have:=h.pl i hb;omega
theorem KInv.free {m:Nat} {s:KS} (h:KInv m s) (hm:m≤16) (now:Int):KInv m (freeK now s):=by
 have hg:∀ x∈goneK now s.held,x∈s.held∧x.2 < now:=fun x hx=>by
   have:=List.mem_filter.1 hx;exact ⟨this.1,of_decide_eq_true this.2⟩
 have hr:∀ x∈restK now s.held,x∈s.held∧¬ x.2 < now:=fun x hx=>by
   have:=List.mem_filter.1 hx;exact ⟨this.1,by simpa using this.2⟩
 have hdis:∀ x∈goneK now s.held,∀ y∈restK now s.held,x.1≠y.1:=fun x hx y hy e=>by
   have h1:=hg x hx
   have h2:=hr y hy
   obtain ⟨i,hi⟩:=List.getElem?_of_mem h1.1
   obtain ⟨j,hj⟩:=List.getElem?_of_mem h2.1
   have e1:(s.held.map (·.1))[i]? = some x.1:=by rw [List.getElem?_map,hi];rfl
   have e2:(s.held.map (·.1))[j]? = some y.1:=by rw [List.getElem?_map,hj];rfl
   have hij:i=j:=(List.getElem?_inj (List.getElem?_eq_some_iff.1 e1).1 h.nd).1 (by rw [e1,e2,e])
   rw [hij,hj] at hi
   have:=Option.some.inj hi
   exact h2.2 (this▸h1.2)
 refine ⟨fun i hi=>?_,?_,fun i hi=>?_,fun x hx=>?_,(h.nd.sublist (List.Sublist.map _ List.filter_sublist))⟩
 · have hi':(relP s.pool (goneK now s.held)).testBit i=true:=hi
   rw [relP_bit,Bool.or_eq_true,List.any_eq_true] at hi'
   rcases hi' with h1 | ⟨x,h1,h2⟩
   · exact h.pl i h1
   · have h3:=of_decide_eq_true h2
     rcases h.ok x (hg x h1).1 with h4 | h4 <;> omega
 · exact relS_lt h.sl fun x hx=>h.places hm x (hg x hx).1
 · rcases h.all i hi with h1 | ⟨x,h1,h2⟩
   · exact .inl (by show (relS s.slots _).testBit i=true;rw [relS_bit,h1,Bool.true_or])
   · by_cases hlt:x.2 < now
     · refine .inl ?_
       show (relS s.slots _).testBit i=true
       rw [relS_bit,Bool.or_eq_true,List.any_eq_true]
       exact .inr ⟨x,List.mem_filter.2 ⟨h1,decide_eq_true hlt⟩,decide_eq_true h2⟩
     · exact .inr ⟨x,List.mem_filter.2 ⟨h1,by simpa using hlt⟩,h2⟩
 · have hx2:=hr x hx
   rcases h.ok x hx2.1 with h1 | h1
   · refine .inl ⟨h1.1,h1.2.1,?_⟩
     show (relP s.pool _).testBit x.1.toNat=false
     rw [relP_bit,h1.2.2,Bool.false_or,List.any_eq_false]
     intro y hy
     have:=hdis y hy x hx
     simp;omega
   · refine .inr ⟨h1.1,h1.2.1,?_⟩
     show (relS s.slots _).testBit (-1 - x.1).toNat=false
     rw [relS_bit,h1.2.2,Bool.false_or,List.any_eq_false]
     intro y hy
     have:=hdis y hy x hx
     simp;omega
theorem KInv.some_slot {m:Nat} {s:KS} (h:KInv m s) (hl:s.held.length < 64):s.slots≠0:=fun h0=>by
 have hn:((List.range 64).map fun i:Nat=>-1 - (i:Int)).Nodup:=by decide
 have:=nodup_le (l':=s.held.map (·.1)) hn (fun x hx=>by
   obtain ⟨i,hi,rfl⟩:=List.mem_map.1 hx
   rcases h.all i (List.mem_range.1 hi) with h1 | ⟨x,h1,h2⟩
   · rw [h0] at h1;simp at h1
   · exact List.mem_map.2 ⟨x,h1,h2⟩)
 simp at this
 omega
theorem KInv.take {m:Nat} {s:KS} (h:KInv m s) (hm:m≤16) (hl:s.held.length < 64) (un:Int) :
   KInv m (takeK un s)∧(∀ x∈s.held,x.1≠placeK s)∧-64≤placeK s∧placeK s < m:=by
 have hs0:=h.some_slot hl
 by_cases hp:s.pool=0
 · obtain ⟨b1,b2,b3⟩:=low_bit s.slots hs0 h.sl
   have ep:placeK s = -1 - (Lib.ctz 64 s.slots:Nat):=by unfold placeK;rw [if_pos hp]
   have et:takeK un s=⟨s.pool,s.slots &&& (s.slots - 1),s.held++[(placeK s,un)]⟩:=by unfold takeK;rw [if_pos hp]
   generalize Lib.ctz 64 s.slots=q at *
   have hne:∀ x∈s.held,x.1≠placeK s:=fun x hx e=>by
     rw [ep] at e
     rcases h.ok x hx with h1 | h1
     · omega
     · rw [e,show (-1 - (-1 - (q:Int))).toNat=q by omega,b2] at h1
       exact absurd h1.2.2 (by decide)
   refine ⟨?_,hne,by rw [ep];omega,by rw [ep];omega⟩
   rw [et]
   refine ⟨h.pl,Nat.lt_of_le_of_lt Nat.and_le_left h.sl,fun i hi=>?_,fun x hx=>?_,?_⟩
   · by_cases hiq:i=q
     · exact .inr ⟨(placeK s,un),List.mem_append_right _ (List.mem_singleton.2 rfl),by rw [ep,hiq]⟩
     · rcases h.all i hi with h1 | ⟨x,h1,h2⟩
       · exact .inl (by show (s.slots &&& (s.slots - 1)).testBit i=true;rw [b3,h1];simp [hiq])
       · exact .inr ⟨x,List.mem_append_left _ h1,h2⟩
   · rcases List.mem_append.1 hx with h1 | h1
     · rcases h.ok x h1 with h2 | h2
       · exact .inl h2
       · exact .inr ⟨h2.1,h2.2.1,by show (s.slots &&& (s.slots - 1)).testBit _=false;rw [b3,h2.2.2];rfl⟩
     · obtain rfl:=List.mem_singleton.1 h1
       refine .inr ⟨by show placeK s < 0;rw [ep];omega,by show -64≤placeK s;rw [ep];omega,?_⟩
       show (s.slots &&& (s.slots - 1)).testBit (-1 - placeK s).toNat=false
       rw [b3,ep,show (-1 - (-1 - (q:Int))).toNat=q by omega];simp
   · rw [List.map_append,List.nodup_append]
     refine ⟨h.nd,by simp,fun x hx y hy=>?_⟩
     obtain ⟨z,hz,rfl⟩:=List.mem_map.1 hx
     simp at hy
     rw [hy]
     exact hne z hz
 · obtain ⟨b1,b2,b3⟩:=low_bit s.pool hp (h.pool_lt hm)
   have ep:placeK s=(Lib.ctz 64 s.pool:Nat):=by unfold placeK;rw [if_neg hp]
   have et:takeK un s=⟨s.pool &&& (s.pool - 1),s.slots,s.held++[(placeK s,un)]⟩:=by unfold takeK;rw [if_neg hp]
   generalize Lib.ctz 64 s.pool=q at *
   have hqm:=h.pl q b2
   have hne:∀ x∈s.held,x.1≠placeK s:=fun x hx e=>by
     rw [ep] at e
     rcases h.ok x hx with h1 | h1
     · rw [e,Int.toNat_natCast,b2] at h1
       exact absurd h1.2.2 (by decide)
     · omega
   refine ⟨?_,hne,by rw [ep];omega,by rw [ep];omega⟩
   rw [et]
   refine ⟨fun i hi=>?_,h.sl,fun i hi=>?_,fun x hx=>?_,?_⟩
   · have hi':(s.pool &&& (s.pool - 1)).testBit i=true:=hi
     rw [b3,Bool.and_eq_true] at hi'
     exact h.pl i hi'.1
   · rcases h.all i hi with h1 | ⟨x,h1,h2⟩
     · exact .inl h1
     · exact .inr ⟨x,List.mem_append_left _ h1,h2⟩
   · rcases List.mem_append.1 hx with h1 | h1
     · rcases h.ok x h1 with h2 | h2
       · exact .inl ⟨h2.1,h2.2.1,by show (s.pool &&& (s.pool - 1)).testBit _=false;rw [b3,h2.2.2];rfl⟩
       · exact .inr h2
     · obtain rfl:=List.mem_singleton.1 h1
       refine .inl ⟨by show 0≤placeK s;rw [ep];omega,by show placeK s < _;rw [ep];omega,?_⟩
       show (s.pool &&& (s.pool - 1)).testBit (placeK s).toNat=false
       rw [b3,ep,Int.toNat_natCast];simp
   · rw [List.map_append,List.nodup_append]
     refine ⟨h.nd,by simp,fun x hx y hy=>?_⟩
     obtain ⟨z,hz,rfl⟩:=List.mem_map.1 hx
     simp at hy
     rw [hy]
     exact hne z hz
end Go.Proofs.YtppoiahhaclleaaDoor
namespace Go.Proofs.YtppoiahhaclleaaDoor
open Go.RowKit
theorem TzAt.chg {F:Nat→Prop} {w w':World} (h:TzAt w) (hb:Chg F w w') (h0:¬ F 0) (hw:0 < w.heap.size):TzAt w':=fun j hj=>by
 have:=h j hj
 have hbl:=hb.block 0 hw h0
 simp only [World.cell?,hbl] at this ⊢
 exact this
def stepP (P S:Nat→Nat) (pl:Nat→Int) (k:Nat):Prop :=
 (P k≠0∧andV (P k)=(P (k+1):Int)∧S (k+1)=S k∧pl k=(Lib.ctz 64 (P k):Nat))∨(P k=0∧P (k+1)=P k∧andV (S k)=(S (k+1):Int)∧pl k = -1 - (Lib.ctz 64 (S k):Nat))
structure KeptAt (kb go base B:Nat) (P S:Nat→Nat) (H:Nat→List (Int×Int)) (k:Nat) (w:World):Prop where
 is:∃ A c,KeepAt w kb (P k) (S k) (.slice A k c)∧w.ownsRow base 101 2 (.slice A k c) k (spV (H k))
 tz:TzAt w
 size:base≤w.heap.size
theorem KeptAt.below {kb go base B:Nat} {P S:Nat→Nat} {H:Nat→List (Int×Int)} {k:Nat} {w w':World} (h:KeptAt kb go base B P S H k w) (hb:Below w.heap.size w w') (h0:0 < base):KeptAt kb go base B P S H k w':=by
 obtain ⟨A,c,h1,h2⟩:=h.is
 have:=h.size
 exact ⟨⟨A,c,h1.next hb,row_keep (fun q hq=>hb.block q (own_lt h2 q hq).1) h2⟩,h.tz.next hb (by omega),Nat.le_trans h.size hb.size⟩
theorem KeptAt.store {kb go base B:Nat} {P S:Nat→Nat} {H:Nat→List (Int×Int)} {k:Nat} {w:World} (h:KeptAt kb go base B P S H k w) (hk:kb≠go) (hgo:go < base) (h0:0 < go) (x:Nat) (v:Value):KeptAt kb go base B P S H k (w.setCell ⟨go,x,none⟩ v):=by
 obtain ⟨A,c,h1,h2⟩:=h.is
 refine ⟨⟨A,c,(Below.heap_setCell _ _ _ _ (fun e=>hk e)).trans h1,row_keep (fun q hq=>Below.heap_setCell _ _ _ _ (fun e=>by have:=(own_lt h2 q hq).2;simp only [] at e;omega)) h2⟩,?_,?_⟩
 · have hs:=h.size
   refine TzAt.chg h.tz ((Chg.refl (fun j=>j=go) w).setCell (p:=⟨go,x,none⟩) (.inl rfl) v) (fun e=>?_) (by omega)
   omega
 · exact Nat.le_trans h.size ((Chg.refl (fun j=>j=go) w).setCell (p:=⟨go,x,none⟩) (.inl rfl) v).size
theorem own_cell {w:World} {base e g c:Nat} {a b:Int} (h:w.ownsRow base e 2 (.slice (some ⟨g,0,none⟩) 1 c) 1 [.int .i64 a,.int .i64 b]):w.cell? ⟨g,1,none⟩=some (.int .i64 b):=by
 rcases h.2 with ⟨h1,_⟩ | ⟨g',cap,cur,hv,hg,hh,hnc,hcm,hcs,htk⟩
 · cases h1
 · cases hv
   have h1:(cur.toList.take 2)[1]? = some (.int .i64 b):=by rw [show 2=1*2 from rfl,htk];rfl
   rw [List.getElem?_take_of_lt (by omega)] at h1
   simp only [World.cell?,hh]
   simpa using h1
theorem keeps_two {sp:List (Int×Int)} {pool:Nat} {pl:Nat→Int} (P S:Nat→Nat) (s0 s1:Int×Int) (h0:sp[0]? = some s0) (h1:sp[1]? = some s1) (hP:P 0=2 ^ pool - 1) (hS:S 0=18446744073709551615)
   (hPS:∀ k,P k < 18446744073709551616∧S k < 18446744073709551616) (hst:∀ k,k < 2→stepP P S pl k) (hno:¬ s0.2 < s1.1):Keeps sp [0,1] pool pl:=by
 intro w kb gs g gb go B hk hT hB hBw hkB hd hl
 obtain ⟨H,hH0,hH1,hH2⟩:∃ H:Nat→List (Int×Int),H 0=[]∧H 1=[(pl 0,s0.2)]∧H 2=[(pl 0,s0.2),(pl 1,s1.2)]:=⟨fun | 0=>[] | 1=>[(pl 0,s0.2)] | _=>[(pl 0,s0.2),(pl 1,s1.2)],rfl,rfl,rfl⟩
 have hkb:=lt_of_block hk
 refine ⟨KeptAt kb go w.heap.size B P S H,⟨⟨none,0,by rw [hP,hS];exact hk,by rw [hH0];exact World.ownsRow_nil _ _ _ _⟩,hT,Nat.le_refl _⟩,?_,?_,fun k wr x v h=>h.store hd.2.2.2 (by omega) (by omega) x v⟩
 · intro k q s hq hs wr h
   obtain ⟨A,c,hk1,hown⟩:=h.is
   have fin:∀ w',Below wr.heap.size wr w'→KeptAt kb go w.heap.size B P S H k w'∧Chg (fun j=>B≤j∧j≠gs∧j≠g∧j≠gb∧j≠go) wr w':=fun w' hb=>⟨h.below hb (by omega),.of_below hb⟩
   match k,hq with
   | 0,hq =>
     refine (free_zero s.1 wr hk1).mono ?_
     rintro e w' ⟨rfl,hb⟩
     exact ⟨rfl,fin w' hb⟩
   | 1,hq =>
     obtain rfl:q=1:=by simp at hq;omega
     rw [h1] at hs
     cases hs
     rw [hH1] at hown
     obtain ⟨g',c',hv⟩:∃ g' c',Value.slice A 1 c=.slice (some ⟨g',0,none⟩) 1 c':=by
       rcases hown.2 with ⟨_,h2⟩ | ⟨g',cap,cur,hv,_⟩
       · cases h2
       · exact ⟨g',cap,hv⟩
     cases hv
     refine (free_one s1.1 s0.2 wr hk1 (own_cell hown) hno).mono ?_
     rintro e w' ⟨rfl,hb⟩
     exact ⟨rfl,fin w' hb⟩
   | k+2,hq=>simp at hq
 · intro k q s hq hs wr h
   obtain ⟨A,c,hk1,hown⟩:=h.is
   have hsz:=h.size
   have hne:(Value.slice A k c).ownBlock≠some kb:=fun e=>by have:=(own_lt hown kb e).2;omega
   have hk2:k < 2:=by
     rcases Nat.lt_or_ge k 2 with h' | h'
     · exact h'
     · rw [List.getElem?_eq_none (by simpa using h')] at hq;cases hq
   have hHl:(H k).length=k∧H (k+1)=H k++[(pl k,s.2)]:=by
     match k,hk2,hq with
     | 0,_,hq =>
       obtain rfl:q=0:=by simp at hq;omega
       rw [h0] at hs;cases hs
       rw [hH0,hH1];exact ⟨rfl,rfl⟩
     | 1,_,hq =>
       obtain rfl:q=1:=by simp at hq;omega
       rw [h1] at hs;cases hs
       rw [hH1,hH2];exact ⟨rfl,rfl⟩
   have fin:∀ (p' s':Nat) (e:Ending) (w':World),p'=P (k+1)→s'=S (k+1)→Taken w.heap.size kb p' s' k (.slice A k c) (H k) (pl k) s.2 wr e w'→e=.returned (.int .i64 (pl k))∧KeptAt kb go w.heap.size B P S H (k+1) w'∧Chg (fun j=>B≤j∧j≠gs∧j≠g∧j≠gb∧j≠go) wr w':=by
     rintro p' s' e w' rfl rfl t
     obtain ⟨A',c',t1,t2,t3⟩:=t.held
     have hch:Chg (fun j=>B≤j∧j≠gs∧j≠g∧j≠gb∧j≠go) wr w':=t.chg.mono fun j hj hF=>by
       rcases hF with rfl | hF
       · exact ⟨hkB,hd.1,hd.2.1,hd.2.2.1,hd.2.2.2⟩
       · have:=(own_lt hown j hF).2
         exact ⟨by omega,by omega,by omega,by omega,by omega⟩
     refine ⟨t.is,⟨⟨A',c',t1,by rw [hHl.2];exact t2⟩,TzAt.chg h.tz hch (fun e=>by have:=e.1;omega) (by omega),Nat.le_trans hsz hch.size⟩,hch⟩
   rcases hst k hk2 with ⟨a1,a2,a3,a4⟩ | ⟨a1,a2,a3,a4⟩
   · refine (take_reg s.2 wr hk1 hown hne h.tz a1 (hPS k).1 (by omega) hHl.1 hsz a2).mono ?_
     intro e w' t
     rw [←a4] at t
     exact fin _ _ e w' rfl a3.symm t
   · refine (take_slot s.2 wr hk1 hown hne h.tz a1 (hPS k).2 (by omega) hHl.1 hsz a3).mono ?_
     intro e w' t
     rw [←a4] at t
     exact fin _ _ e w' a2.symm rfl t
end Go.Proofs.YtppoiahhaclleaaDoor
