/- Of any kernel, and whatever is handed in: the law DutiesSound tells true, and what was handed in reads as it did. No conditions. -/
import Derived.Test.YtjbabpnepjhllaaGreatSx25
import Derived.Test.YtjbabpnepjhllaaGreatSx1
import Derived.Test.YtjbabpnepjhllaaGreatSx21
import Derived.Test.YtjbabpnepjhllaaGreatSx22
import Derived.Test.YtjbabpnepjhllaaGreatSx24
import Derived.Test.YtjbabpnepjhllaaGreatSx23
import Derived.Test.YtjbabpnepjhllaaGreatSx2
import Derived.Deep.Slices
import Derived.ProofKit
import Derived.Test.YtjbabpnepjhllaaGreatRows
import Derived.OpenShut
namespace Go.Proofs.YtjbabpnepjhllaaGreat
open Go.RowKit
set_option maxRecDepth 100000
def exK2:Krn:={ exK with ops:=[⟨9,2,-1,0,-1,0,0⟩] }
theorem ex_check:checkK exK=true∧checkK exK2=true:=by constructor <;> kernel_rfl
theorem ex_ahead:AheadIs exK [startF exK]:=by
 unfold AheadIs
 rw [if_pos ex_check.1]
 exact ⟨_,.op (show 0 < 1 by decide) rfl (by decide) (.done (Nat.le_refl _))⟩
theorem ex_ahead2:AheadIs exK2 [startF exK2]:=by
 unfold AheadIs
 rw [if_pos ex_check.2]
 exact ⟨_,.op (show 0 < 1 by decide) rfl (by decide) (.done (Nat.le_refl _))⟩
theorem ex_miss:missF exK [startF exK] 0=false∧missF exK2 [startF exK2] 0=true:=by constructor <;> kernel_rfl
theorem ex_is {at_ e:Int} (h:DChk exK [startF exK] at_ e):at_=1∧e=0:=by
 rcases h with h | ⟨_,h | ⟨i,h1,h2,h3,h4,_⟩⟩
 · rw [ex_check.1] at h;exact absurd h.1 (by decide)
 · exact ⟨h.2.1,h.1⟩
 · have:i=0:=by have:exK.ops.length=1:=rfl;omega
   subst this
   rw [ex_miss.1] at h4;exact absurd h4 (by decide)
theorem ex_is2 {at_ e:Int} (h:DChk exK2 [startF exK2] at_ e):at_=0∧e=9:=by
 rcases h with h | ⟨_,h | ⟨i,h1,h2,h3,h4,_⟩⟩
 · rw [ex_check.2] at h;exact absurd h.1 (by decide)
 · have:=h.2.2 0 (by decide)
   rw [ex_miss.2] at this;exact absurd this (by decide)
 · have:i=0:=by have:exK2.ops.length=1:=rfl;omega
   subst this
   exact ⟨h3,h2⟩
theorem small64 {x:Int} (h:-100≤x∧x≤100):In64 x:=by unfold In64;omega
def smallOp (o:KOp):Bool:=[o.kind,o.d,o.e,o.a,o.b,o.c].all (fun x=>decide (-100≤x) && decide (x≤100)) && decide (o.imm≤100)
theorem small_ok {o:KOp} (h:smallOp o=true):KOpOk o:=by
 unfold smallOp at h
 simp only [List.all_cons,List.all_nil,Bool.and_eq_true,decide_eq_true_eq,Bool.and_true] at h
 obtain ⟨⟨h1,h2,h3,h4,h5,h6⟩,h7⟩:=h
 exact ⟨small64 h1,small64 h2,small64 h3,small64 h4,small64 h5,small64 h6,by omega⟩
theorem flat_at {rows:List (List Value)} {sz:Nat} (hs:∀ r∈rows,r.length=sz) {i j:Nat} {r:List Value} {u:Value} (hr:rows[i]? = some r) (hu:r[j]? = some u):rows.flatten.toArray[i*sz+j]? = some u:=by
 rw [List.getElem?_toArray]
 induction rows generalizing i with
 | nil=>cases hr
 | cons a l ih =>
   have ha:=hs a (by simp)
   cases i with
   | zero =>
     simp only [List.getElem?_cons_zero,Option.some.injEq] at hr
     subst hr
     rw [List.flatten_cons,Nat.zero_mul,Nat.zero_add,List.getElem?_append_left (List.getElem?_eq_some_iff.1 hu).1]
     exact hu
   | succ i =>
     rw [List.getElem?_cons_succ] at hr
     have h:=ih (fun r h=>hs r (by simp [h])) hr
     rw [List.flatten_cons,List.getElem?_append_right (by rw [ha,Nat.succ_mul];omega),ha,show (i+1)*sz+j - sz=i*sz+j by rw [Nat.succ_mul];omega]
     exact h
theorem rows_block {w:World} {g sz t n cap:Nat} {fr:Nat×Nat} {rows:List (List Value)} (h:w.heap[g]? = some (.cells rows.flatten.toArray t fr)) (hs:∀ r∈rows,r.length=sz) (hn:rows.length=n) (hcap:n≤cap):Rows w (fun k=>k=g) sz (.slice (some ⟨g,0,none⟩) n cap) rows :=
 row_block h (fun _ _ _ _ hr hu=>flat_at hs hr hu) hs hn hcap
theorem ex_kern {w:World} {b1 b2 b3:Nat} {oc:Array Value} (k:Krn) (hv:k.vars=exK.vars) (hq:k.reqs=exK.reqs) (hl:k.ops.length=1) (ho:∀ o∈k.ops,smallOp o=true) (hoc:oc=(k.ops.map kopRow).flatten.toArray)
   (h1:w.heap[b1]? = some (.cells vCells 60 (0,0))) (h2:w.heap[b2]? = some (.cells oc 43 (0,0))) (h3:w.heap[b3]? = some (.cells rCells 43 (0,0))) :
   KernAt w (fun q=>q < w.heap.size) [.slice (some ⟨b1,0,none⟩) 3 3,.slice (some ⟨b2,0,none⟩) 1 1,.slice (some ⟨b3,0,none⟩) 2 2] k:=by
 have g1:=lt_of_block h1
 have g2:=lt_of_block h2
 have g3:=lt_of_block h3
 have r1:KVarsAt w (fun q=>q < w.heap.size) (.slice (some ⟨b1,0,none⟩) 3 3) k.vars:=by
   rw [hv]
   exact Rows.mono (rows_block (rows:=exK.vars.map kvarRow) h1 (fun r hr=>by obtain ⟨x,_,rfl⟩:=List.mem_map.1 hr;rfl) rfl (by decide)) fun q hq=>by subst hq;exact g1
 have r2:KOpsAt w (fun q=>q < w.heap.size) (.slice (some ⟨b2,0,none⟩) 1 1) k.ops :=
   Rows.mono (rows_block (rows:=k.ops.map kopRow) (hoc▸h2) (fun r hr=>by obtain ⟨x,_,rfl⟩:=List.mem_map.1 hr;rfl) (by rw [List.length_map];exact hl) (by decide)) fun q hq=>by subst hq;exact g2
 have r3:KOpsAt w (fun q=>q < w.heap.size) (.slice (some ⟨b3,0,none⟩) 2 2) k.reqs:=by
   rw [hq]
   exact Rows.mono (rows_block (rows:=exK.reqs.map kopRow) h3 (fun r hr=>by obtain ⟨x,_,rfl⟩:=List.mem_map.1 hr;rfl) rfl (by decide)) fun q hq=>by subst hq;exact g3
 refine ⟨⟨_,_,_,rfl,r1,r2,r3⟩,by rw [hv];decide,by rw [hl];decide,by rw [hq];decide,?_,fun o h=>small_ok (ho o h),?_⟩
 · rw [hv]
   intro v h
   have:v.limbs=1∧(v.mode=2∨v.mode=3):=by
     simp only [exK,List.mem_cons,List.not_mem_nil,or_false] at h
     rcases h with rfl | rfl | rfl <;> simp
   unfold In64;omega
 · rw [hq]
   intro o h
   exact small_ok (by
     simp only [exK,List.mem_cons,List.not_mem_nil,or_false] at h
     rcases h with rfl | rfl <;> rfl)
set_option maxHeartbeats 8000000 in
theorem lives_any (w:World):Calls Tryz.prog 8 #[] w fun e w'=>e=.returned (.bool true)∧Below w.heap.size w w':=by
 have HEX:=Lh (example_any w)
 go_enter Tryz.func8,Tryz.ntmps8
 go_upto_region 2 with (first | ((with_reducible refine HEX.out.mono ?_);rintro e w1 ⟨b1,b2,b3,rfl,g1,g2,g3,h1,h2,h3,hb1⟩) | go_in)
 obtain ⟨W,hW⟩:∃ W,W=w1.alloc (.cells #[.slice (some ⟨b1,0,none⟩) 3 3,.slice (some ⟨b2,0,none⟩) 1 1,.slice (some ⟨b3,0,none⟩) 2 2] 25):=⟨_,rfl⟩
 rw [←hW]
 have hbW:Below w1.heap.size w1 W:=by rw [hW];exact (Below.refl _ _).alloc (Nat.le_refl _) _
 have hbox:W.heap[w1.heap.size]? = some (.cells #[.slice (some ⟨b1,0,none⟩) 3 3,.slice (some ⟨b2,0,none⟩) 1 1,.slice (some ⟨b3,0,none⟩) 2 2] 25 (0,0)):=by rw [hW];exact heap_alloc_new w1 _
 have h1':=keep_blk h1 hbW
 have h2':=keep_blk h2 hbW
 have h3':=keep_blk h3 hbW
 have hk:=ex_kern exK rfl rfl rfl (by intro o h;simp only [exK,List.mem_cons,List.not_mem_nil,or_false] at h;subst h;rfl) rfl h1' h2' h3'
 have HC1:=Lh (DCheck_any (some ⟨b1,0,none⟩) (some ⟨b2,0,none⟩) (some ⟨b3,0,none⟩) 3 3 1 1 2 2 exK [startF exK] W _ hk (fun k hk=>hk) (by decide) ex_ahead)
 have c0:W.cell? ⟨w1.heap.size,0,none⟩=some (.slice (some ⟨b1,0,none⟩) 3 3):=by simp [World.cell?,hbox]
 have c1:W.cell? ⟨w1.heap.size,1,none⟩=some (.slice (some ⟨b2,0,none⟩) 1 1):=by simp [World.cell?,hbox]
 have c2:W.cell? ⟨w1.heap.size,2,none⟩=some (.slice (some ⟨b3,0,none⟩) 2 2):=by simp [World.cell?,hbox]
 have HBX:=Lh hbox
 have HK1:=Lh h1'
 have HK2:=Lh h2'
 have HK3:=Lh h3'
 have hsz:w1.heap.size < W.heap.size:=lt_of_block hbox
 have HL:=Lh (And.intro (lt_of_block h1) (And.intro (lt_of_block h2) (lt_of_block h3)))
 have HBW:=Lh (hb1.trans (hbW.mono hb1.size))
 have HGE:=Lh g2
 obtain ⟨B,hB⟩:∃ b,b=w1.heap.size:=⟨_,rfl⟩
 rw [←hB] at c0 c1 c2 HBX HL hsz ⊢
 have HSZ:=Lh hsz
 clear hW hbW hbox h1' h2' h3' hk h1 h2 h3 g1 g2 g3 hb1 hB hsz
 go_upto_region 3 with (first | ((with_reducible refine HC1.out.mono ?_);rintro e w2 ⟨a1,e1,rfl,hd,hb⟩;obtain ⟨rfl,rfl⟩:=ex_is hd;have HB2:=Lh hb;clear hd hb) | go_in)
 clear c0 c1 c2
 have HCB:=Lh (show ∀ w_,Below w2.heap.size w2 w_→w_.cell? ⟨B,0,none⟩=some (.slice (some ⟨b1,0,none⟩) 3 3)∧w_.cell? ⟨B,1,none⟩=some (.slice (some ⟨b2,0,none⟩) 1 1)∧w_.cell? ⟨B,2,none⟩=some (.slice (some ⟨b3,0,none⟩) 2 2) from fun w_ h_=>by
   have h:=keep_blk (keep_blk HBX.out HB2.out) h_
   refine ⟨?_,?_,?_⟩ <;> simp [World.cell?,h])
 have HM:=Lh (show ∀ w_,Below w2.heap.size w2 w_→w_.heap[b2]? = some (.cells oCells 43 (0,0)) from fun w_ h_=>keep_blk (keep_blk HK2.out HB2.out) h_)
 have hS:=(Below.refl w2.heap.size w2).drew
 (refine wp_region_lines (Below w2.heap.size w2) (by kernel_rfl) (by kernel_rfl) ((Below.refl w2.heap.size w2).drew) ?_)
 (try simp only [])
 repeat (first | (refine runL_no (by rfl) ?_;(try simp only [Act.put,List.setIfInBounds_toArray,List.set_cons_zero,List.set_cons_succ])) | (refine runL_val (v:=?_) (by rfl) ?_ ?_;rotate_left;(focus (intro w_ hw_;have f0_:=(HCB.out w_ hw_).1;have f1_:=(HCB.out w_ hw_).2.1;have f2_:=(HCB.out w_ hw_).2.2;go_simp;(try with_reducible rfl);done));(try simp only [Act.put,List.setIfInBounds_toArray,List.set_cons_zero,List.set_cons_succ])) | (refine runL_call (f:=?_) (args:=?_) (w1:=?_) (by rfl) (by rfl) ?_ ?_;rotate_left 3;(focus (go_simp;refine ⟨⟨?_,?_⟩,?_⟩ <;> with_reducible rfl));(with_reducible refine (op_any _ _ _ _ _ _ _).mono ?_);rintro e_ w3 ⟨rfl,hb3⟩;replace hS:=hS.trans (hb3.mono hS.size);clear hb3;refine ⟨_,rfl,.inr hS,?_⟩;(try simp only [Act.put,List.setIfInBounds_toArray,List.set_cons_zero,List.set_cons_succ])) | (refine runL_skip (w1:=w3.setRow b2 #[.int .i64 9,.int .i64 2,.int .i64 (-1),.int .i64 0,.int .i64 (-1),.int .i64 0,.int .u64 0]) (by rfl) (by rfl) (sep_store 43 _ _ rfl b2 #[.int .i64 9,.int .i64 2,.int .i64 (-1),.int .i64 0,.int .i64 (-1),.int .i64 0,.int .u64 0] rfl rfl 43 oCells (HM.out w3 hS) (by kernel_rfl) (by rfl) (by kernel_rfl)) (.inl ⟨rfl,by kernel_rfl⟩) ?_;(try simp only [Act.put])))
 (refine runL_nil ?_)
 obtain ⟨w4,hw4⟩:∃ q,q=w3.setRow b2 #[.int .i64 9,.int .i64 2,.int .i64 (-1),.int .i64 0,.int .i64 (-1),.int .i64 0,.int .u64 0]:=⟨_,rfl⟩
 have h24:w4.heap[b2]? = some (.cells #[.int .i64 9,.int .i64 2,.int .i64 (-1),.int .i64 0,.int .i64 (-1),.int .i64 0,.int .u64 0] 43 (0,0)):=by rw [hw4];exact setRow_heap _ _ _ _ _ _ (HM.out w3 hS)
 have hoth:∀ g,g≠b2→w4.heap[g]? = w3.heap[g]?:=fun g hg=>by rw [hw4];exact setRow_other _ _ _ _ hg
 have hne1:b1≠b2:=fun e=>by
   have h1:=HK1.out
   rw [e,HK2.out] at h1
   simp [oCells,vCells] at h1
 have hne3:b3≠b2:=fun e=>by
   have h1:=HK3.out
   rw [e,HK2.out] at h1
   simp [oCells,rCells] at h1
 have h14:=(hoth b1 hne1).trans (keep_blk (keep_blk HK1.out HB2.out) hS)
 have h34:=(hoth b3 hne3).trans (keep_blk (keep_blk HK3.out HB2.out) hS)
 have hbx4:=(hoth B (by have:=HL.out.2.1;omega)).trans (keep_blk (keep_blk HBX.out HB2.out) hS)
 have HB4:=Lh (show Below w.heap.size w w4 by
   have h:=(HBW.out.trans ((HB2.out.trans (hS.mono HB2.out.size)).mono HBW.out.size))
   rw [hw4]
   exact below_setRow h HGE.out _)
 have c0:w4.cell? ⟨B,0,none⟩=some (.slice (some ⟨b1,0,none⟩) 3 3):=by simp [World.cell?,hbx4]
 have c1:w4.cell? ⟨B,1,none⟩=some (.slice (some ⟨b2,0,none⟩) 1 1):=by simp [World.cell?,hbx4]
 have c2:w4.cell? ⟨B,2,none⟩=some (.slice (some ⟨b3,0,none⟩) 2 2):=by simp [World.cell?,hbx4]
 have hk:=ex_kern exK2 rfl rfl rfl (by intro o h;simp only [exK2,List.mem_cons,List.not_mem_nil,or_false] at h;subst h;rfl) rfl h14 h24 h34
 have HC2:=Lh (DCheck_any (some ⟨b1,0,none⟩) (some ⟨b2,0,none⟩) (some ⟨b3,0,none⟩) 3 3 1 1 2 2 exK2 [startF exK2] w4 _ hk (fun k hk=>hk) (by decide) ex_ahead2)
 rw [←hw4]
 clear hw4 h24 hoth hne1 hne3 h14 h34 hbx4 hk hS
 go_wp2_with (first | ((with_reducible refine HC2.out.mono ?_);rintro e w5 ⟨a2,e2,rfl,hd,hb⟩;obtain ⟨rfl,rfl⟩:=ex_is2 hd;have HB5:=Lh hb;clear hd hb) | go_in)
 go_ret
 exact ⟨rfl,HB4.out.trans (HB5.out.mono HB4.out.size)⟩
end Go.Proofs.YtjbabpnepjhllaaGreat
namespace Go.Proofs.YtjbabpnepjhllaaGreat
open Go.RowKit
end Go.Proofs.YtjbabpnepjhllaaGreat
namespace Go.Proofs.YtjbabpnepjhllaaGreat
open Go.RowKit
end Go.Proofs.YtjbabpnepjhllaaGreat
namespace Go.Proofs.YtjbabpnepjhllaaGreat
open Go.RowKit
end Go.Proofs.YtjbabpnepjhllaaGreat
namespace Go.Proofs.YtjbabpnepjhllaaGreat
open Go.RowKit
end Go.Proofs.YtjbabpnepjhllaaGreat
namespace Go.Proofs.YtjbabpnepjhllaaGreat
open Go.RowKit
theorem ask_sound {k:Krn} {A:List (List Fct)} {rows:List (List Nat)} {r:Option (List Nat)} (hc:checkK k=true) (hA:AheadIs k A) (hok:∀ o∈k.ops,KOpOk o) (hm:∀ i,i < k.ops.length→missF k A i=false) (hmet:metK k rows=true) (hD:DoV k.vars k.ops false 0 k.ops.length 0 (startV k rows) r):∃ v',r=some v'∧ValOk k.vars v':=by
 have hwell:=ahead_well hc hA
 have hfit:fitsK k.vars rows=0:=by
   unfold metK at hmet
   rw [Bool.and_eq_true,decide_eq_true_eq] at hmet
   exact hmet.1
 unfold AheadIs at hA
 rw [if_pos hc] at hA
 obtain ⟨l',h⟩:=hA
 obtain ⟨g1,_,g3,g4⟩:=runD_good (check_bal hc) h (by simp) (start_well hc).fine (live_all k)
 have hone:∀ (i:Nat) (o:KOp),k.ops[i]? = some o→oneK k.vars o=true:=fun _ _ ho=>opsK_one (checkK_parts hc).2.2.2.2 ho
 have hw':=runD_well (fun _ _ ho _=>hone _ _ ho) h (start_well hc)
 have H:SndK k.vars k.ops l' A:=by
   refine ⟨check_bal hc,(checkK_parts hc).1,hone,hok,g3,fun j hj f hf=>?_,fun i o ho f hf=>?_⟩
   · unfold gvD at hf
     split at hf
     · exact hw'.2 f hf
     · rename_i hne
       have hmem:A.getD j []∈A:=by
         rw [List.getD_eq_getElem?_getD,List.getElem?_eq_getElem (by have:=hwell.2;omega)]
         exact List.getElem_mem _
       exact (hwell.1 _ hmem).2 f hf
   · have hi:=(List.getElem?_eq_some_iff.1 ho).1
     have h1:=hm i hi
     unfold missF at h1
     rw [List.getD_eq_getElem?_getD,ho,List.any_eq_false] at h1
     have h2:=h1 f hf
     unfold gvD
     rw [if_neg (by omega)]
     simpa using h2
 obtain ⟨v',h1,h2,_⟩:=doV_sound H hD (startV_ok hfit) (live_all k) (by rw [g4];exact met_sat hc hmet)
 exact ⟨v',h1,h2⟩
end Go.Proofs.YtjbabpnepjhllaaGreat
namespace Go.Proofs.YtjbabpnepjhllaaGreat
open Go.RowKit
set_option maxRecDepth 100000
theorem light_split {k:Krn} (h:lightK k=true):k.vars.length≤16∧k.ops.length≤40∧k.reqs.length≤40:=by
 unfold lightK at h
 simp only [Bool.and_eq_true,decide_eq_true_eq] at h
 exact h.2
theorem light_nats {rows:List (List Nat)} {a b:Nat} (h:lightN rows a b=true):rows.length≤a∧∀ r∈rows,r.length≤b:=by
 unfold lightN at h
 rw [Bool.and_eq_true,decide_eq_true_eq,List.all_eq_true] at h
 exact ⟨h.2,fun r hr=>by simpa using h.1 r hr⟩
theorem run_snd {k:Krn} {A:List (List Fct)} {rows:List (List Nat)} {r:Option (List Nat)} (hc:checkK k=true) (hA:AheadIs k A) (hok:∀ o∈k.ops,KOpOk o) (hm:∀ i,i < k.ops.length→missF k A i=false) (hD:DoV k.vars k.ops false 0 k.ops.length 0 (startV k rows) r) (he:runE k rows r=9):metK k rows=false:=by
 cases hmet:metK k rows
 · rfl
 · exfalso
   obtain ⟨v',rfl,_⟩:=ask_sound hc hA hok hm hmet hD
   unfold runE at he
   have hf:fitsK k.vars rows=0:=by
     unfold metK at hmet
     rw [Bool.and_eq_true,decide_eq_true_eq] at hmet
     exact hmet.1
   rw [if_neg (by rw [hf];decide),if_neg (by rw [hmet];decide)] at he
   split at he <;> cases he
set_option maxHeartbeats 20000000 in
theorem sound_any (Av Ao Ar Ai:Option Addr) (nv cv no co nr cr ni ci:Nat) (k:Krn) (rows:List (List Nat)) (w:World) (hk:KernAt w (fun q=>q < w.heap.size) [.slice Av nv cv,.slice Ao no co,.slice Ar nr cr] k) (hr:RowsU w (fun q=>q < w.heap.size) (.slice Ai ni ci) rows) (hro:∀ r∈rows,(∀ x∈r,x < 18446744073709551616)∧r.length≤9223372036854775807) (hrl:rows.length≤9223372036854775807) :
   Calls Tryz.prog 3 #[.agg #[.slice Av nv cv,.slice Ao no co,.slice Ar nr cr],.slice Ai ni ci] w fun e w'=>e=.returned (.bool true)∧Below w.heap.size w w':=by
 obtain ⟨W,hW⟩:∃ W,W=w.alloc (.cells #[.slice Av nv cv,.slice Ao no co,.slice Ar nr cr] 25):=⟨_,rfl⟩
 have hb:Below w.heap.size w W:=by rw [hW];exact (Below.refl _ _).alloc (Nat.le_refl _) _
 have hbox:W.heap[w.heap.size]? = some (.cells #[.slice Av nv cv,.slice Ao no co,.slice Ar nr cr] 25 (0,0)):=by rw [hW];exact heap_alloc_new w _
 have hk2:KernAt W (fun k=>k < W.heap.size) [.slice Av nv cv,.slice Ao no co,.slice Ar nr cr] k:=kern_next hk hb
 have hkb:=kbox_of hbox hk2
 have HW:=Lh hW
 have HB:=Lh hb
 have HK:=Lh hkb
 have HLV:=Lh (lives_any W)
 have HLK:=Lh (fun (w1:World) (h1:Below W.heap.size W w1)=>light_any Av Ao Ar nv cv no co nr cr k w1 _ (kern_next hk2 h1) (fun k hk=>hk))
 have hlen:=hr.len
 have c0:=hkb.c0
 have c1:=hkb.c1
 have c2:=hkb.c2
 have hno:=hkb.nv.2.1
 cases hL:lightK k
 · rw [hL] at HLK
   clear hW hb hbox hk2 hkb hk hL c0 c1 c2 hno hr hro hlen hrl
   go_enter Tryz.func3,Tryz.ntmps3
   go_upto_region 1 with (first | go_in)
   rw [←HW.out]
   clear HW
   go_upto_region 3 with (first | ((with_reducible refine HLV.out.mono ?_);rintro e w1 ⟨rfl,hb1⟩;have HB1:=Lh hb1;clear hb1) | go_in)
   have c0:=(HK.out.next HB1.out).c0
   have c1:=(HK.out.next HB1.out).c1
   have c2:=(HK.out.next HB1.out).c2
   go_wp2_with (first | ((with_reducible refine (HLK.out _ HB1.out).mono ?_);rintro e w2 ⟨rfl,hb2⟩;have HB2:=Lh (HB1.out.trans (hb2.mono HB1.out.size));clear c0 c1 c2;have c0:=(HK.out.next HB2.out).c0;have c1:=(HK.out.next HB2.out).c1;have c2:=(HK.out.next HB2.out).c2;clear hb2) | go_in)
   go_ret
   exact ⟨rfl,HB.out.trans (HB2.out.mono HB.out.size)⟩
 rw [hL] at HLK
 obtain ⟨hv16,ho40,_⟩:=light_split hL
 have HLN:=Lh (fun (w1:World) (h1:Below W.heap.size W w1)=>show Calls Tryz.prog 10 #[.slice Ai ni ci,.int .i64 14,.int .i64 14] w1 fun e w'=>e=.returned (.bool (lightN rows 14 14))∧w1=w' from by
   exact LightNats_any Ai ni ci rows 14 14 w1 ((hr.next hb).next h1) (by omega))
 cases hN:lightN rows 14 14
 · rw [hN] at HLN
   clear hW hb hbox hk2 hkb hk hL c0 c1 c2 hno hr hro hlen hrl hv16 ho40 hN
   go_enter Tryz.func3,Tryz.ntmps3
   go_upto_region 1 with (first | go_in)
   rw [←HW.out]
   clear HW
   go_upto_region 3 with (first | ((with_reducible refine HLV.out.mono ?_);rintro e w1 ⟨rfl,hb1⟩;have HB1:=Lh hb1;clear hb1) | go_in)
   have c0:=(HK.out.next HB1.out).c0
   have c1:=(HK.out.next HB1.out).c1
   have c2:=(HK.out.next HB1.out).c2
   go_wp2_with (first | ((with_reducible refine (HLK.out _ HB1.out).mono ?_);rintro e w2 ⟨rfl,hb2⟩;have HB2:=Lh (HB1.out.trans (hb2.mono HB1.out.size));clear c0 c1 c2;have c0:=(HK.out.next HB2.out).c0;have c1:=(HK.out.next HB2.out).c1;have c2:=(HK.out.next HB2.out).c2;clear hb2) | ((with_reducible refine (HLN.out _ HB2.out).mono ?_);rintro e wz ⟨rfl,hwz⟩;subst hwz) | go_in)
   go_ret
   exact ⟨rfl,HB.out.trans (HB2.out.mono HB.out.size)⟩
 rw [hN] at HLN
 obtain ⟨hn14,hr14⟩:=light_nats hN
 have HCK:=Lh (fun (w1:World) (h1:Below W.heap.size W w1)=>rcheck_any Av Ao Ar nv cv no co nr cr k w1 _ (kern_next hk2 h1) (fun k hk=>hk) (by omega))
 cases hc:checkK k
 · rw [show errK k=2 by unfold errK;rw [hc];rfl] at HCK
   clear hW hb hbox hk2 hkb hk hL c0 c1 c2 hno hr hro hlen hrl hv16 ho40 hN hn14 hr14 hc
   go_enter Tryz.func3,Tryz.ntmps3
   go_upto_region 1 with (first | go_in)
   rw [←HW.out]
   clear HW
   go_upto_region 3 with (first | ((with_reducible refine HLV.out.mono ?_);rintro e w1 ⟨rfl,hb1⟩;have HB1:=Lh hb1;clear hb1) | go_in)
   have c0:=(HK.out.next HB1.out).c0
   have c1:=(HK.out.next HB1.out).c1
   have c2:=(HK.out.next HB1.out).c2
   go_wp2_with (first | ((with_reducible refine (HLK.out _ HB1.out).mono ?_);rintro e w2 ⟨rfl,hb2⟩;have HB2:=Lh (HB1.out.trans (hb2.mono HB1.out.size));clear c0 c1 c2;have c0:=(HK.out.next HB2.out).c0;have c1:=(HK.out.next HB2.out).c1;have c2:=(HK.out.next HB2.out).c2;clear hb2) | ((with_reducible refine (HLN.out _ HB2.out).mono ?_);rintro e wz ⟨rfl,hwz⟩;subst hwz) | ((with_reducible refine (HCK.out _ HB2.out).mono ?_);rintro e w3 ⟨rfl,hb3⟩;have HB3:=Lh (HB2.out.trans (hb3.mono HB2.out.size));clear c0 c1 c2;have c0:=(HK.out.next HB3.out).c0;have c1:=(HK.out.next HB3.out).c1;have c2:=(HK.out.next HB3.out).c2;clear hb3) | go_in)
   go_ret
   exact ⟨rfl,HB.out.trans (HB3.out.mono HB.out.size)⟩
 rw [show errK k=0 by unfold errK;rw [hc];rfl] at HCK
 have hok:=hk.ops
 have hin:InsAt W Ai ni ci rows:=⟨hr.next hb,fun r h=>⟨(hro r h).1,Nat.le_trans (hr14 r h) (by decide)⟩⟩
 have HSP:=Lh (fun (w1:World) (h1:Below W.heap.size W w1)=>Steps_any Av Ao Ar nv cv no co nr cr k w1 (kern_next hk2 h1) hc hok)
 obtain ⟨A,hA⟩:=ahead_ex k
 obtain ⟨r,hD⟩:=doV_ends (vs:=k.vars) (check_bal hc) k.ops.length 0 k.ops.length 0 (live_all k) (by omega) (startV k rows)
 have HDC:=Lh (fun (w1:World) (h1:Below W.heap.size W w1)=>DCheck_any Av Ao Ar nv cv no co nr cr k A w1 _ (kern_next hk2 h1) (fun k hk=>hk) (by omega) hA)
 have HRU:=Lh (fun (w1:World) (h1:Below W.heap.size W w1)=>Run_any Av Ao Ar Ai nv cv no co nr cr ni ci k rows r w1 (kern_next hk2 h1) hc hok (hin.next h1) (by omega) hD)
 have HMT:=Lh (fun (w1:World) (h1:Below W.heap.size W w1)=>Met_any Av Ao Ar Ai nv cv no co nr cr ni ci k rows w1 (kern_next hk2 h1) hc (hin.next h1) (by omega))
 have HSND:=Lh (fun hm he=>run_snd hc hA hok hm hD he)
 have HCT:=Lh hc
 have HNO:=Lh hno
 obtain ⟨sp,hsp⟩:∃ sp,sp=stepsK k:=⟨_,rfl⟩
 obtain ⟨re,hre⟩:∃ re,re=runE k rows r:=⟨_,rfl⟩
 obtain ⟨mt,hmt⟩:∃ mt,mt=metK k rows:=⟨_,rfl⟩
 rw [←hsp] at HSP
 rw [←hre] at HRU HSND
 rw [←hmt] at HMT HSND
 clear hW hb hbox hk2 hkb hk hL c0 c1 c2 hno hr hro hlen hrl hv16 hN hn14 hr14 hc hok hin hA hD hsp hre hmt ho40
 go_enter Tryz.func3,Tryz.ntmps3
 go_upto_region 1 with (first | go_in)
 rw [←HW.out]
 clear HW
 go_upto_region 3 with (first | ((with_reducible refine HLV.out.mono ?_);rintro e w1 ⟨rfl,hb1⟩;have HB1:=Lh hb1;clear hb1) | go_in)
 have c0:=(HK.out.next HB1.out).c0
 have c1:=(HK.out.next HB1.out).c1
 have c2:=(HK.out.next HB1.out).c2
 by_cases hs:300 < sp
 · have d1:decide ((sp:Int) > 300)=true:=decide_eq_true (by omega)
   have d2:decide ((300:Int) < (sp:Int))=true:=decide_eq_true (by omega)
   have d3:decide (300 < sp)=true:=decide_eq_true hs
   clear hs
   go_wp2_with (first | ((with_reducible refine (HLK.out _ HB1.out).mono ?_);rintro e w2 ⟨rfl,hb2⟩;have HB2:=Lh (HB1.out.trans (hb2.mono HB1.out.size));clear c0 c1 c2;have c0:=(HK.out.next HB2.out).c0;have c1:=(HK.out.next HB2.out).c1;have c2:=(HK.out.next HB2.out).c2;clear hb2) | ((with_reducible refine (HLN.out _ HB2.out).mono ?_);rintro e wz ⟨rfl,hwz⟩;subst hwz) | ((with_reducible refine (HCK.out _ HB2.out).mono ?_);rintro e w3 ⟨rfl,hb3⟩;have HB3:=Lh (HB2.out.trans (hb3.mono HB2.out.size));clear c0 c1 c2;have c0:=(HK.out.next HB3.out).c0;have c1:=(HK.out.next HB3.out).c1;have c2:=(HK.out.next HB3.out).c2;clear hb3) | ((with_reducible refine (HSP.out _ HB3.out).mono ?_);rintro e w4 ⟨rfl,hb4⟩;have HB4:=Lh (HB3.out.trans (hb4.mono HB3.out.size));clear c0 c1 c2;have c0:=(HK.out.next HB4.out).c0;have c1:=(HK.out.next HB4.out).c1;have c2:=(HK.out.next HB4.out).c2;clear hb4) | go_in)
   go_ret
   exact ⟨rfl,HB.out.trans (HB4.out.mono HB.out.size)⟩
 have d1:decide ((sp:Int) > 300)=false:=decide_eq_false (by omega)
 have d2:decide ((300:Int) < (sp:Int))=false:=decide_eq_false (by omega)
 have d3:decide (300 < sp)=false:=decide_eq_false hs
 clear hs
 go_upto_region 5 with (first | ((with_reducible refine (HLK.out _ HB1.out).mono ?_);rintro e w2 ⟨rfl,hb2⟩;have HB2:=Lh (HB1.out.trans (hb2.mono HB1.out.size));clear c0 c1 c2;have c0:=(HK.out.next HB2.out).c0;have c1:=(HK.out.next HB2.out).c1;have c2:=(HK.out.next HB2.out).c2;clear hb2) | ((with_reducible refine (HLN.out _ HB2.out).mono ?_);rintro e wz ⟨rfl,hwz⟩;subst hwz) | ((with_reducible refine (HCK.out _ HB2.out).mono ?_);rintro e w3 ⟨rfl,hb3⟩;have HB3:=Lh (HB2.out.trans (hb3.mono HB2.out.size));clear c0 c1 c2;have c0:=(HK.out.next HB3.out).c0;have c1:=(HK.out.next HB3.out).c1;have c2:=(HK.out.next HB3.out).c2;clear hb3) | ((with_reducible refine (HSP.out _ HB3.out).mono ?_);rintro e w4 ⟨rfl,hb4⟩;have HB4:=Lh (HB3.out.trans (hb4.mono HB3.out.size));clear c0 c1 c2;have c0:=(HK.out.next HB4.out).c0;have c1:=(HK.out.next HB4.out).c1;have c2:=(HK.out.next HB4.out).c2;clear hb4) | go_in)
 clear d1 d2 d3 HLV HLK HLN HCK HSP
 go_upto_region 6 with (first | ((with_reducible refine (HDC.out _ HB4.out).mono ?_);rintro e w5 ⟨at5,er5,rfl,hd5,hb5⟩;have HB5:=Lh (HB4.out.trans (hb5.mono HB4.out.size));have HD5:=Lh hd5;clear hd5 hb5 c0 c1 c2) | go_in)
 clear HDC
 have c0:=(HK.out.next HB5.out).c0
 have c1:=(HK.out.next HB5.out).c1
 have c2:=(HK.out.next HB5.out).c2
 have hd:=HD5.out
 unfold DChk at hd
 rcases hd with ⟨hx,_⟩ | ⟨_,⟨rfl,rfl,hmiss⟩ | ⟨i,hi,rfl,rfl,_⟩⟩
 · rw [HCT.out] at hx;cases hx
 · have HSN:=Lh (HSND.out hmiss)
   clear hmiss HD5 HSND
   by_cases h9:re=9
   · have HM0:=Lh (HSN.out h9)
     have hmf:=HM0.out
     subst hmf
     have d4:(re != 9)=false:=by rw [h9];rfl
     clear h9
     go_wp2_with (first | ((with_reducible refine (HRU.out _ HB5.out).mono ?_);rintro e w6 ⟨oR,rfl,hb6⟩;have HB6:=Lh (HB5.out.trans (hb6.mono HB5.out.size));clear c0 c1 c2;have c0:=(HK.out.next HB6.out).c0;have c1:=(HK.out.next HB6.out).c1;have c2:=(HK.out.next HB6.out).c2;clear hb6) | ((with_reducible refine (HMT.out _ HB6.out).mono ?_);rintro e w7 ⟨rfl,hb7⟩;have HB7:=Lh (HB6.out.trans (hb7.mono HB6.out.size));clear c0 c1 c2;have c0:=(HK.out.next HB7.out).c0;have c1:=(HK.out.next HB7.out).c1;have c2:=(HK.out.next HB7.out).c2;clear hb7) | go_in)
     go_ret
     exact ⟨rfl,HB.out.trans (HB7.out.mono HB.out.size)⟩
   · have d4:(re != 9)=true:=by rw [bne_iff_ne];exact h9
     clear h9
     go_wp2_with (first | ((with_reducible refine (HRU.out _ HB5.out).mono ?_);rintro e w6 ⟨oR,rfl,hb6⟩;have HB6:=Lh (HB5.out.trans (hb6.mono HB5.out.size));clear c0 c1 c2;have c0:=(HK.out.next HB6.out).c0;have c1:=(HK.out.next HB6.out).c1;have c2:=(HK.out.next HB6.out).c2;clear hb6) | go_in)
     go_ret
     exact ⟨rfl,HB.out.trans (HB6.out.mono HB.out.size)⟩
 · have hi2:i < no:=by have:=HNO.out;omega
   have d4:decide ((i:Int) ≥ 0)=true:=decide_eq_true (by omega)
   have d5:decide ((0:Int)≤(i:Int))=true:=decide_eq_true (by omega)
   have d6:decide (i < no)=true:=decide_eq_true hi2
   have d7:decide ((i:Int) < (no:Int))=true:=decide_eq_true (by omega)
   clear hi hi2 HD5
   go_wp2
   go_ret
   exact ⟨rfl,HB.out.trans (HB5.out.mono HB.out.size)⟩
end Go.Proofs.YtjbabpnepjhllaaGreat
namespace Go.Proofs.YtjbabpnepjhllaaGreat
open Go.ChangeShapes Go.WideShapes Go.Deep Go.RowKit
set_option maxRecDepth 100000
theorem list_of_all {α:Type} (Q:Nat→α→Prop):∀ n,(∀ i,i < n→∃ x,Q i x)→∃ L:List α,L.length=n∧∀ (i:Nat) (x:α),L[i]? = some x→Q i x
 | 0,_=>⟨[],rfl,fun i x h=>by simp at h⟩
 | n+1,h=>by
   obtain ⟨L,hl,hq⟩:=list_of_all Q n (fun i hi=>h i (by omega))
   obtain ⟨x,hx⟩:=h n (by omega)
   refine ⟨L++[x],by simp [hl],fun i y hy=>?_⟩
   rcases Nat.lt_or_ge i n with hi | hi
   · rw [List.getElem?_append_left (by omega)] at hy;exact hq i y hy
   · rw [List.getElem?_append_right (by omega)] at hy
     have:i - L.length=0:=by
       rcases Nat.eq_zero_or_pos (i - L.length) with h | h
       · exact h
       · rw [List.getElem?_eq_none (by simp;omega)] at hy;cases hy
     rw [this] at hy
     simp at hy
     subst hy
     rw [show i=n from by omega];exact hx
theorem plain_addr {w:World} {a:Addr} {k:Nat} {v:Value} (h:w.cell? (a.add k)=some v) (h0:∃ u,w.cell? a=some u):a=⟨a.block,a.off,none⟩∧a.block < w.heap.size∧a.add k=⟨a.block,a.off+k,none⟩:=by
 obtain ⟨u,hu⟩:=h0
 have hb:=World.block_lt_of_cell? w a hu
 have hs:a.spot=none:=by
   cases hsp:a.spot with
   | none=>rfl
   | some s =>
     unfold World.cell? at hu
     split at hu
     · simp [hsp] at hu
     · cases hu
 have ha:a=⟨a.block,a.off,none⟩:=by cases a;simp_all
 refine ⟨ha,hb,?_⟩
 unfold Addr.add
 split
 · rename_i hk;subst hk;simpa using ha
 · rfl
section
variable {H:Type} {enc:TypeId×Value→H} {w:World}
theorem open_rows {α:Type} {T St sz:Nat} (row:α→List Value) (Q:α→Prop) (hT:Tryz.prog.underlying T=some (.slice St)) (hC:Tryz.prog.cellsOf St=sz) (h0:0 < sz) (hrow:∀ x,(row x).length=sz)
   (each:∀ fuel cs y,DataW.trod enc Tryz.prog w 0 (fun _=>true) true fuel St cs=some y→cs.length=sz→∃ x,cs=row x∧Q x)
   {A:Option Addr} {n c:Nat} {d:DataW H} {ps:List MemPlace} (h:DataW.Trod enc Tryz.prog w 0 (fun _=>true) true T (.slice A n c) d ps) :
   ∃ l:List α,Rows w (fun k=>k < w.heap.size) sz (.slice A n c) (l.map row)∧(∀ x∈l,Q x)∧l.length≤9223372036854775807:=by
 obtain ⟨fuel,hf⟩:=h
 rcases open_slice hT hf with ⟨hcs,_⟩ | ⟨a,len,cap,m,q,D,Pl,hcs,_,hl,hm,hmm,_,hi⟩
 · simp [Value.cells] at hcs
   obtain ⟨rfl,rfl,rfl⟩:=hcs
   exact ⟨[],⟨none,0,rfl,by simp,by simp,fun h=>absurd rfl h⟩,by simp,by simp⟩
 · simp [Value.cells] at hcs
   obtain ⟨rfl,rfl,rfl⟩:=hcs
   simp only [if_true] at hmm
   have ech:∀ i,i < n→∃ x:α,Q x∧∀ (j:Nat) (u:Value),(row x)[j]? = some u→w.cell? (a.add (i*sz+j))=some u:=fun i hin=>by
     obtain ⟨cs',hc,ht⟩:=hi i (by omega)
     rw [hC] at hc
     obtain ⟨_,hlen,hat⟩:=World.cells?_some hc
     obtain ⟨x,rfl,hq⟩:=each _ _ _ ht hlen
     refine ⟨x,hq,fun j u hu=>?_⟩
     have:=hat j (by rw [←hlen];exact (List.getElem?_eq_some_iff.1 hu).1)
     rw [←add_add,this,hu]
   obtain ⟨L,hL,hq⟩:=list_of_all _ n ech
   refine ⟨L,⟨some a,c,by simp [hL],by simp [hL];omega,fun r hr=>by obtain ⟨x,_,rfl⟩:=List.mem_map.1 hr;exact hrow x,fun hne=>?_⟩,fun x hx=>?_,by rw [hL];unfold maxLen at hm;omega⟩
   · have hpos:0 < L.length:=by
       cases L with
       | nil=>simp at hne
       | cons=>simp
     have hl0:=hrow L[0]
     obtain ⟨aD,hu0⟩:∃ u,(row L[0])[0]? = some u:=by
       cases hx:row L[0] with
       | nil=>rw [hx] at hl0;simp at hl0;omega
       | cons u us=>exact ⟨u,rfl⟩
     have hp0:=(hq 0 L[0] (List.getElem?_eq_getElem hpos)).2 0 aD hu0
     have h00:∃ u,w.cell? a=some u:=⟨_,by simpa [Addr.add] using hp0⟩
     obtain ⟨ha,hb,_⟩:=plain_addr hp0 h00
     refine ⟨a.block,a.off,by rw [←ha],hb,fun i j r u hr hu=>?_⟩
     rw [List.getElem?_map] at hr
     cases hpi:L[i]? with
     | none=>rw [hpi] at hr;cases hr
     | some x =>
       rw [hpi] at hr
       cases hr
       have hc:=(hq i x hpi).2 j u hu
       obtain ⟨_,_,hadd⟩:=plain_addr hc h00
       rw [hadd] at hc
       rw [show a.off+i*sz+j=a.off+(i*sz+j) from by omega]
       exact hc
   · obtain ⟨i,hi⟩:=List.mem_iff_getElem?.1 hx
     exact (hq i x hi).1
theorem trod_u64 {fuel:Nat} {cs:List Value} {y:DataW H×List MemPlace} (h:DataW.trod enc Tryz.prog w 0 (fun _=>true) true fuel 41 cs=some y):∃ n:Nat,cs=[.int .u64 n]∧n < 18446744073709551616:=by
 obtain ⟨z,hz,_,hwf⟩:=DataW.trod_int Tryz.underlying41 h
 have hzb:0≤z∧z≤18446744073709551615:=by simpa [Lit.wf,IntKind.min,IntKind.max,IntKind.bits,IntKind.signed] using hwf
 exact ⟨z.toNat,by rw [hz];congr 2;omega,by omega⟩
theorem trod_i64 {fuel:Nat} {cs:List Value} {y:DataW H×List MemPlace} (h:DataW.trod enc Tryz.prog w 0 (fun _=>true) true fuel 3 cs=some y):∃ z:Int,cs=[.int .i64 z]∧-9223372036854775808≤z∧z≤9223372036854775807:=by
 obtain ⟨z,hz,_,hwf⟩:=DataW.trod_int Tryz.underlying3 h
 have hzb:-9223372036854775808≤z∧z≤9223372036854775807:=by simpa [Lit.wf,IntKind.min,IntKind.max,IntKind.bits,IntKind.signed] using hwf
 exact ⟨z,hz,hzb⟩
end
section
variable {H:Type} {enc:TypeId×Value→H} {w:World}
theorem trod_bool1 {fuel:Nat} {cs:List Value} {y:DataW H×List MemPlace} (h:DataW.trod enc Tryz.prog w 0 (fun _=>true) true fuel 4 cs=some y):∃ b,cs=[.bool b]:=by
 obtain ⟨b,hb,_⟩:=DataW.trod_bool Tryz.underlying4 h
 exact ⟨b,hb⟩
theorem trod_form {T St fuel:Nat} {c:Value} {y:DataW H×List MemPlace} (hT:Tryz.prog.underlying T=some (.slice St)) (h:DataW.trod enc Tryz.prog w 0 (fun _=>true) true fuel T [c]=some y):∃ A n k,c=.slice A n k:=by
 rcases open_slice hT h with ⟨hcs,_⟩ | ⟨a,len,cap,m,q,D,Pl,hcs,_⟩
 · cases hcs;exact ⟨_,_,_,rfl⟩
 · cases hcs;exact ⟨_,_,_,rfl⟩
theorem open_kvar (fuel:Nat) (cs:List Value) (y:DataW H×List MemPlace) (h:DataW.trod enc Tryz.prog w 0 (fun _=>true) true fuel 60 cs=some y) (hl:cs.length=3):∃ x:KVar,cs=kvarRow x∧(In64 x.limbs∧In64 x.mode):=by
 obtain ⟨xs,f,_,_,hlen,hxl,hfs⟩:=DataW.trod_struct Tryz.underlying60 h
 match cs,hl with
 | [c0,c1,c2],_ =>
   match xs,hxl with
   | [y0,y1,y2],_ =>
     have k_bool:Tryz.prog.cellsOf 4=1:=by kernel_rfl
     have k_int:Tryz.prog.cellsOf 3=1:=by kernel_rfl
     have t0:DataW.trod enc Tryz.prog w 0 (fun _=>true) true f 3 (([c0,c1,c2].drop 0).take (Tryz.prog.cellsOf 3))=some y0:=hfs 0 _ rfl
     have t1:DataW.trod enc Tryz.prog w 0 (fun _=>true) true f 4 (([c0,c1,c2].drop 1).take (Tryz.prog.cellsOf 4))=some y1:=hfs 1 _ rfl
     have t2:DataW.trod enc Tryz.prog w 0 (fun _=>true) true f 3 (([c0,c1,c2].drop 2).take (Tryz.prog.cellsOf 3))=some y2:=hfs 2 _ rfl
     rw [k_bool] at t1
     rw [k_int] at t0 t2
     simp only [List.drop_zero,List.drop_succ_cons,List.take_succ_cons,List.take_zero] at t0 t1 t2
     obtain ⟨a0,h0,b0⟩:=trod_i64 t0
     obtain ⟨a1,h1⟩:=trod_bool1 t1
     obtain ⟨a2,h2,b2⟩:=trod_i64 t2
     cases h0;cases h1;cases h2
     exact ⟨⟨a0,a1,a2⟩,rfl,⟨b0,b2⟩⟩
theorem open_kop (fuel:Nat) (cs:List Value) (y:DataW H×List MemPlace) (h:DataW.trod enc Tryz.prog w 0 (fun _=>true) true fuel 43 cs=some y) (hl:cs.length=7):∃ x:KOp,cs=kopRow x∧KOpOk x:=by
 obtain ⟨xs,f,_,_,hlen,hxl,hfs⟩:=DataW.trod_struct Tryz.underlying43 h
 match cs,hl with
 | [c0,c1,c2,c3,c4,c5,c6],_ =>
   match xs,hxl with
   | [y0,y1,y2,y3,y4,y5,y6],_ =>
     have k_int:Tryz.prog.cellsOf 3=1:=by kernel_rfl
     have k_uint64:Tryz.prog.cellsOf 41=1:=by kernel_rfl
     have t0:DataW.trod enc Tryz.prog w 0 (fun _=>true) true f 3 (([c0,c1,c2,c3,c4,c5,c6].drop 0).take (Tryz.prog.cellsOf 3))=some y0:=hfs 0 _ rfl
     have t1:DataW.trod enc Tryz.prog w 0 (fun _=>true) true f 3 (([c0,c1,c2,c3,c4,c5,c6].drop 1).take (Tryz.prog.cellsOf 3))=some y1:=hfs 1 _ rfl
     have t2:DataW.trod enc Tryz.prog w 0 (fun _=>true) true f 3 (([c0,c1,c2,c3,c4,c5,c6].drop 2).take (Tryz.prog.cellsOf 3))=some y2:=hfs 2 _ rfl
     have t3:DataW.trod enc Tryz.prog w 0 (fun _=>true) true f 3 (([c0,c1,c2,c3,c4,c5,c6].drop 3).take (Tryz.prog.cellsOf 3))=some y3:=hfs 3 _ rfl
     have t4:DataW.trod enc Tryz.prog w 0 (fun _=>true) true f 3 (([c0,c1,c2,c3,c4,c5,c6].drop 4).take (Tryz.prog.cellsOf 3))=some y4:=hfs 4 _ rfl
     have t5:DataW.trod enc Tryz.prog w 0 (fun _=>true) true f 3 (([c0,c1,c2,c3,c4,c5,c6].drop 5).take (Tryz.prog.cellsOf 3))=some y5:=hfs 5 _ rfl
     have t6:DataW.trod enc Tryz.prog w 0 (fun _=>true) true f 41 (([c0,c1,c2,c3,c4,c5,c6].drop 6).take (Tryz.prog.cellsOf 41))=some y6:=hfs 6 _ rfl
     rw [k_int] at t0 t1 t2 t3 t4 t5
     rw [k_uint64] at t6
     simp only [List.drop_zero,List.drop_succ_cons,List.take_succ_cons,List.take_zero] at t0 t1 t2 t3 t4 t5 t6
     obtain ⟨a0,h0,b0⟩:=trod_i64 t0
     obtain ⟨a1,h1,b1⟩:=trod_i64 t1
     obtain ⟨a2,h2,b2⟩:=trod_i64 t2
     obtain ⟨a3,h3,b3⟩:=trod_i64 t3
     obtain ⟨a4,h4,b4⟩:=trod_i64 t4
     obtain ⟨a5,h5,b5⟩:=trod_i64 t5
     obtain ⟨a6,h6,b6⟩:=trod_u64 t6
     cases h0;cases h1;cases h2;cases h3;cases h4;cases h5;cases h6
     exact ⟨⟨a0,a1,a2,a3,a4,a5,a6⟩,rfl,⟨b0,b1,b2,b3,b4,b5,b6⟩⟩
theorem open_kern {cs:Array Value} {d:DataW H} {ps:List MemPlace} (h:DataW.Trod enc Tryz.prog w 0 (fun _=>true) true 25 (.agg cs) d ps) :
   ∃ (k:Krn) (Av Ao Ar:Option Addr) (nv cv no co nr cr:Nat),cs=#[.slice Av nv cv,.slice Ao no co,.slice Ar nr cr]∧KernAt w (fun k=>k < w.heap.size) [.slice Av nv cv,.slice Ao no co,.slice Ar nr cr] k:=by
 obtain ⟨fuel,hf⟩:=h
 obtain ⟨xs,f,_,_,hlen,hxl,hfs⟩:=DataW.trod_struct Tryz.underlying25 hf
 have hC:Tryz.prog.cellsOf 25=3:=by kernel_rfl
 rw [hC] at hlen
 have hcs:(Value.agg cs).cells.toList=cs.toList:=rfl
 rw [hcs] at hlen hfs
 obtain ⟨l⟩:=cs
 simp only [] at hlen hfs
 match l,hlen with
 | [c0,c1,c2],_ =>
   match xs,hxl with
   | [y0,y1,y2],_ =>
     have t0:DataW.trod enc Tryz.prog w 0 (fun _=>true) true f 22 (([c0,c1,c2].drop 0).take (Tryz.prog.cellsOf 22))=some y0:=hfs 0 _ rfl
     have t1:DataW.trod enc Tryz.prog w 0 (fun _=>true) true f 23 (([c0,c1,c2].drop 1).take (Tryz.prog.cellsOf 23))=some y1:=hfs 1 _ rfl
     have t2:DataW.trod enc Tryz.prog w 0 (fun _=>true) true f 23 (([c0,c1,c2].drop 2).take (Tryz.prog.cellsOf 23))=some y2:=hfs 2 _ rfl
     have k0:Tryz.prog.cellsOf 22=1:=by kernel_rfl
     have k1:Tryz.prog.cellsOf 23=1:=by kernel_rfl
     rw [k0] at t0
     rw [k1] at t1 t2
     simp only [List.drop_zero,List.drop_succ_cons,List.take_succ_cons,List.take_zero] at t0 t1 t2
     obtain ⟨Av,nv,cv,rfl⟩:=trod_form Tryz.underlying22 t0
     obtain ⟨Ao,no,co,rfl⟩:=trod_form Tryz.underlying23 t1
     obtain ⟨Ar,nr,cr,rfl⟩:=trod_form Tryz.underlying23 t2
     obtain ⟨lv,hv,hvq,hvl⟩:=open_rows kvarRow (fun x:KVar=>In64 x.limbs∧In64 x.mode) Tryz.underlying22 (by kernel_rfl) (by decide) (fun _=>rfl) open_kvar (d:=y0.1) (ps:=y0.2) ⟨f,t0⟩
     obtain ⟨lo,ho,hoq,hol⟩:=open_rows kopRow KOpOk Tryz.underlying23 (by kernel_rfl) (by decide) (fun _=>rfl) open_kop (d:=y1.1) (ps:=y1.2) ⟨f,t1⟩
     obtain ⟨lr,hr,hrq,hrl⟩:=open_rows kopRow KOpOk Tryz.underlying23 (by kernel_rfl) (by decide) (fun _=>rfl) open_kop (d:=y2.1) (ps:=y2.2) ⟨f,t2⟩
     exact ⟨⟨lv,lo,lr⟩,Av,Ao,Ar,nv,cv,no,co,nr,cr,rfl,⟨⟨_,_,_,rfl,hv,ho,hr⟩,hvl,hol,hrl,hvq,hoq,hrq⟩⟩
end
end Go.Proofs.YtjbabpnepjhllaaGreat
namespace Go.Proofs.YtjbabpnepjhllaaGreat
open Go.ChangeShapes Go.WideShapes Go.Deep Go.RowKit
set_option maxRecDepth 100000
theorem open_nat {H:Type} {enc:TypeId×Value→H} {w:World} {A:Option Addr} {n c:Nat} {d:DataW H} {ps:List MemPlace} (h:DataW.Trod enc Tryz.prog w 0 (fun _=>true) true 68 (.slice A n c) d ps) :
   ∃ l:List Nat,UsAt w (fun k=>k < w.heap.size) (.slice A n c) l∧(∀ x∈l,x < 18446744073709551616)∧l.length≤9223372036854775807 :=
 open_rows (fun x:Nat=>[Value.int .u64 x]) (fun x:Nat=>x < 18446744073709551616) Tryz.underlying68 (by kernel_rfl) (by decide) (fun _=>rfl) (fun fuel cs y ht _=>by
   obtain ⟨z,hz,h2⟩:=trod_u64 ht
   exact ⟨z,hz,h2⟩) h
theorem open_nats {H:Type} {enc:TypeId×Value→H} {w:World} {A:Option Addr} {n c:Nat} {d:DataW H} {ps:List MemPlace} (h:DataW.Trod enc Tryz.prog w 0 (fun _=>true) true 26 (.slice A n c) d ps) :
   ∃ l:List (List Nat),RowsU w (fun k=>k < w.heap.size) (.slice A n c) l∧(∀ r∈l,(∀ x∈r,x < 18446744073709551616)∧r.length≤9223372036854775807)∧l.length≤9223372036854775807:=by
 obtain ⟨P,h1,h2,h3⟩:=open_rows (fun x:Value×List Nat=>[x.1]) (fun x:Value×List Nat=>UsAt w (fun k=>k < w.heap.size) x.1 x.2∧(∀ y∈x.2,y < 18446744073709551616)∧x.2.length≤9223372036854775807) Tryz.underlying26 (by kernel_rfl) (by decide) (fun _=>rfl) (fun fuel cs y ht hl=>by
   match cs,hl with
   | [c0],_ =>
     obtain ⟨A',n',c',rfl⟩:=trod_form Tryz.underlying68 ht
     obtain ⟨l,g1,g2,g3⟩:=open_nat (d:=y.1) (ps:=y.2) ⟨fuel,ht⟩
     exact ⟨(_,l),rfl,g1,g2,g3⟩) h
 refine ⟨P.map (·.2),⟨P.map (·.1),by simp,by rw [List.map_map];exact h1,fun i r u hr hu=>?_⟩,fun r hr=>?_,by simpa using h3⟩
 · rw [List.getElem?_map] at hr hu
   cases hp:P[i]? with
   | none=>rw [hp] at hr;cases hr
   | some x =>
     rw [hp] at hr hu
     cases hr;cases hu
     exact (h2 x (List.mem_of_getElem? hp)).1
 · obtain ⟨x,hx,rfl⟩:=List.mem_map.1 hr
   exact (h2 x hx).2
end Go.Proofs.YtjbabpnepjhllaaGreat
namespace Go.Proofs.YtjbabpnepjhllaaGreat.dutiesSound
open Go.ChangeShapes Go.WideShapes Go.ChangeAt Go.RowKit
set_option maxRecDepth 100000
theorem own:ownKnob Tryz.prog.godebug=none:=by kernel_rfl
theorem laidOut:laidOutB Tryz.prog=true:=by kernel_rfl
theorem lifted (os:Os) (started:os.Started) (H:Type) (enc:TypeId×Value→H) :
   ReturnsInHanded {} Tryz.checked os 3 .any (Rows.dutiesSoundSpec.pre6 enc Tryz.prog Tryz.f3 Rows.dutiesSoundRow.domain false) (Rows.dutiesSoundSpec.post enc Tryz.prog Tryz.f3 false true false false):=by
 refine returnsInHanded_of_change (C:=Tryz.checked) own started (by kernel_rfl) Tryz.func3
   (ChangeSpec.witness6 (enc:=enc) (C:=Tryz.checked) false ⟨#[],#[.agg #[.slice none 0 0,.slice none 0 0,.slice none 0 0],.slice none 0 0],[]⟩ 8 (by kernel_rfl) (by kernel_rfl) (by kernel_rfl) (by kernel_rfl)) ?_
 intro W base args ds gs before hval0 hW hcnd _
 have hval:∀ (j:Nat) t v,Tryz.f3.params[j]? = some t→args[j]? = some v→Value.okWide Tryz.prog W .any base t v:=hval0
 have hW':=hW
 obtain ⟨p,q,hA0,hV,rfl,hfz,hnd⟩:=hW
 have hA:DataW.TrodAll enc Tryz.prog W 0 (fun _=>true) true Tryz.f3.params.toList args.toList ds p:=hA0
 rw [Tryz.params3] at hA hval
 obtain ⟨v0,vs0,d0,ds0,p0,q0,hargs,rfl,rfl,h0,r0⟩:=trodAll_cons hA
 obtain ⟨v1,vs1,d1,ds1,p1,q1,rfl,rfl,rfl,h1,r1⟩:=trodAll_cons r0
 obtain ⟨rfl,rfl,rfl⟩:=trodAll_nil r1
 obtain rfl:args=#[v0,v1]:=by cases args;simp_all
 obtain ⟨rfl,rfl⟩:=trodVars_none hV
 have k0:=h0
 have lt0:∀ x∈p0,x.block < W.heap.size:=by obtain ⟨m,hm⟩:=k0;exact DataW.trod_lt m _ _ _ hm
 obtain ⟨cs0,rfl,hcs0⟩:=okWide_struct Tryz.underlying25 (hval 0 25 v0 rfl rfl)
 obtain ⟨K0,Av0,Ao0,Ar0,nv0,cv0,no0,co0,nr0,cr0,rfl,hk0⟩:=open_kern h0
 obtain ⟨A1,len1,cap1,rfl⟩:=okWide_slice Tryz.underlying26 (hval 1 26 v1 rfl rfl)
 have k1:=h1
 have lt1:∀ x∈p1,x.block < W.heap.size:=by obtain ⟨m,hm⟩:=k1;exact DataW.trod_lt m _ _ _ hm
 obtain ⟨l1,hl1,hn1⟩:=open_nats h1
 clear hA0 hval0
 refine (sound_any Av0 Ao0 Ar0 A1 nv0 cv0 no0 co0 nr0 cr0 len1 cap1 K0 l1 W hk0 hl1 hn1.1 hn1.2).mono fun e W' ⟨he,bel⟩=>?_
 subst he
 exact ⟨_,rfl,_,_,_,[],_,[],hW',trodAll_mk1 (shut_bool Tryz.underlying4 _),(trodAll_cons_mk (Below.trod laidOut (by kernel_rfl) (of_decide_eq_true (by kernel_rfl)) k0 bel lt0) (trodAll_cons_mk (Below.trod laidOut (by kernel_rfl) (of_decide_eq_true (by kernel_rfl)) k1 bel lt1) trodAll_mk0)),rfl,bel.frame _,fun h=>by cases h⟩
theorem over:Rows.dutiesSoundRow.holds Tryz.pinned (OpenSpec.ofChange Rows.dutiesSoundSpec) :=
 OpenClaim.holds_of_wide 3 Tryz.f3 rfl rfl rfl rfl rfl rfl rfl ⟨rfl,rfl,rfl,rfl,rfl⟩ rfl rfl rfl rfl rfl (by kernel_rfl) Tryz.func3 (by kernel_rfl)
   (of_decide_eq_true (by kernel_rfl)) (by unfold Func.isWrapper;first | (rw [if_pos (by decide +kernel)];kernel_rfl) | (rw [if_neg (by decide +kernel)];exact ⟨rfl,rfl⟩))
   (fun os started H enc _=>lifted os started H enc)
theorem proved:Rows.DutiesSoundSaid:=over
#print axioms proved
end Go.Proofs.YtjbabpnepjhllaaGreat.dutiesSound
