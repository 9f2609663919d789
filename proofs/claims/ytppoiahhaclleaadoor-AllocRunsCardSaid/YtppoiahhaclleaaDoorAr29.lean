/- AllocRuns: With registers that share places a program does the same: its registers by their places' names. -/
import Derived.Test.YtppoiahhaclleaaDoorAr28
import Derived.Test.YtppoiahhaclleaaDoorAr20
import Derived.Test.YtppoiahhaclleaaDoorAr21
import Derived.Test.YtppoiahhaclleaaDoorCards
import Derived.Test.YtppoiahhaclleaaDoorTie
import Derived.ProofKit
import Derived.LaidMore
import Derived.Lib.LaidTab
import Derived.OpenShut
namespace Go.Proofs.YtppoiahhaclleaaDoor.allocRuns
open Go.ChangeShapes Go.WideShapes Go.ChangeAt Go.RowKit
set_option maxRecDepth 100000
theorem own:ownKnob Tryd.prog.godebug=none:=by kernel_rfl
theorem laidOut:laidOutB Tryd.prog=true:=by kernel_rfl
theorem door_met (os:Os) (args:Array Value):laidMetH Tryd.prog Rows.allocRunsRow.laid ((World.doorLaid Tryd.prog 14 os).forCall (fun _ _=>0) ⟨#[],args,[]⟩).memory :=
 laidMetH_of_parts3 (fuel:=8) (laidMet_of_run' 8 (by kernel_rfl) (by kernel_rfl)) (by kernel_rfl) (by kernel_rfl)
theorem tz_of {W:World} (h:laidMetH Tryd.prog Rows.allocRunsRow.laid W):TzAt W:=by
 rw [MakeChecks.laidMetH_plain _ _ _ (by kernel_rfl)] at h
 have hT : Lib.TabIs Tryd.prog W "math/bits.deBruijn64tab" .u8 (Lib.deBruijn64tab.map fun k => ((k : Nat) : Int)) :=
   Lib.tabIs_of_head (rest:=[]) (g:=0) (t:=121) (e:=5) (n:=64) (by kernel_rfl) (by kernel_rfl) Tryd.underlying121 Tryd.underlying5 (by kernel_rfl) (by kernel_rfl) h
 intro j hj
 have h1:=hT.cell (g:=0) (by kernel_rfl) j (by rw [List.length_map];exact hj)
 rw [List.getD_eq_getElem?_getD,List.getElem?_map] at h1
 rw [List.getD_eq_getElem?_getD]
 obtain ⟨x,hx⟩:∃ x,Lib.deBruijn64tab[j]? = some x:=⟨_,List.getElem?_eq_getElem hj⟩
 rw [hx] at h1 ⊢
 exact h1
theorem lifted (os:Os) (started:os.Started) (H:Type) (enc:TypeId×Value→H) :
   ReturnsInHanded {} Tryd.checked os 3 .any (fun w args=>(Rows.allocRunsSpec.pre enc Tryd.prog Tryd.f3 [] false w args∧laidMetH Tryd.prog Rows.allocRunsRow.laid w)∧sizedMet enc Tryd.prog Tryd.f3 (OpenSpec.ofChange Rows.allocRunsSpec) false w args)
     (Rows.allocRunsSpec.post enc Tryd.prog Tryd.f3 false true false false):=by
 refine returnsInHanded_of_change_and (C:=Tryd.checked) (X:=fun w _=>laidMetH Tryd.prog Rows.allocRunsRow.laid w) (fun _ _ _ hh h=>h.of_heap hh) own started (by kernel_rfl) Tryd.func3
   (ChangeSpec.witness_shaped (enc:=enc) (C:=Tryd.checked) (os:=os) (X:=fun w _=>laidMetH Tryd.prog Rows.allocRunsRow.laid w) false (World.doorLaid Tryd.prog 14 os) #[.agg #[.int .i64 0,.slice none 0 0,.slice none 0 0],.int .i64 0,.slice none 0 0] 8 rfl (World.shaped_of_RefB (by kernel_rfl) (by kernel_rfl)) (by kernel_rfl) (by kernel_rfl) (by kernel_rfl) (door_met os _)) ?_
 intro W base args ds gs before hval0 hW hcnd hreach hL _
 have hval:∀ (j:Nat) t v,Tryd.f3.params[j]? = some t→args[j]? = some v→Value.okWide Tryd.prog W .any base t v:=hval0
 have HT:TzAt W:=tz_of hL
 have hW':=hW
 obtain ⟨p,q,hA0,hV,rfl,hfz,hnd⟩:=hW
 have hA:DataW.TrodAll enc Tryd.prog W 0 (fun _=>true) true Tryd.f3.params.toList args.toList ds p:=hA0
 rw [Tryd.params3] at hA hval
 obtain ⟨qY,vs0,d0,ds0,p0,q0,hargs,rfl,rfl,h0,r0⟩:=trodAll_cons hA
 obtain ⟨p4,vs1,d1,ds1,p1,q1,rfl,rfl,rfl,h1,r1⟩:=trodAll_cons r0
 obtain ⟨mZ,vs2,d2,ds2,p2,q2,rfl,rfl,rfl,h2,r2⟩:=trodAll_cons r1
 obtain ⟨rfl,rfl,rfl⟩:=trodAll_nil r2
 obtain rfl:args=#[qY,p4,mZ]:=by cases args;simp_all
 obtain ⟨rfl,rfl⟩:=trodVars_none hV
 have k0:=h0
 have lt0:∀ x∈p0,x.block < W.heap.size:=by obtain ⟨m,hm⟩:=k0;exact DataW.trod_lt m _ _ _ hm
 obtain ⟨cs0,rfl,hcs0⟩:=okWide_struct Tryd.underlying25 (hval 0 25 qY rfl rfl)
 obtain ⟨x0,Ab0,Ao0,nb0,cb0,no0,co0,rfl,hp0,hr0⟩:=open_prog h0
 obtain ⟨a1,rfl,rfl,rfl,w1⟩:=open_int Tryd.underlying3 (hval 1 3 p4 rfl rfl) h1
 have k2:=h2
 have lt2:∀ x∈p2,x.block < W.heap.size:=by obtain ⟨m,hm⟩:=k2;exact DataW.trod_lt m _ _ _ hm
 obtain ⟨A2,len2,cap2,rfl⟩:=okWide_slice Tryd.underlying26 (hval 2 26 mZ rfl rfl)
 obtain ⟨l2,hl2,hn2⟩:=open_rowsA h2
 clear hA0 hval0 hcnd hreach
 refine (AllocRuns_walk _ _ _ _ _ _ _ _ _ _ _ _ W hp0 hl2 (fun r hr=>(hn2.1 r hr).1) HT).mono fun e W' ⟨he,bel⟩=>?_
 subst he
 exact ⟨_,rfl,_,_,_,[],_,[],hW',trodAll_mk1 (shut_bool Tryd.underlying4 _),(trodAll_cons_mk (Below.trod laidOut (by kernel_rfl) (of_decide_eq_true (by kernel_rfl)) k0 bel lt0) (trodAll_cons_mk (shut_int Tryd.underlying3 w1) (trodAll_cons_mk (Below.trod laidOut (by kernel_rfl) (of_decide_eq_true (by kernel_rfl)) k2 bel lt2) trodAll_mk0))),rfl,bel.frame _,fun h=>by cases h⟩
theorem over:Rows.AllocRunsSaid :=
 OpenClaim.holds_of_wide 3 Tryd.f3 rfl rfl rfl rfl rfl rfl rfl ⟨rfl,rfl,rfl,rfl,rfl⟩ rfl rfl rfl rfl rfl (by kernel_rfl) Tryd.func3 (by kernel_rfl)
   (of_decide_eq_true (by kernel_rfl)) (by unfold Func.isWrapper;first | (rw [if_pos (by decide +kernel)];kernel_rfl) | (rw [if_neg (by decide +kernel)];exact ⟨rfl,rfl⟩))
   (fun os started H enc _=>lifted os started H enc)
theorem proved:Rows.AllocRunsCardSaid :=
 Claim7.holds_tied_plain_at .later [] [.data] true (true, "d51b28ec476ad5e110a5fa4d00725c99c0202bcd09048f8c0e32b6214a67fac0") false
   over (fun _ h=>by cases h) (by kernel_rfl) (fun _ h=>by cases h) allocRuns_row_tie rfl ⟨rfl,rfl⟩ (by kernel_rfl) rfl
   (fun f fn hf hfn=>by
     obtain rfl : f = 3 := Option.some.inj ((show Tryd.prog.funcNamed "keysmith/keysmithlaw14.AllocRuns" = some 3 by kernel_rfl).symm.trans hf) |>.symm
     obtain rfl:fn=Tryd.f3:=(Option.some.inj (Tryd.func3.symm.trans hfn)).symm
     exact ⟨by kernel_rfl,fun j t ht=>by
       rw [Tryd.params3] at ht
       have hm:t∈[25,3,26]:=by simpa [or_comm,or_assoc,or_left_comm] using Array.mem_of_getElem? ht
       have hall:([25,3,26].all fun u=>!Tryd.prog.wantsStandIn u)=true:=by kernel_rfl
       exact (show Tryd.prog.wantsStandIn t=false by simpa using List.all_eq_true.1 hall t hm)⟩)
   (by kernel_rfl)
#print axioms proved
end Go.Proofs.YtppoiahhaclleaaDoor.allocRuns
