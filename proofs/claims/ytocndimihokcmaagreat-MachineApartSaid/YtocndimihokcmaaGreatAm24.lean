/- Part 24 of a claim; what it proves stands in its last text. -/
import Derived.Test.YtocndimihokcmaaGreatAm23
import Derived.Test.YtocndimihokcmaaGreatAm20
import Derived.Test.YtocndimihokcmaaGreatAm13
import Derived.Test.YtocndimihokcmaaGreatAm2
import Derived.Maps.AppendAt
import Derived.Deep.DeepCutAuto
import Derived.Outline
import Derived.RangeFuncKeeps
import Derived.RangeFuncLeaves
import Derived.OwnWalkIn
import Derived.TacticsInMore
import Derived.LoopNIn
import Derived.LoopIn
import Derived.RangeFuncBox
import Derived.Maps.OwnIn
namespace Go.Proofs.YtocndimihokcmaaGreat
open Go.RowKit
set_option maxRecDepth 100000
open Go.Maps
theorem built_ran (s:St) (h:StOk s):Tryz.prog.built 32 [(0,.agg (stRow s).toArray)]=some (stRow s++[Value.int .i64 0,.int .i64 0]).toArray:=by
 rcases s with ⟨regs,pc,cf,of_,zf⟩
 obtain ⟨a0,a1,a2,a3,a4,a5,a6,a7,a8,a9,a10,a11,a12,a13,a14,a15,rfl⟩:=sixteen regs h.len
 kernel_rfl
theorem built_run (s:St) (h:StOk s) (c m:Value) (hc:∃ b,c=.string b) (hm:∃ a,m=.pointer a) (g:Nat):Tryz.prog.built 68 [(0,.agg (stRow s++[Value.int .i64 0,.int .i64 0]).toArray),(1,c),(2,m),(3,.map (some g))]=some (runRow s 0 0 c m g).toArray:=by
 rcases s with ⟨regs,pc,cf,of_,zf⟩
 obtain ⟨a0,a1,a2,a3,a4,a5,a6,a7,a8,a9,a10,a11,a12,a13,a14,a15,rfl⟩:=sixteen regs h.len
 obtain ⟨b,rfl⟩:=hc
 obtain ⟨a,rfl⟩:=hm
 kernel_rfl
set_option maxHeartbeats 4000000 in
theorem start_good {code:List UInt8} {s:St} {pm:Addr} {fuel:Int} {w:World} (hs:StOk s) (hl:code.length≤1048576) (h0:0≤fuel) (h1:fuel≤1073741824):Calls Tryz.prog 21 #[strB code,.agg (stRow s).toArray,.pointer (some pm),.int .i64 fuel] w fun e w'=>∃ b g,e=.returned (.pointer (some ⟨b,0,none⟩))∧RunAt code (.pointer (some pm)) b g 0 w' s 0 0∧Below w.heap.size w w'∧w.heap.size≤b∧w.heap.size≤g:=by
 have HRAN:=Lh (built_ran s hs)
 have HRUN:=Lh (fun g=>built_run s hs (strB code) (.pointer (some pm)) ⟨_,rfl⟩ ⟨_,rfl⟩ g)
 have HS:=Lh hs
 obtain ⟨q,hq⟩:∃ q:ByteArray,q=⟨code.toArray⟩:=⟨_,rfl⟩
 have hsz:q.size≤1048576:=by rw [hq];simpa [ByteArray.size] using hl
 have hsb:strB code=.string q:=by rw [hq];rfl
 rw [hsb] at HRUN ⊢
 have HSB:=Lh hsb
 have hmm:=@run_makeMap Tryz.prog
 have h2:¬ fuel < 0:=by omega
 have h3:¬ 1073741824 < fuel:=by omega
 have h4:¬ 1048576 < q.size:=by omega
 clear hq hl hs hsb
 go_enter Tryz.func21,Tryz.ntmps21
 go_wp2_with (first | (refine wpList_load_row rfl 26 _ rfl w.heap.size rfl 26 (stRow s).toArray (0,0) _ (heap_alloc_new w _) Tryz.underlying26 rfl (by rw [stRow_size HS.out];exact infoSt) ?_) | (refine wpList_built rfl 32 _ rfl (stRow s++[Value.int .i64 0,.int .i64 0]).toArray (Eq.trans (congrArg (Tryz.prog.built 32) (a₂:=[(0,.agg (stRow s).toArray)]) (by as_aux_lemma=>kernel_rfl)) HRAN.out) ?_) | (refine wpList_built rfl 68 _ rfl (runRow s 0 0 (.string q) (.pointer (some pm)) (w.heap.size+1)).toArray (Eq.trans (congrArg (Tryz.prog.built 68) (a₂:=[(0,.agg (stRow s++[Value.int .i64 0,.int .i64 0]).toArray),(1,.string q),(2,.pointer (some pm)),(3,.map (some (w.heap.size+1)))]) (by as_aux_lemma=>kernel_rfl)) (HRUN.out _)) ?_))
 go_ret
 have e1:(w.alloc (.cells (stRow s).toArray 26)).heap.size=w.heap.size+1:=by simp
 have e2:((w.alloc (.cells (stRow s).toArray 26)).alloc (.map #[] 0)).heap.size=w.heap.size+1+1:=by simp
 have ho:=World.ownsMap_made (w.alloc (.cells (stRow s).toArray 26)) Tryz.prog 23 selfE
 rw [e1] at ho
 have hblk:=heap_alloc_new ((w.alloc (.cells (stRow s).toArray 26)).alloc (.map #[] 0)) (.cells (runRow s 0 0 (.string q) (.pointer (some pm)) (w.heap.size+1)).toArray 68)
 rw [e2,←HSB.out] at hblk
 refine ⟨_,rfl,w.heap.size+1,⟨HS.out,by omega,by rw [←HSB.out];exact hblk,0,.map [],Nat.le_refl _,ho.alloc _,know_empty _⟩,?_,by omega,by omega⟩
 exact (((Below.refl _ _).alloc (Nat.le_refl _) _).alloc (by rw [e1];omega) _).alloc (by rw [e2];omega) _
end Go.Proofs.YtocndimihokcmaaGreat
namespace Go.Proofs.YtocndimihokcmaaGreat
open Go.RowKit
theorem storeVE_bad {rs:List Reg} {a v:Nat} (h:(storeVE rs a v).1≠0):(storeVE rs a v).2=rs:=by
 unfold storeVE at h ⊢
 split
 · rfl
 · rename_i r hr
   rw [hr] at h
   exact absurd rfl h
theorem doF_bad {s:St} {i:Ins} {rs:List Reg} (h:(doF s i rs 0).2.2.1≠0):(doF s i rs 0).2.2.2=rs:=by
 unfold doF at h ⊢
 by_cases h3:i.op=3
 · rw [if_pos h3]
 rw [if_neg h3] at h ⊢
 by_cases h4:i.op=4
 · rw [if_pos h4] at h ⊢;exact storeVE_bad h
 rw [if_neg h4] at h ⊢
 by_cases h5:i.op=5
 · rw [if_pos h5]
 rw [if_neg h5] at h ⊢
 by_cases h19:i.op=19
 · rw [if_pos h19]
 rw [if_neg h19] at h ⊢
 by_cases h28:i.op=28
 · rw [if_pos h28] at h ⊢;exact storeVE_bad h
 rw [if_neg h28] at h ⊢
 by_cases h29:i.op=29
 · rw [if_pos h29]
 rw [if_neg h29] at h ⊢
 by_cases h33:i.op=33
 · rw [if_pos h33]
 rw [if_neg h33]
theorem step_bad {s:St} {i:Ins} {size:Int} {rs:List Reg} (h:(stepF s i size rs).code≠0):(stepF s i size rs).st=s∧(stepF s i size rs).evs=[]∧(stepF s i size rs).rs=rs:=by
 unfold stepF at h ⊢
 split
 · rename_i hg
   rw [if_pos hg] at h
   split
   · rename_i s2 ho
     rw [ho] at h
     exact absurd rfl h
   · rename_i ho
     rw [ho] at h
     by_cases hz:(doF { s with pc:=(s.pc+u64 size) % 18446744073709551616 } i rs 0).2.2.1=0
     · simp only [if_pos hz] at h
       exact absurd rfl h
     · simp only [if_neg hz]
       exact ⟨trivial,trivial,doF_bad hz⟩
 · exact ⟨rfl,rfl,rfl⟩
theorem value_lt {s s1:St} {op:Int} {d b r:Nat} (hd:d < 18446744073709551616) (hb:b < 18446744073709551616) (h:valueF s op d b=some (s1,r)):r < 18446744073709551616:=by
 unfold valueF at h
 by_cases h0:op=1∨op=2
 · rw [if_pos h0] at h;cases h;exact hb
 rw [if_neg h0] at h
 by_cases h1:op=6∨op=15
 · rw [if_pos h1] at h;cases h;exact addF_lt _ _ _
 rw [if_neg h1] at h
 by_cases h2:op=7
 · rw [if_pos h2] at h;cases h;exact addF_lt _ _ _
 rw [if_neg h2] at h
 by_cases h3:op=8∨op=17∨op=13∨op=18
 · rw [if_pos h3] at h;cases h;exact subF_lt _ _ _
 rw [if_neg h3] at h
 by_cases h4:op=9
 · rw [if_pos h4] at h;cases h;exact subF_lt _ _ _
 rw [if_neg h4] at h
 by_cases h5:op=10∨op=16∨op=14
 · rw [if_pos h5] at h;cases h;exact and_lt hd
 rw [if_neg h5] at h
 by_cases h6:op=11
 · rw [if_pos h6] at h;cases h;exact or_lt hd hb
 rw [if_neg h6] at h
 by_cases h7:op=12
 · rw [if_pos h7] at h;cases h;exact xor_lt hd hb
 rw [if_neg h7] at h
 by_cases h8:op=22
 · rw [if_pos h8] at h;cases h;exact subF_lt _ _ _
 rw [if_neg h8] at h
 by_cases h9:op=23
 · rw [if_pos h9] at h;cases h;exact (by omega)
 rw [if_neg h9] at h
 by_cases h10:op=24
 · rw [if_pos h10] at h;cases h;exact Nat.mod_lt _ (by decide)
 rw [if_neg h10] at h
 by_cases h11:op=25
 · rw [if_pos h11] at h;cases h;exact Nat.lt_of_le_of_lt (Nat.div_le_self _ _) hd
 rw [if_neg h11] at h
 by_cases h12:op=20
 · rw [if_pos h12] at h;cases h;exact addF_lt _ _ _
 rw [if_neg h12] at h
 by_cases h13:op=21
 · rw [if_pos h13] at h;cases h;exact addF_lt _ _ _
 rw [if_neg h13] at h
 by_cases h14:op=26
 · rw [if_pos h14] at h;cases h;exact ite_lt hb hd
 rw [if_neg h14] at h
 by_cases h15:op=27
 · rw [if_pos h15] at h;cases h;exact ite_lt hd hb
 rw [if_neg h15] at h
 cases h
theorem regAt_lt {s:St} (hs:StOk s) (k:Int):regAt s k < 18446744073709551616:=by
 unfold regAt
 rw [List.getD_eq_getElem?_getD]
 cases h:s.regs[k.toNat]? with
 | none=>simp
 | some r=>exact hs.regs r (List.mem_of_getElem? h)
theorem StOk.pc_ {s:St} (h:StOk s) {q:Nat} (hq:q < 18446744073709551616):StOk { s with pc:=q }:=⟨h.len,h.regs,hq⟩
theorem value_keep {s s1:St} {op:Int} {d b r:Nat} (h:valueF s op d b=some (s1,r)):s1.regs=s.regs∧s1.pc=s.pc:=by
 unfold valueF at h
 by_cases h0:op=1∨op=2
 · rw [if_pos h0] at h;cases h;exact ⟨rfl,rfl⟩
 rw [if_neg h0] at h
 by_cases h1:op=6∨op=15
 · rw [if_pos h1] at h;cases h;exact ⟨rfl,rfl⟩
 rw [if_neg h1] at h
 by_cases h2:op=7
 · rw [if_pos h2] at h;cases h;exact ⟨rfl,rfl⟩
 rw [if_neg h2] at h
 by_cases h3:op=8∨op=17∨op=13∨op=18
 · rw [if_pos h3] at h;cases h;exact ⟨rfl,rfl⟩
 rw [if_neg h3] at h
 by_cases h4:op=9
 · rw [if_pos h4] at h;cases h;exact ⟨rfl,rfl⟩
 rw [if_neg h4] at h
 by_cases h5:op=10∨op=16∨op=14
 · rw [if_pos h5] at h;cases h;exact ⟨rfl,rfl⟩
 rw [if_neg h5] at h
 by_cases h6:op=11
 · rw [if_pos h6] at h;cases h;exact ⟨rfl,rfl⟩
 rw [if_neg h6] at h
 by_cases h7:op=12
 · rw [if_pos h7] at h;cases h;exact ⟨rfl,rfl⟩
 rw [if_neg h7] at h
 by_cases h8:op=22
 · rw [if_pos h8] at h;cases h;exact ⟨rfl,rfl⟩
 rw [if_neg h8] at h
 by_cases h9:op=23
 · rw [if_pos h9] at h;cases h;exact ⟨rfl,rfl⟩
 rw [if_neg h9] at h
 by_cases h10:op=24
 · rw [if_pos h10] at h;cases h;exact ⟨rfl,rfl⟩
 rw [if_neg h10] at h
 by_cases h11:op=25
 · rw [if_pos h11] at h;cases h;exact ⟨rfl,rfl⟩
 rw [if_neg h11] at h
 by_cases h12:op=20
 · rw [if_pos h12] at h;cases h;exact ⟨rfl,rfl⟩
 rw [if_neg h12] at h
 by_cases h13:op=21
 · rw [if_pos h13] at h;cases h;exact ⟨rfl,rfl⟩
 rw [if_neg h13] at h
 by_cases h14:op=26
 · rw [if_pos h14] at h;cases h;exact ⟨rfl,rfl⟩
 rw [if_neg h14] at h
 by_cases h15:op=27
 · rw [if_pos h15] at h;cases h;exact ⟨rfl,rfl⟩
 rw [if_neg h15] at h
 cases h
theorem over_ok {s s2:St} {i:Ins} (hs:StOk s) (ho:overF s i=some s2):StOk s2:=by
 unfold overF at ho
 split at ho
 · cases ho
 · rename_i s1 r hv
   obtain ⟨k1,k2⟩:=value_keep hv
   have hb:(if takesS i.op then regAt s i.s else u64 i.imm) < 18446744073709551616:=by
     split
     · exact regAt_lt hs _
     · exact u64_lt _
   have hr:=value_lt (regAt_lt hs _) hb hv
   have h1:StOk s1:=⟨by rw [k1];exact hs.len,by rw [k1];exact hs.regs,by rw [k2];exact hs.pc⟩
   obtain rfl:=Option.some.inj ho
   split
   · exact h1
   · exact h1.set _ hr
theorem jump_ok {s:St} (hs:StOk s) (b:Bool) (n:Int):StOk (jumpS s b n):=by
 unfold jumpS
 split
 · exact hs.pc_ (Nat.mod_lt _ (by decide))
 · exact hs
theorem do_ok {s:St} {i:Ins} {rs:List Reg} (hs:StOk s):StOk (doF s i rs 0).1:=by
 unfold doF
 by_cases h3:i.op=3
 · rw [if_pos h3];exact hs.set _ loadF_lt
 rw [if_neg h3]
 by_cases h4:i.op=4
 · rw [if_pos h4];exact hs
 rw [if_neg h4]
 by_cases h5:i.op=5
 · rw [if_pos h5];exact hs.set _ (Nat.mod_lt _ (by decide))
 rw [if_neg h5]
 by_cases h19:i.op=19
 · rw [if_pos h19]
   have h1:=regAt_lt hs i.t
   have h2:=regAt_lt hs 2
   refine (hs.set _ ?_).set _ (Nat.mod_lt _ (by decide))
   show regAt s i.t*regAt s 2 / 18446744073709551616 < _
   have h3:=Nat.mul_le_mul (Nat.le_of_lt_succ h1) (Nat.le_of_lt_succ h2)
   omega
 rw [if_neg h19]
 by_cases h28:i.op=28
 · rw [if_pos h28];exact hs.set _ (Nat.mod_lt _ (by decide))
 rw [if_neg h28]
 by_cases h29:i.op=29
 · rw [if_pos h29];exact (hs.set _ (Nat.mod_lt _ (by decide))).set _ loadF_lt
 rw [if_neg h29]
 by_cases h33:i.op=33
 · rw [if_pos h33];exact (hs.set 4 (Nat.mod_lt _ (by decide))).pc_ loadF_lt
 rw [if_neg h33]
 exact jump_ok hs _ _
theorem step_ok {s:St} (hs:StOk s) (i:Ins) (size:Int) (rs:List Reg):StOk (stepF s i size rs).st:=by
 unfold stepF
 split
 · have h1:StOk { s with pc:=(s.pc+u64 size) % 18446744073709551616 }:=hs.pc_ (Nat.mod_lt _ (by decide))
   split
   · rename_i s2 ho;exact over_ok h1 ho
   · by_cases hz:(doF { s with pc:=(s.pc+u64 size) % 18446744073709551616 } i rs 0).2.2.1=0
     · simp only [if_pos hz];exact do_ok h1
     · simp only [if_neg hz];exact hs
 · exact hs
end Go.Proofs.YtocndimihokcmaaGreat
namespace Go.Proofs.YtocndimihokcmaaGreat
open Go.RowKit
structure NextR where
 st:St
 n:Int
 err:Int
 rs:List Reg
 evs:List Ev
 more:Bool
def nextF (code:List Nat) (s:St) (n fuel:Int) (rs:List Reg):NextR :=
 if s.pc=1 then ⟨s,n,0,rs,[],false⟩ else if n=fuel then ⟨s,n,10,rs,[],false⟩ else match fetchF code s.pc with
   | none=>⟨s,n,11,rs,[],false⟩
   | some x=>if (stepF s x.1 x.2 rs).code≠0 then ⟨s,n,11,rs,[],false⟩ else ⟨(stepF s x.1 x.2 rs).st,n+1,0,(stepF s x.1 x.2 rs).rs,(stepF s x.1 x.2 rs).evs,true⟩
theorem dec_insOk {l:List Nat} (hl:∀ b∈l,b < 256) {x:Ins×Nat} (h:decF l=some x):InsOk x.1:=by
 rw [←decF_any hl] at h
 obtain ⟨i,n⟩:=x
 obtain ⟨_,_,h3,_⟩:=instP_some h
 rw [h3]
 exact any_insOk _ (fun b hb=>hl b (List.mem_of_mem_take hb))
theorem fetch_insOk {code:List UInt8} {pc:Nat} {x:Ins×Nat} (h:fetchF (natsB code) pc=some x):InsOk x.1:=by
 unfold fetchF at h
 split at h
 · cases h
 · exact dec_insOk (fun b hb=>natsB_lt code b (List.mem_of_mem_drop hb)) h
theorem next_any {code:List UInt8} {m:Value} {b g k:Nat} {w:World} {s:St} {n fuel:Int} {F:Nat→Prop} {rs:List Reg} (h:RunAt code m b g k w s n 0) (hm:MemAt w F m rs) (hF:∀ q,F q→q < w.heap.size) (hbF:¬ F b) (hgF:¬ F g) (hl:code.length≤1000000000) (hk:k≤2000000000) (hn:0≤n∧n < 2000000000) :
   Calls Tryz.prog 41 #[.pointer (some ⟨b,0,none⟩),.int .i64 fuel] w (NextPost code m b g k w F (nextF (natsB code) s n fuel rs).st (nextF (natsB code) s n fuel rs).n (nextF (natsB code) s n fuel rs).err (nextF (natsB code) s n fuel rs).rs (nextF (natsB code) s n fuel rs).evs (nextF (natsB code) s n fuel rs).more):=by
 by_cases hpc:s.pc=1
 · have e:nextF (natsB code) s n fuel rs=⟨s,n,0,rs,[],false⟩:=by unfold nextF;rw [if_pos hpc]
   rw [e]
   exact next_home h hm hpc
 by_cases hf:n=fuel
 · have e:nextF (natsB code) s n fuel rs=⟨s,n,10,rs,[],false⟩:=by unfold nextF;rw [if_neg hpc,if_pos hf]
   rw [e]
   exact next_full h hm hbF hpc hf
 have hfe:=rfetch_any h hl hk
 cases hx:fetchF (natsB code) s.pc with
 | none =>
   have e:nextF (natsB code) s n fuel rs=⟨s,n,11,rs,[],false⟩:=by unfold nextF;rw [if_neg hpc,if_neg hf,hx]
   rw [e]
   rw [hx] at hfe
   exact next_none h hm hF hbF hgF hpc hf hfe
 | some x =>
   rw [hx] at hfe
   have hi:=fetch_insOk hx
   by_cases hc:(stepF s x.1 x.2 rs).code=0
   · have e:nextF (natsB code) s n fuel rs=⟨(stepF s x.1 x.2 rs).st,n+1,0,(stepF s x.1 x.2 rs).rs,(stepF s x.1 x.2 rs).evs,true⟩:=by
       unfold nextF
       rw [if_neg hpc,if_neg hf,hx]
       exact if_neg (fun h=>h hc)
     rw [e]
     exact next_ok h hm hF hbF hgF hpc hf hi hfe hn _ rfl (step_ok h.st _ _ _) hc
   · have e:nextF (natsB code) s n fuel rs=⟨s,n,11,rs,[],false⟩:=by
       unfold nextF
       rw [if_neg hpc,if_neg hf,hx]
       exact if_pos hc
     rw [e]
     have hb:=next_bad (fuel:=fuel) h hm hF hbF hgF hpc hf hi hfe _ rfl (step_ok h.st _ _ _) hc
     rw [(step_bad hc).2.2] at hb
     exact hb
end Go.Proofs.YtocndimihokcmaaGreat
namespace Go.Proofs.YtocndimihokcmaaGreat
open Go.RowKit
theorem run_stop {code:List Nat} {f n:Nat} {s:St} {rs:List Reg} (h:(nextF code s n ((n+f:Nat):Int) rs).more=false) :
   (nextF code s n ((n+f:Nat):Int) rs).n=n∧(nextF code s n ((n+f:Nat):Int) rs).evs=[]∧runF code f s rs n=⟨(nextF code s n ((n+f:Nat):Int) rs).st,n,(nextF code s n ((n+f:Nat):Int) rs).err,[],(nextF code s n ((n+f:Nat):Int) rs).rs⟩:=by
 by_cases hpc:s.pc=1
 · have e:nextF code s n ((n+f:Nat):Int) rs=⟨s,n,0,rs,[],false⟩:=by unfold nextF;rw [if_pos hpc]
   rw [e]
   exact ⟨rfl,rfl,runF_home hpc⟩
 cases f with
 | zero =>
   have e:nextF code s n ((n+0:Nat):Int) rs=⟨s,n,10,rs,[],false⟩:=by unfold nextF;rw [if_neg hpc,if_pos (by omega)]
   rw [e]
   exact ⟨rfl,rfl,runF_full hpc⟩
 | succ f =>
   cases hx:fetchF code s.pc with
   | none =>
     have e:nextF code s n ((n+(f+1):Nat):Int) rs=⟨s,n,11,rs,[],false⟩:=by unfold nextF;rw [if_neg hpc,if_neg (by omega),hx]
     rw [e]
     exact ⟨rfl,rfl,runF_none hpc hx⟩
   | some x =>
     by_cases hc:(stepF s x.1 x.2 rs).code=0
     · have e:nextF code s n ((n+(f+1):Nat):Int) rs=⟨(stepF s x.1 x.2 rs).st,n+1,0,(stepF s x.1 x.2 rs).rs,(stepF s x.1 x.2 rs).evs,true⟩:=by
         unfold nextF
         rw [if_neg hpc,if_neg (by omega),hx]
         exact if_neg (fun h=>h hc)
       rw [e] at h
       cases h
     · have e:nextF code s n ((n+(f+1):Nat):Int) rs=⟨s,n,11,rs,[],false⟩:=by
         unfold nextF
         rw [if_neg hpc,if_neg (by omega),hx]
         exact if_pos hc
       rw [e]
       exact ⟨rfl,rfl,runF_bad hpc hx hc⟩
theorem run_goes {code:List Nat} {f n:Nat} {s:St} {rs:List Reg} (h:(nextF code s n ((n+f:Nat):Int) rs).more=true) :
   ∃ f',f=f'+1∧(nextF code s n ((n+f:Nat):Int) rs).n=(n+1:Nat)∧(nextF code s n ((n+f:Nat):Int) rs).err=0 ∧
     runF code f s rs n={ runF code f' (nextF code s n ((n+f:Nat):Int) rs).st (nextF code s n ((n+f:Nat):Int) rs).rs (n+1) with evs:=(nextF code s n ((n+f:Nat):Int) rs).evs++(runF code f' (nextF code s n ((n+f:Nat):Int) rs).st (nextF code s n ((n+f:Nat):Int) rs).rs (n+1)).evs }:=by
 by_cases hpc:s.pc=1
 · have e:nextF code s n ((n+f:Nat):Int) rs=⟨s,n,0,rs,[],false⟩:=by unfold nextF;rw [if_pos hpc]
   rw [e] at h
   cases h
 cases f with
 | zero =>
   have e:nextF code s n ((n+0:Nat):Int) rs=⟨s,n,10,rs,[],false⟩:=by unfold nextF;rw [if_neg hpc,if_pos (by omega)]
   rw [e] at h
   cases h
 | succ f =>
   cases hx:fetchF code s.pc with
   | none =>
     have e:nextF code s n ((n+(f+1):Nat):Int) rs=⟨s,n,11,rs,[],false⟩:=by unfold nextF;rw [if_neg hpc,if_neg (by omega),hx]
     rw [e] at h
     cases h
   | some x =>
     by_cases hc:(stepF s x.1 x.2 rs).code=0
     · have e:nextF code s n ((n+(f+1):Nat):Int) rs=⟨(stepF s x.1 x.2 rs).st,n+1,0,(stepF s x.1 x.2 rs).rs,(stepF s x.1 x.2 rs).evs,true⟩:=by
         unfold nextF
         rw [if_neg hpc,if_neg (by omega),hx]
         exact if_neg (fun h=>h hc)
       rw [e]
       exact ⟨f,rfl,rfl,rfl,runF_step hpc hx hc⟩
     · have e:nextF code s n ((n+(f+1):Nat):Int) rs=⟨s,n,11,rs,[],false⟩:=by
         unfold nextF
         rw [if_neg hpc,if_neg (by omega),hx]
         exact if_pos hc
       rw [e] at h
       cases h
end Go.Proofs.YtocndimihokcmaaGreat
namespace Go.Proofs.YtocndimihokcmaaGreat
open Go.RowKit
set_option maxRecDepth 100000
def evEq (a b:Ev):Bool:=a.kind == b.kind && a.addr == b.addr
def sameE (a b:List Ev):Bool:=a.length == b.length && (a.zip b).all fun x=>evEq x.1 x.2
theorem evEq_iff (a b:Ev):evEq a b=true↔a=b:=by
 cases a;cases b
 simp [evEq]
theorem sameE_iff (a b:List Ev):sameE a b=true↔a=b:=by
 induction a generalizing b with
 | nil=>cases b <;> simp [sameE]
 | cons x a ih =>
   cases b with
   | nil=>simp [sameE]
   | cons y b =>
     have:=ih b
     simp only [sameE,Bool.and_eq_true,beq_iff_eq,List.length_cons,List.zip_cons_cons,List.all_cons,evEq_iff] at this ⊢
     constructor
     · rintro ⟨h1,rfl,h2⟩;rw [this.1 ⟨by omega,h2⟩]
     · intro h;injection h with h1 h2;subst h1;exact ⟨by rw [h2],rfl,(this.2 h2).2⟩
theorem sameE_len {a b:List Ev} (h:a.length≠b.length):sameE a b=false:=by
 cases hs:sameE a b
 · rfl
 · exact absurd (congrArg List.length ((sameE_iff a b).1 hs)) h
theorem sameE_no {a b:List Ev} {k:Nat} {x y:Ev} (h1:a[k]? = some x) (h2:b[k]? = some y) (h:x≠y):sameE a b=false:=by
 cases hs:sameE a b
 · rfl
 · have:=(sameE_iff a b).1 hs
   subst this
   rw [h1] at h2
   cases h2
   exact absurd rfl h
theorem sameE_yes {a b:List Ev} (hl:a.length=b.length) (h:∀ (j:Nat) (x y:Ev),j < a.length→a[j]? = some x→b[j]? = some y→x=y):sameE a b=true:=by
 rw [sameE_iff]
 refine List.ext_getElem hl fun j h1 h2=>?_
 exact h j _ _ h1 (List.getElem?_eq_getElem h1) (List.getElem?_eq_getElem h2)
theorem sameE_self (a:List Ev):sameE a a=true:=(sameE_iff a a).2 rfl
def EvsAt (w:World) (F:Nat→Prop) (v:Value) (l:List Ev):Prop:=Rows w F 2 v (l.map evRow)
theorem EvsAt.keep {w w':World} {F:Nat→Prop} {v:Value} {l:List Ev} (h:EvsAt w F v l) (hk:SameOn F w w'):EvsAt w' F v l:=Rows.keep h hk
theorem EvsAt.form {w:World} {F:Nat→Prop} {v:Value} {l:List Ev} (h:EvsAt w F v l):∃ A c,v=.slice A l.length c∧l.length≤c:=by
 obtain ⟨A,c,rfl,hc,_,_⟩:=h
 rw [List.length_map] at hc ⊢
 exact ⟨A,c,rfl,hc⟩
theorem EvsAt.at_ {w:World} {F:Nat→Prop} {A:Option Addr} {n c:Nat} {l:List Ev} (h:EvsAt w F (.slice A n c) l) {k:Nat} {x:Ev} (hk:l[k]? = some x) :
   ∃ b o,A=some ⟨b,o,none⟩∧F b∧w.cell? ⟨b,o+k*2,none⟩=some (.int .i64 x.kind)∧w.cell? ⟨b,o+k*2+1,none⟩=some (.int .u64 x.addr):=by
 obtain ⟨A',c',hv,hc,hl,hne⟩:=h
 cases hv
 obtain ⟨b,o,rfl,hF,hat⟩:=hne (fun e=>by
   have h1:(l.map evRow)[k]? = some (evRow x):=by rw [List.getElem?_map,hk];rfl
   rw [e] at h1;cases h1)
 have h1:(l.map evRow)[k]? = some (evRow x):=by rw [List.getElem?_map,hk];rfl
 exact ⟨b,o,rfl,hF,hat k 0 _ _ h1 rfl,hat k 1 _ _ h1 rfl⟩
theorem evs_own {w:World} {base:Nat} {v:Value} {l:List Ev} (h:w.ownsRow base 56 2 v l.length (l.map evRow).flatten):EvsAt w (fun k=>k < w.heap.size) v l:=by
 have hsz:∀ r∈l.map evRow,r.length=2:=by intro r hr;obtain ⟨x,_,rfl⟩:=List.mem_map.1 hr;rfl
 rcases Nat.eq_zero_or_pos l.length with h0 | hpos
 · obtain rfl:=List.eq_nil_of_length_eq_zero h0
   rcases h.2 with ⟨rfl,_⟩ | ⟨g,cap,cur,rfl,_,_,hnc,_⟩
   · exact ⟨none,0,rfl,by simp,by simp,fun h=>absurd rfl h⟩
   · exact ⟨_,cap,rfl,by simp,by simp,fun h=>absurd rfl h⟩
 · obtain ⟨g,cap,rfl,_,hnc,hrow⟩:=rowsBlk_of_own h hsz hpos
   refine ⟨_,cap,by simp,by simpa using hnc,hsz,fun _=>⟨g,0,rfl,hrow.lt,fun i j r u hr hu=>?_⟩⟩
   rw [Nat.zero_add]
   exact hrow.cell hr hu
theorem evs_lit {w:World} {g:Nat} {l:List Ev} {t:Nat} (h:w.heap[g]? = some (.cells (l.map evRow).flatten.toArray t (0,0))):EvsAt w (fun k=>k < w.heap.size) (.slice (some ⟨g,0,none⟩) l.length l.length) l:=by
 refine ⟨_,l.length,by simp,by simp,by intro r hr;obtain ⟨x,_,rfl⟩:=List.mem_map.1 hr;rfl,fun _=>⟨g,0,rfl,lt_of_block h,fun i j r u hr hu=>?_⟩⟩
 rw [Nat.zero_add]
 simp only [World.cell?,h]
 have hj:j < 2:=by
   have hm:=List.mem_of_getElem? hr
   obtain ⟨x,_,rfl⟩:=List.mem_map.1 hm
   exact (List.getElem?_eq_some_iff.1 hu).1
 have:∀ (L:List (List Value)) (i:Nat),(∀ r∈L,r.length=2)→L[i]? = some r→L.flatten[i*2+j]? = some u:=by
   intro L
   induction L with
   | nil=>intro i _ h;simp at h
   | cons q qs ih =>
     intro i hsz hi
     have hq:=hsz q (List.mem_cons_self ..)
     cases i with
     | zero =>
       simp at hi
       subst hi
       rw [List.flatten_cons,List.getElem?_append_left (by omega)]
       simpa using hu
     | succ i =>
       rw [List.flatten_cons,List.getElem?_append_right (by omega),hq,show (i+1)*2+j - 2=i*2+j from by omega]
       exact ih i (fun r hr=>hsz r (List.mem_cons_of_mem _ hr)) (by simpa using hi)
 have:=this (l.map evRow) i (by intro r hr;obtain ⟨x,_,rfl⟩:=List.mem_map.1 hr;rfl) hr
 simpa using this
set_option maxHeartbeats 1600000 in
theorem SameEv_any (v u:Value) (w:World) (F:Nat→Prop) (a b:List Ev) (hn:a.length≤9223372036854775807) (ha:EvsAt w F v a) (hb:EvsAt w F u b) (hF:∀ k,F k→k < w.heap.size) :
   Calls Tryz.prog 17 #[v,u] w fun e w'=>e=.returned (.bool (sameE a b))∧Below w.heap.size w w':=by
 obtain ⟨A,c,rfl,hc⟩:=ha.form
 obtain ⟨B,d,rfl,hd⟩:=hb.form
 have HA:=Lh ha
 have HB:=Lh hb
 have HF:=Lh hF
 clear ha hb hc hd hF
 by_cases hlen:a.length=b.length
 · rw [←hlen]
   generalize hln:a.length=n at *
   have HN:=Lh hln
   have HN2:=Lh hlen
   clear hln hlen
   have hnn:(n != n)=false:=by simp
   have hnn2:((n:Int) !=(n:Int))=false:=by simp
   go_enter Tryz.func17,Tryz.ntmps17
   go_wp2
   go_loopw [5] (fun i wr=>∃ k:Nat,k≤n∧i=.int .i64 k∧Below w.heap.size w wr∧∀ (j:Nat) (x y:Ev),j < k→a[j]? = some x→b[j]? = some y→x=y) (fun i _=>n - (intOf i).toNat)
   case atStart=>exact ⟨0,by omega,rfl,Below.refl _ _,fun j x y hj=>absurd hj (by omega)⟩
   case round =>
     obtain ⟨k,hk,rfl,hbl,hall⟩:=hrel
     have HALL:=Lh hall
     have HBL:=Lh hbl
     clear hall hbl
     by_cases hlt:k < n
     · obtain ⟨r,hr⟩:∃ r,a[k]? = some r:=⟨_,List.getElem?_eq_getElem (by have:=HN.out;omega)⟩
       obtain ⟨s,hs⟩:∃ s,b[k]? = some s:=⟨_,List.getElem?_eq_getElem (by have:=HN2.out;omega)⟩
       obtain ⟨b1,o1,rfl,hF1,p0,p1⟩:=HA.out.at_ hr
       obtain ⟨b2,o2,rfl,hF2,q0,q1⟩:=HB.out.at_ hs
       have l1:b1 < wr.heap.size:=Nat.lt_of_lt_of_le (HF.out b1 hF1) HBL.out.size
       have l2:b2 < wr.heap.size:=Nat.lt_of_lt_of_le (HF.out b2 hF2) HBL.out.size
       have g0:=(HBL.out.cell (p:=⟨b1,o1+k*2,none⟩) (HF.out b1 hF1)).trans p0
       have g1:=(HBL.out.cell (p:=⟨b1,o1+k*2+1,none⟩) (HF.out b1 hF1)).trans p1
       have h0:=(HBL.out.cell (p:=⟨b2,o2+k*2,none⟩) (HF.out b2 hF2)).trans q0
       have h1:=(HBL.out.cell (p:=⟨b2,o2+k*2+1,none⟩) (HF.out b2 hF2)).trans q1
       have i0:(0:Int)≤(k:Int):=by omega
       have i1:(k:Int) < (n:Int):=by omega
       have HR:=Lh hr
       have HS:=Lh hs
       clear p0 p1 q0 q1 hr hs
       by_cases e2:r=s
       · have HRS:=Lh e2
         have e0:(r.kind == s.kind)=true:=by rw [e2];simp
         have e1:(r.addr == s.addr)=true:=by rw [e2];simp
         have e1':((r.addr:Int) ==(s.addr:Int))=true:=by rw [e2];simp
         clear e2
         go_wp2
         go_region
         go_wp2
         go_roundw
         case rel=>exact ⟨k+1,by omega,by go_num,HBL.out.drew,fun j x y hj hx hy=>by
           rcases Nat.lt_or_ge j k with h | h
           · exact HALL.out j x y h hx hy
           · obtain rfl:j=k:=by omega
             have h1:=HR.out
             have h2:=HS.out
             rw [h1] at hx
             rw [h2] at hy
             cases hx
             cases hy
             exact HRS.out⟩
         case measure=>simp [intOf];omega
       · have hno:=sameE_no HR.out HS.out e2
         have HNO:=Lh hno
         by_cases e0:r.kind=s.kind
         · have e1:(r.addr == s.addr)=false:=by
             rw [Bool.eq_false_iff];intro h;apply e2;have h':r.addr=s.addr:=by simpa using h
             cases r;cases s;simp_all
           have e1':((r.addr:Int) ==(s.addr:Int))=false:=by
             rw [Bool.eq_false_iff];intro h;rw [Bool.eq_false_iff] at e1;apply e1;have h2:(r.addr:Int)=(s.addr:Int):=by simpa using h
             have h3:r.addr=s.addr:=by omega
             rw [h3];simp
           have e0':(r.kind == s.kind)=true:=by simpa using e0
           clear e2 e0 hno
           go_wp2
           go_region
           go_wp2
           go_ret
           exact ⟨ret_bool HNO.out.symm,HBL.out.drew⟩
         · have e0':(r.kind == s.kind)=false:=by simpa using e0
           clear e2 e0 hno
           go_wp2
           go_region
           go_wp2
           go_ret
           exact ⟨ret_bool HNO.out.symm,HBL.out.drew⟩
     · have hyes:=sameE_yes (a:=a) (b:=b) (by have:=HN.out;have:=HN2.out;omega) (by have:=HN.out;have:=HALL.out;intro j x y hj;exact this j x y (by omega))
       have HY:=Lh hyes
       clear hyes
       go_wp2
       go_ret
       exact ⟨ret_bool HY.out.symm,HBL.out⟩
 · have hs:=sameE_len hlen
   have HS:=Lh hs
   have hne:((a.length:Int) !=(b.length:Int))=true:=by simp;omega
   have hne2:(a.length != b.length)=true:=by simp;omega
   clear hs hlen
   go_enter Tryz.func17,Tryz.ntmps17
   go_wp2
   go_ret
   exact ⟨ret_bool HS.out.symm,Below.refl _ _⟩
end Go.Proofs.YtocndimihokcmaaGreat
namespace Go.Proofs.YtocndimihokcmaaGreat
open Go.RowKit
set_option maxRecDepth 100000
attribute [local go_sem] Oper.semAt_some
def evV (e:Ev):Value:=.agg (evRow e).toArray
theorem lt_of_cell {W:World} {B k:Nat} {v:Value} (h:W.cell? ⟨B,k,none⟩=some v):B < W.heap.size:=by
 unfold World.cell? at h
 cases ho:W.heap[B]? with
 | none=>simp [ho] at h
 | some o=>exact (Array.getElem?_eq_some_iff.1 ho).1
def IterB (b g:Nat) (F:Nat→Prop):Nat→Prop:=fun j=>j=b∨j=g∨F j
set_option maxHeartbeats 4000000 in
theorem iter_in {code:List UInt8} {m:Value} {b g bp bf l fuel:Nat} {F:Nat→Prop} {s0:St} {rs0:List Reg} {W0:World} (J:List Ev→World→Prop) (Kx:World→Nat→Prop) (tot:RunR) (htot:tot=runF (natsB code) fuel s0 rs0 0) (hl:code.length≤1000000000) (hfu:fuel≤1073741824) (hN:tot.evs.length≤1000000000000)
   (hJ:∀ pre W W',J pre W→Chg (IterB b g F) W W'→J pre W')
   (hY:∀ pre x W,J pre W→pre.length < tot.evs.length→YieldAt Fence.wide 0 Tryz.prog l #[evV x] W fun e W'=>e=.returned (.bool true)∧J (pre++[x]) W'∧Chg (Kx W) W W'∧∀ j,Kx W' j→Kx W j∨W.heap.size≤j)
   (hKJ:∀ pre W W' j,J pre W→Chg (IterB b g F) W W'→Kx W' j→Kx W j) (hK:∀ pre W j,J pre W→Kx W j→¬ IterB b g F j∧j≠bp∧j≠bf∧j < W.heap.size) (hF:∀ q,F q→q < W0.heap.size) (hbF:¬ F b) (hgF:¬ F g) (hbo:¬ IterB b g F bp∧¬ IterB b g F bf)
   (hr:RunAt code m b g 0 W0 s0 0 0) (hm:MemAt W0 F m rs0) (hbp:W0.cell? ⟨bp,0,none⟩=some (.pointer (some ⟨b,0,none⟩))) (hbf:W0.cell? ⟨bf,0,none⟩=some (.int .i64 fuel)) (h0:J [] W0) :
   CallsIn Fence.wide 1 Tryz.prog 40 #[.func (.yield l) #[] #[],.pointer (some ⟨bp,0,none⟩),.pointer (some ⟨bf,0,none⟩)] W0 fun e W'=>(∃ v,e=.returned v)∧J tot.evs W'∧(∃ k,RunAt code m b g k W' tot.st tot.steps tot.err)∧MemAt W' F m tot.rs:=by
 refine callsIn_of_wp Tryz.func40 rfl trivial ?_ rfl
 simp only [Tryz.ntmps40,List.size_toArray,List.length_cons,List.length_nil,Nat.reduceAdd,Nat.reduceSub,Array.replicate_succ,Array.replicate_zero,List.push_toArray,List.append_toArray,List.nil_append,List.cons_append]
 obtain ⟨c16_,c20_,c21_,c22_,c23_,c24_⟩:=hr.cells
 gi_wp2
 refine ⟨trivial,(callsIn_wide.2 (next_any (fuel:=fuel) hr hm hF hbF hgF hl (by omega) (by omega))).mono ?_⟩
 rintro e w1 ⟨vv,rfl,hr1,hm1,hc1,ho1⟩
 gi_wp2
 gi_loopw [4,5] (fun s4 s5 wr=>∃ (s:St) (nn f k base:Nat) (rs:List Reg) (pre:List Ev) (q:NextR),q=nextF (natsB code) s nn ((nn+f:Nat):Int) rs∧nn+f=fuel∧k≤nn+1∧s5=.bool q.more∧RunAt code m b g k wr q.st q.n q.err∧MemAt wr F m q.rs∧(∀ j z,Kx wr j→s4.ownBlock=some z→j≠z)∧wr.ownsRow base 56 2 s4 q.evs.length (q.evs.map evRow).flatten∧J pre wr∧(∃ x:RunR,x=runF (natsB code) f s rs nn∧tot.evs=pre++x.evs∧tot.st=x.st∧tot.steps=x.steps∧tot.err=x.err∧tot.rs=x.rs)∧wr.cell? ⟨bp,0,none⟩=some (.pointer (some ⟨b,0,none⟩))∧wr.cell? ⟨bf,0,none⟩=some (.int .i64 fuel)∧W0.heap.size≤wr.heap.size) (fun _ s5 wr=>2*(fuel+1 - (match wr.cell? ⟨b,20,none⟩ with | some v=>(intOf v).toNat | none=>0))+(match s5 with | .bool true=>1 | _=>0))
 case atStart =>
   have hlp:bp < W0.heap.size:=lt_of_cell hbp
   have hlf:bf < W0.heap.size:=lt_of_cell hbf
   refine ⟨s0,0,fuel,1,W0.heap.size,rs0,[],nextF (natsB code) s0 0 fuel rs0,by rw [Nat.zero_add];rfl,Nat.zero_add _,Nat.le_refl _,rfl,hr1,hm1,fun j z hj hz=>by have h1:=(hK _ _ j h0 (hKJ _ _ _ _ h0 hc1 hj)).2.2.2;have h2:=(own_ltB ho1 z hz).2;omega,ho1,hJ _ _ _ h0 hc1,⟨_,rfl,by rw [htot];rfl,by rw [htot],by rw [htot],by rw [htot],by rw [htot]⟩,(World.cell?_of_block (a:=⟨bp,0,none⟩) (hc1.block bp hlp hbo.1)).trans hbp,(World.cell?_of_block (a:=⟨bf,0,none⟩) (hc1.block bf hlf hbo.2)).trans hbf,hc1.size⟩
 case round =>
   obtain ⟨s,nn,f,k,base,rs,pre,q,hq,hnf,hk,rfl,hra,hma,hbase,hown,hj,⟨x,hx,hx1,hx2,hx3,hx4,hx5⟩,hbp2,hbf2,hsz⟩:=hrel
   have HQ:=Lh hq
   have HX:=Lh hx
   have HT:=Lh (And.intro hx1 (And.intro hx2 (And.intro hx3 (And.intro hx4 hx5))))
   have HO:=Lh htot
   clear hq hx hx1 hx2 hx3 hx4 hx5 htot
   cases hmo:q.more with
   | false =>
     gi_wp2
     have hs:=run_stop (code:=natsB code) (f:=f) (n:=nn) (s:=s) (rs:=rs) (by rw [←HQ.out];exact hmo)
     rw [←HQ.out,←HX.out] at hs
     obtain ⟨e1,e2,e3⟩:=hs
     go_end0
     refine ⟨⟨_,rfl⟩,?_,⟨k,?_⟩,?_⟩
     · rw [HT.out.1,e3,List.append_nil];exact hj
     · rw [HT.out.2.1,HT.out.2.2.1,HT.out.2.2.2.1,e3,←e1];exact hra
     · rw [HT.out.2.2.2.2,e3];exact hma
   | true =>
     obtain ⟨A,c,rfl,_⟩:=own_formB hown
     gi_wp2
     gi_loopw [29] (fun s29 wi=>∃ j:Nat,j≤q.evs.length∧s29=.int .i64 j∧RunAt code m b g k wi q.st q.n q.err∧MemAt wi F m q.rs∧(∀ j z,Kx wi j→(Value.slice A q.evs.length c).ownBlock=some z→j≠z)∧wi.ownsRow base 56 2 (.slice A q.evs.length c) q.evs.length (q.evs.map evRow).flatten∧J (pre++q.evs.take j) wi∧wi.cell? ⟨bp,0,none⟩=some (.pointer (some ⟨b,0,none⟩))∧wi.cell? ⟨bf,0,none⟩=some (.int .i64 fuel)∧W0.heap.size≤wi.heap.size) (fun s29 _=>q.evs.length - (intOf s29).toNat)
     case atStart=>exact ⟨0,Nat.zero_le _,rfl,hra,hma,hbase,hown,by rw [List.take_zero,List.append_nil];exact hj,hbp2,hbf2,hsz⟩
     case round =>
       obtain ⟨j,hjl,rfl,hri,hmi,hdis,howi,hji,hbpi,hbfi,hszi⟩:=hrel
       by_cases hlt:j < q.evs.length
       · have d1:decide (j < q.evs.length)=true:=decide_eq_true hlt
         have hev:=(evs_own howi).at_ (k:=j) (x:=q.evs[j]) (List.getElem?_eq_getElem hlt)
         obtain ⟨be,oe,rfl,hbl,hv1,hv2⟩:=hev
         generalize hxe:q.evs[j]=xe at *
         have HXE:=Lh hxe
         clear hxe
         have hlen:(pre++q.evs.take j).length < tot.evs.length:=by
           obtain ⟨f',_,_,_,er⟩:=run_goes (code:=natsB code) (f:=f) (n:=nn) (s:=s) (rs:=rs) (by rw [←HQ.out];exact hmo)
           rw [←HQ.out,←HX.out] at er
           rw [HT.out.1,er,List.length_append,List.length_append,List.length_append,List.length_take]
           omega
         obtain ⟨fn,tmps,assign,body,hy,hR⟩:=hY (pre++q.evs.take j) xe (wr.alloc (.cells #[.int .i64 xe.kind,.int .u64 xe.addr] 56)) (hJ _ _ _ hji ((Chg.refl (IterB b g F) wr).alloc _)) hlen
         have hal:∀ k_,Kx (wr.alloc (.cells #[.int .i64 xe.kind,.int .u64 xe.addr] 56)) k_→Kx wr k_:=fun k_ hk_=>hKJ _ _ _ _ hji ((Chg.refl (IterB b g F) wr).alloc _) hk_
         unfold evV evRow at hy
         have hjb:j < 1000000000000:=by
           rw [List.length_append,List.length_take] at hlen
           omega
         gi_wp2
         refine hR.mono ?_
         rintro e W3 ⟨rfl,hJ3,hk3,hn3⟩
         have hc4:Chg (Kx wr) wr W3:=((Chg.refl (Kx wr) wr).alloc _).trans' hk3 (fun k_ _ hk_=>hal k_ hk_)
         have hKw:=fun k_ hk_=>hK _ wr k_ hji hk_
         gi_wp2
         go_roundw
         case rel =>
           refine ⟨j+1,hlt,by go_num,hri.chg hc4 (fun e=>(hKw b e).1 (.inl rfl)) (fun e=>(hKw g e).1 (.inr (.inl rfl))),hmi.keep (hc4.same (fun z hz=>⟨Nat.lt_of_lt_of_le (hF z hz) hszi,fun e=>(hKw z e).1 (.inr (.inr hz))⟩)),fun k_ z hk_ hz=>(by
             rcases hn3 k_ hk_ with h1 | h1
             · exact hdis k_ z (hal k_ h1) hz
             · have h2:=(own_ltB howi z hz).1
               rw [World.size_alloc] at h1
               omega),own_same howi (fun z hz=>hc4.block z (own_ltB howi z hz).1 (fun e=>hdis z z e hz rfl)),?_,(World.cell?_of_block (a:=⟨bp,0,none⟩) (hc4.block bp (lt_of_cell hbpi) (fun e=>(hKw bp e).2.1 rfl))).trans hbpi,(World.cell?_of_block (a:=⟨bf,0,none⟩) (hc4.block bf (lt_of_cell hbfi) (fun e=>(hKw bf e).2.2.1 rfl))).trans hbfi,Nat.le_trans hszi hc4.size⟩
           rw [List.take_succ_eq_append_getElem hlt,HXE.out,←List.append_assoc]
           exact hJ3
         case measure=>simp [intOf];omega
       · have d1:decide (j < q.evs.length)=false:=decide_eq_false hlt
         gi_wp2
         have hg:=run_goes (code:=natsB code) (f:=f) (n:=nn) (s:=s) (rs:=rs) (by rw [←HQ.out];exact hmo)
         rw [←HQ.out,←HX.out] at hg
         obtain ⟨f',hf',en,ee,er⟩:=hg
         rw [en,ee] at hri
         refine ⟨trivial,(callsIn_wide.2 (next_any (fuel:=fuel) hri hmi (fun z hz=>Nat.lt_of_lt_of_le (hF z hz) hszi) hbF hgF hl (by omega) (by omega))).mono ?_⟩
         rintro e w3 ⟨vv3,rfl,hr3,hm3,hc3,ho3⟩
         gi_wp2
         have hj2:j=q.evs.length:=by omega
         rw [hj2,List.take_length] at hji
         have ef:((nn+1+f':Nat):Int)=(fuel:Int):=by omega
         go_roundw
         case rel =>
           refine ⟨q.st,nn+1,f',k+1,_,q.rs,pre++q.evs,_,rfl,by omega,by omega,by rw [ef];rfl,by rw [ef];exact hr3,by rw [ef];exact hm3,fun k_ z hk_ hz=>(by have h1:=(hK _ _ k_ hji (hKJ _ _ _ _ hji hc3 hk_)).2.2.2;have h2:=(own_ltB ho3 z hz).2;omega),by rw [ef];exact ho3,hJ _ _ _ hji hc3,⟨_,rfl,?_,?_,?_,?_,?_⟩,(World.cell?_of_block (a:=⟨bp,0,none⟩) (hc3.block bp (lt_of_cell hbpi) hbo.1)).trans hbpi,(World.cell?_of_block (a:=⟨bf,0,none⟩) (hc3.block bf (lt_of_cell hbfi) hbo.2)).trans hbfi,Nat.le_trans hszi hc3.size⟩
           · rw [HT.out.1,er,List.append_assoc]
           · rw [HT.out.2.1,er]
           · rw [HT.out.2.2.1,er]
           · rw [HT.out.2.2.2.1,er]
           · rw [HT.out.2.2.2.2,er]
         case measure =>
           have k1:=hra.cells.2.1
           rw [en] at k1
           have k3:=hr3.cells.2.1
           have e0:((nn:Int)+1)=((nn+1:Nat):Int):=by omega
           rw [k1,k3,e0]
           cases hm4:(nextF (natsB code) q.st ((nn+1:Nat):Int) (fuel:Int) q.rs).more with
           | true =>
             obtain ⟨f2,e1,e2,_,_⟩:=run_goes (code:=natsB code) (f:=f') (n:=nn+1) (s:=q.st) (rs:=q.rs) (by rw [ef];exact hm4)
             rw [ef] at e2
             rw [e2]
             simp [intOf]
             omega
           | false =>
             obtain ⟨e2,_,_⟩:=run_stop (code:=natsB code) (f:=f') (n:=nn+1) (s:=q.st) (rs:=q.rs) (by rw [ef];exact hm4)
             rw [ef] at e2
             rw [e2]
             simp [intOf]
end Go.Proofs.YtocndimihokcmaaGreat
namespace Go.Proofs.YtocndimihokcmaaGreat
open Go.RowKit
theorem events_any {b:Nat} {fuel:Int} {w:World}:Calls Tryz.prog 22 #[.pointer (some ⟨b,0,none⟩),.int .i64 fuel] w fun e w'=>e=.returned (.func (.func 40) #[] #[.pointer (some ⟨w.heap.size,0,none⟩),.pointer (some ⟨w.heap.size+1,0,none⟩)])∧w'=(w.alloc (.cells #[.pointer (some ⟨b,0,none⟩)] 61)).alloc (.cells #[.int .i64 fuel] 3):=by
 go_enter Tryz.func22,Tryz.ntmps22
 go_wp2
 go_ret
 exact ⟨rfl,rfl⟩
end Go.Proofs.YtocndimihokcmaaGreat
namespace Go.Proofs.YtocndimihokcmaaGreat
open Go.RowKit
theorem wpListIn_loadRow {F:Fence} {n:Nat} {P:Program} {ops:Array Oper} {rest:List Oper} {o:Oper} {a:Act} {w:World} {Q:Exit→Act→World→Prop} (hgd:o.guard=none) (ty:TypeId) (x:Operand) (ho:o.op=.load ty x)
   (g:Nat) (hx:a.eval x=.pointer (some ⟨g,0,none⟩)) (t:TypeId) (cs:Array Value) (fr:Nat×Nat) (d:TypeDesc) (hg:w.heap[g]? = some (.cells cs t fr))
   (hu:P.underlying ty=some d) (hd:(match d with | .struct _ | .array _ _=>true | _=>false)=true) (hi:(P.info? ty).map (·.size)=some cs.size)
   (h:wpListIn F n P ops Q rest (a.put o.dst (.agg cs)) w):wpListIn F n P ops Q (o :: rest) a w:=by
 refine wpListIn_plain hgd fun K hK=>?_
 have hr:=exec_load_row (P:=P) (o:=o) (a:=a) (w:=w) ty x ho g hx cs t fr hg d hu hd hi
 unfold Oper.wpIn
 refine ⟨by simp [Oper.about,ho],?_⟩
 rw [Oper.semAt_plain F _ _ (by rw [ho];intro c hc;cases hc)]
 rw [hr]
 exact hK _ _ h
end Go.Proofs.YtocndimihokcmaaGreat
namespace Go.Proofs.YtocndimihokcmaaGreat
open Go.RowKit
set_option maxRecDepth 100000
attribute [local go_sem] Oper.semAt_some
def runAssign : Code := (Code.region 4 #[{ dst := some 12, op := Op.alloc 56, type := 0, pos := "machine.go:106", after := #[], guard := none }, { dst := none, op := Op.store 56 (Operand.tmp 12) (Operand.tmp 21), type := 0, pos := "machine.go:106", after := #[{ on := 0, ground := Ground.data }, { on := 0, ground := Ground.phase }], guard := none }] false)
def runBody : Code := (Code.block 1 (Code.region 5 #[{ dst := some 22, op := Op.load 33 (Operand.tmp 11), type := 33, pos := "machine.go:107", after := #[], guard := none }, { dst := some 23, op := Op.load 56 (Operand.tmp 12), type := 56, pos := "machine.go:107", after := #[], guard := none }, { dst := some 24, op := Op.buildSlice 33 1 #[(0, Operand.tmp 23)], type := 33, pos := "machine.go:107", after := #[{ on := 1, ground := Ground.data }], guard := none }, { dst := some 25, op := Op.call { callee := Callee.builtin Builtin.append, args := #[Operand.tmp 22, Operand.tmp 24], argTypes := #[33, 33] }, type := 33, pos := "machine.go:107", after := #[{ on := 0, ground := Ground.data }, { on := 2, ground := Ground.data }], guard := none }, { dst := none, op := Op.store 33 (Operand.tmp 11) (Operand.tmp 25), type := 0, pos := "machine.go:107", after := #[{ on := 3, ground := Ground.data }, { on := 3, ground := Ground.chain }, { on := 0, ground := Ground.phase }, { on := 1, ground := Ground.phase }, { on := 2, ground := Ground.phase }, { on := 3, ground := Ground.phase }], guard := none }] false))
def runTm (cv sv pv:Value) (fuel:Int) (w0 b Bs:Nat):Array Value:=#[cv,sv,pv,.int .i64 fuel,undef,.pointer (some ⟨w0,0,none⟩),undef,undef,.pointer (some ⟨w0+1,0,none⟩),.slice none 0 0,.pointer (some ⟨b,0,none⟩),.pointer (some ⟨Bs,0,none⟩),undef,cv,sv,pv,.int .i64 fuel,.pointer (some ⟨b,0,none⟩),.pointer (some ⟨b,0,none⟩),.int .i64 fuel,.func (.func 40) #[] #[.pointer (some ⟨Bs+1,0,none⟩),.pointer (some ⟨Bs+1+1,0,none⟩)],undef,undef,undef,undef,undef,undef,undef,undef,undef,undef]
def runRec (fn:FuncId) (tm:Array Value) (D:Nat) (st:LoopState) (pend:Option Code):Loop:={ state:=st,pending:=pend,fn,tmps:=tm,params:=#[21],assign:=runAssign,body:=runBody,defers:=D }
structure RAt (w0:World) (F:Nat→Prop) (fn:FuncId) (tm:Array Value) (B0 Bs l D:Nat) (pre:List Ev) (W:World):Prop where
 box:∃ v,W.heap[Bs]? = some (.cells #[v] 33 (0,0))∧W.ownsRow B0 56 2 v pre.length (pre.map evRow).flatten
 L:W.heap[l]? = some (.loop (runRec fn tm D .ready none))
 K:W.heap[D]? = some (.deferred (some []))
 chg:Chg (Over F w0.heap.size) w0 W
 le:B0≤W.heap.size
def KxOf (Bs l:Nat) (W:World):Nat→Prop:=fun j=>j=Bs∨j=l∨∃ v,W.heap[Bs]? = some (.cells #[v] 33 (0,0))∧v.ownBlock=some j
theorem chg_putObj {F:Nat→Prop} {w0 W:World} (h:Chg F w0 W) {l:Nat} (hl:F l) (o:Obj):Chg F w0 (W.putObj l o):=⟨h.os,h.tape,h.output,by simpa using h.size,fun k hk hF=>(World.putObj_heap_other (fun e=>hF (by rw [e];exact hl))).trans (h.block k hk hF)⟩
set_option maxHeartbeats 4000000 in
theorem run_yieldAt {w0:World} {F:Nat→Prop} {fn:FuncId} {cv sv pv:Value} {fuel:Int} {b0 b B0 Bs l D N:Nat} (h00:w0.heap.size≤B0) (hBl:Bs≠l) (hDl:D≠l) (hDB:D≠Bs) (h0B:w0.heap.size≤Bs) (h0l:w0.heap.size≤l) (hN:N≤1000000000000) {pre:List Ev} {x:Ev} {W:World} (h:RAt w0 F fn (runTm cv sv pv fuel b0 b Bs) B0 Bs l D pre W) (hlen:pre.length < N) :
   YieldAt Fence.wide 0 Tryz.prog l #[evV x] W fun e W'=>e=.returned (.bool true)∧RAt w0 F fn (runTm cv sv pv fuel b0 b Bs) B0 Bs l D (pre++[x]) W'∧Chg (KxOf Bs l W) W W'∧∀ j,KxOf Bs l W' j→KxOf Bs l W j∨W.heap.size≤j:=by
 obtain ⟨v,hv,hrow⟩:=h.box
 obtain ⟨i0,hi,hz0,hz1,hz2⟩:=info_parts infoEv
 obtain ⟨W1,hW1⟩:∃ W1,W1=W.alloc (.cells #[.int .i64 x.kind,.int .u64 x.addr] 56):=⟨_,rfl⟩
 have hl0:l < W.heap.size:=lt_of_block h.L
 have hL1:W1.heap[l]? = some (.loop (runRec fn (runTm cv sv pv fuel b0 b Bs) D .ready none)):=by rw [hW1];exact (heap_alloc_old W _ hl0).trans h.L
 have hv1:W1.heap[Bs]? = some (.cells #[v] 33 (0,0)):=by rw [hW1];exact (heap_alloc_old W _ (lt_of_block hv)).trans hv
 have hK1:W1.heap[D]? = some (.deferred (some [])):=by rw [hW1];exact (heap_alloc_old W _ (lt_of_block h.K)).trans h.K
 have hE1:W1.heap[W.heap.size]? = some (.cells #[.int .i64 x.kind,.int .u64 x.addr] 56 (0,0)):=by rw [hW1];exact heap_alloc_new W _
 have hrow1:W1.ownsRow B0 56 2 v pre.length (pre.map evRow).flatten:=by rw [hW1];exact hrow.alloc _
 have hch1:Chg (Over F w0.heap.size) w0 W1:=by rw [hW1];exact h.chg.alloc _
 have hcW:Chg (KxOf Bs l W) W W1:=by rw [hW1];exact (Chg.refl _ W).alloc _
 refine ⟨fn,#[cv,sv,pv,.int .i64 fuel,undef,.pointer (some ⟨b0,0,none⟩),undef,undef,.pointer (some ⟨b0+1,0,none⟩),.slice none 0 0,.pointer (some ⟨b,0,none⟩),.pointer (some ⟨Bs,0,none⟩),undef,cv,sv,pv,.int .i64 fuel,.pointer (some ⟨b,0,none⟩),.pointer (some ⟨b,0,none⟩),.int .i64 fuel,.func (.func 40) #[] #[.pointer (some ⟨Bs+1,0,none⟩),.pointer (some ⟨Bs+1+1,0,none⟩)],.agg #[.int .i64 x.kind,.int .u64 x.addr],undef,undef,undef,undef,undef,undef,undef,undef,undef],runAssign,runBody,by simpa [runRec,runTm,evV,evRow] using run_yield (P:=Tryz.prog) (args:=#[evV x]) h.L rfl,roundIn_of_wpIn trivial ?_⟩
 have hbr:=run_beginRound (P:=Tryz.prog) hL1 rfl
 obtain ⟨W2,hW2⟩:∃ W2,W1.putObj l (.loop { runRec fn (runTm cv sv pv fuel b0 b Bs) D .ready none with state:=.busy })=W2:=⟨_,rfl⟩
 rw [hW2] at hbr
 have hl:l < W1.heap.size:=lt_of_block hL1
 have hc2:Chg (KxOf Bs l W) W W2:=by rw [←hW2];exact chg_putObj hcW (.inr (.inl rfl)) _
 have hv2:W2.heap[Bs]? = some (.cells #[v] 33 (0,0)):=by rw [←hW2];exact (World.putObj_heap_other hBl).trans hv1
 have hK2:W2.heap[D]? = some (.deferred (some [])):=by rw [←hW2];exact (World.putObj_heap_other hDl).trans hK1
 have hL2:W2.heap[l]? = some (.loop { runRec fn (runTm cv sv pv fuel b0 b Bs) D .ready none with state:=.busy }):=by rw [←hW2];exact World.putObj_heap_same hl
 have hEl:W.heap.size≠l:=by omega
 have hE2:W2.heap[W.heap.size]? = some (.cells #[.int .i64 x.kind,.int .u64 x.addr] 56 (0,0)):=by rw [←hW2];exact (World.putObj_heap_other hEl).trans hE1
 have hnl:∀ q,v.ownBlock=some q→q≠l∧q≠Bs∧q≠D:=by
   intro q hq
   rcases hrow.2 with ⟨rfl,_⟩ | ⟨g,cap,cur,rfl,_,hgb,_⟩
   · cases hq
   · have hgq:g=q:=by simpa [Value.ownBlock] using hq
     refine ⟨fun e=>?_,fun e=>?_,fun e=>?_⟩
     · rw [hgq,e,h.L] at hgb;cases hgb
     · rw [hgq,e,hv] at hgb;cases hgb
     · rw [hgq,e,h.K] at hgb;cases hgb
 have hrow2:W2.ownsRow B0 56 2 v pre.length (pre.map evRow).flatten:=own_same hrow1 (fun q hq=>by rw [←hW2];exact World.putObj_heap_other (hnl q hq).1)
 have hch2:Chg (Over F w0.heap.size) w0 W2:=by rw [←hW2];exact chg_putObj hch1 (.inr h0l) _
 have hW2':=hW2
 clear hW2
 unfold runAssign
 gi_wp2_with (rw [Oper.semAt_eq _ _ _ (fun c h=>by cases h)];go_simp;try go_bits)
 rw [←hW1]
 refine ⟨W2,hbr,?_⟩
 have hB1:W1.heap.size=W.heap.size+1:=by rw [hW1];simp
 obtain ⟨k1_,k2_⟩:=row2 (x:=.int .i64 x.kind) (y:=.int .u64 x.addr) hE2
 have hcb:W2.cell? ⟨Bs,0,none⟩=some v:=by simp [World.cell?,hv2]
 have hfb:W2.frozen? ⟨Bs,0,none⟩=false:=by simp [World.frozen?,hv2]
 clear hbr hW1
 have hs2:w0.heap.size≤W2.heap.size:=hch2.size
 unfold runBody
 have hle:=h.le
 have hlB:Bs < W.heap.size:=lt_of_block hv
 have hlK:D < W.heap.size:=lt_of_block h.K
 have hB2:W2.heap.size=W.heap.size+1:=by
   have hq:W2.heap.size=W1.heap.size:=by rw [←hW2'];simp
   rw [hq,hB1]
 have HB2:=Lh hB2
 clear hB2 hW2'
 gi_wp2_with (first
   | (gi_at_builtin;go_loud (refine wpListIn_append_own_at _ rfl _ _ 33 rfl B0 56 i0 (.agg #[.int .i64 0,.int .u64 0]) 2 16 Tryz.underlying33 hi hz0 hz1 hz2 rfl (by decide) _ _ _ rfl (hrow2.alloc _) ⟨W2.heap.size,0,none⟩ 1 1 [.int .i64 x.kind,.int .u64 x.addr] rfl rfl (fun j u hj=>by rw [add_plain,Nat.zero_add];exact (cell_at (row:=[.int .i64 x.kind,.int .u64 x.addr]) (heap_alloc_new W2 _) hj).1) (by simp [Value.oneCell']) (by unfold maxLen;omega) (by omega) (by have:=HB2.out;simp;omega) ?_);intro v' w3 hown' hg3 hnil3 hat3
      have hv3:w3.heap[Bs]? = some (.cells #[v] 33 (0,0)):=(hg3.block Bs (by have:=HB2.out;simp;omega) (fun e=>(hnl Bs e.symm).2.1 rfl)).trans ((heap_alloc_old W2 _ (by have:=HB2.out;omega)).trans hv2)
      have hcb3:w3.cell? ⟨Bs,0,none⟩=some v:=by simp [World.cell?,hv3]
      have hfb3:w3.frozen? ⟨Bs,0,none⟩=false:=by simp [World.frozen?,hv3]
      obtain ⟨A',c',rfl,_⟩:=own_formB hown'
      go_frame)
   | (rw [Oper.semAt_eq _ _ _ (fun c h=>by cases h)];go_simp;try go_bits))
 have hB2:=HB2.out
 have hL3:w3.heap[l]? = some (.loop { runRec fn (runTm cv sv pv fuel b0 b Bs) D .ready none with state:=.busy }):=(hg3.block l (by simp;omega) (fun e=>(hnl l e.symm).1 rfl)).trans ((heap_alloc_old W2 _ (by omega)).trans hL2)
 have hK3:w3.heap[D]? = some (.deferred (some [])):=(hg3.block D (by simp;omega) (fun e=>(hnl D e.symm).2.2 rfl)).trans ((heap_alloc_old W2 _ (by omega)).trans hK2)
 have hc3:Chg (KxOf Bs l W) W w3:=(hc2.alloc _).trans' (chg_grown hg3 (F:=fun j=>v.ownBlock=some j) (fun j e=>e)) (fun j _ hj=>.inr (.inr ⟨v,hv,hj⟩))
 have hch3:Chg (Over F w0.heap.size) w0 w3:=(hch2.alloc _).trans' (chg_grown hg3 (F:=fun j=>v.ownBlock=some j) (fun j e=>e)) (fun j _ hj=>.inr (Nat.le_trans h00 (own_ltB hrow j hj).2))
 have hnq:∀ q,(Value.slice A' (pre.length+1) c').ownBlock=some q→q≠Bs∧q≠l∧q≠D∧(v.ownBlock=some q∨W.heap.size≤q):=by
   intro q hq
   rcases hat3 with h1 | h1
   · rw [h1] at hq
     exact ⟨(hnl q hq).2.1,(hnl q hq).1,(hnl q hq).2.2,.inl hq⟩
   · rw [h1] at hq
     have:W2.heap.size+1=q:=by simpa using hq
     omega
 obtain ⟨w4,hw4⟩:∃ w4,w3.setCell ⟨Bs,0,none⟩ (.slice A' (pre.length+1) c')=w4:=⟨_,rfl⟩
 rw [hw4]
 have hv4:w4.heap[Bs]? = some (.cells #[.slice A' (pre.length+1) c'] 33 (0,0)):=by rw [←hw4];exact heap_setCell_row (row:=[v]) hv3 0 _
 have hL4:w4.heap[l]? = some (.loop { runRec fn (runTm cv sv pv fuel b0 b Bs) D .ready none with state:=.busy }):=by rw [←hw4];exact (Below.heap_setCell _ _ _ _ (fun e=>hBl e.symm)).trans hL3
 have hK4:w4.heap[D]? = some (.deferred (some [])):=by rw [←hw4];exact (Below.heap_setCell _ _ _ _ hDB).trans hK3
 have hown4:w4.ownsRow B0 56 2 (.slice A' (pre.length+1) c') (pre.length+1) ((pre.map evRow).flatten++[.int .i64 x.kind,.int .u64 x.addr]):=own_same hown' (fun q hq=>by rw [←hw4];exact Below.heap_setCell _ _ _ _ (hnq q hq).1)
 have hc4:Chg (KxOf Bs l W) W w4:=by rw [←hw4];exact hc3.setCell (p:=⟨Bs,0,none⟩) (.inl (.inl rfl)) _
 have hch4:Chg (Over F w0.heap.size) w0 w4:=by rw [←hw4];exact hch3.setCell (p:=⟨Bs,0,none⟩) (.inl (.inr h0B)) _
 have hl4:l < w4.heap.size:=lt_of_block hL4
 have hc5:=fun o=>chg_putObj hc4 (l:=l) (.inr (.inl rfl)) o
 clear hw4 hg3 hat3
 refine ⟨_,_,run_endRound none hL4,rfl,⟨⟨_,(World.putObj_heap_other hBl).trans hv4,?_⟩,World.putObj_heap_same hl4,(World.putObj_heap_other hDl).trans hK4,chg_putObj hch4 (.inr h0l) _,Nat.le_trans hle (hc5 _).size⟩,hc5 _,?_⟩
 · have h1:=own_same hown4 (w':=w4.putObj l (.loop { { runRec fn (runTm cv sv pv fuel b0 b Bs) D .ready none with state:=.busy } with state:=if (none:Option Code).isNone then .ready else .done,pending:=none })) (fun q hq=>World.putObj_heap_other (hnq q hq).2.1)
   simpa [evRow] using h1
 · rintro j (rfl | rfl | ⟨aC,h1,h2⟩)
   · exact .inl (.inl rfl)
   · exact .inl (.inr (.inl rfl))
   · rw [World.putObj_heap_other hBl,hv4] at h1
     have h4:Value.slice A' (pre.length+1) c'=aC:=by simpa using h1
     rw [←h4] at h2
     rcases (hnq j h2).2.2.2 with h5 | h5
     · exact .inl (.inr (.inr ⟨v,hv,h5⟩))
     · exact .inr h5
end Go.Proofs.YtocndimihokcmaaGreat
