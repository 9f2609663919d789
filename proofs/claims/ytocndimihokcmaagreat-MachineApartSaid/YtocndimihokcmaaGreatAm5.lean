/- Part 5 of a claim; what it proves stands in its last text. -/
import Derived.Test.YtocndimihokcmaaGreatAm2
import Derived.Test.YtocndimihokcmaaGreatAm4
import Derived.Test.YtocndimihokcmaaGreatAm1
import Derived.Deep.DeepCutAuto
import Derived.Outline
import Derived.Laws.Rows
namespace Go.Proofs.YtocndimihokcmaaGreat
open Go.RowKit
set_option maxRecDepth 100000
variable {w:World} {base b:Nat} {x:Stp} {evs:List Ev} {F:Nat→Prop} {rs:List Reg}
def Over (F:Nat→Prop) (base:Nat):Nat→Prop:=fun k=>F k∨base≤k
theorem Over.below {w w':World} (h:Below base w w'):Chg (Over F base) w w':=⟨h.os,h.tape,h.output,h.size,fun k _ hn=>h.block k (by rcases Nat.lt_or_ge k base with h' | h';exact h';exact absurd (.inr h') hn)⟩
set_option maxHeartbeats 400000 in
theorem load_any (h:Run w base b x evs) (hm:MemAt w F x.m rs) (hF:∀ k,F k→k < base) (at_:Nat) (hat:at_ < 18446744073709551616) (hf:evs.length≤90) :
   Calls Tryz.prog 126 #[.pointer (some ⟨b,0,none⟩),.int .u64 at_] w fun e w'=>e=.returned (.int .u64 ((loadVE (loadF rs at_)).1:Nat))∧Below base w w'∧∃ v,Run w' base b { x with e:=(loadVE (loadF rs at_)).2,l:=v } (evs++[⟨2,at_⟩]):=by
 have hl:=Load_any x.m w F rs at_ hat hm (fun k hk=>Nat.lt_of_lt_of_le (hF k hk) h.base_le)
 rw [loadOut_eq] at hl
 generalize (loadVE (loadF rs at_)).1=v at *
 generalize (loadVE (loadF rs at_)).2=ec at *
 have HL:=Lh hl
 have H:=Lh h
 obtain ⟨bm,hp⟩:∃ bm,x.m=.pointer (some ⟨bm,0,none⟩):=by obtain ⟨bm,v,h,_⟩:=hm;exact ⟨bm,h⟩
 obtain ⟨_,_,_,_,_,_,_,_,_,_,_,_,_,c29,_,c31⟩:=h.cells
 have hbl:=h.lt
 have HFEW:=Lh hf
 rw [hp] at c29 HL
 clear h hm hl hf hp
 go_enter Tryz.func126,Tryz.ntmps126
 go_wp2_with fail
 refine HL.out.mono ?_
 rintro e w1 ⟨rfl,hb1⟩
 have c31':=(hb1.cell (p:=⟨b,31,none⟩) hbl).trans c31
 have H1:=Lh (H.out.next hb1)
 have f31:=H1.out.frozen 31
 have HB1:=Lh (hb1.mono H.out.base_le)
 clear hb1 c29 c31
 go_wp2_with fail
 refine (see_any (H1.out.setE ec) 2 at_ HFEW.out).mono ?_
 rintro e w2 ⟨rfl,hb2,aC,hr2⟩
 have HR2:=Lh hr2
 have HB2:=Lh ((HB1.out.setCell H.out.le _).trans hb2)
 clear hr2 hb2 c31' f31
 go_wp2
 go_ret
 exact ⟨rfl,HB2.out,aC,HR2.out⟩
set_option maxHeartbeats 400000 in
theorem store_any (h:Run w base b x evs) (hm:MemAt w F x.m rs) (hF:∀ k,F k→k < base) (at_ v:Nat) (hat:at_ < 18446744073709551616) (hv:v < 18446744073709551616) (hf:evs.length≤90) :
   Calls Tryz.prog 128 #[.pointer (some ⟨b,0,none⟩),.int .u64 at_,.int .u64 v] w fun e w'=>∃ g rs2 vl,e=.returned (.tuple #[])∧StoreSays rs at_ v g rs2∧MemAt w' F x.m rs2∧Chg (Over F base) w w'∧Run w' base b { x with e:=g,l:=vl } (evs++[⟨3,at_⟩]):=by
 have hl:=Store_says x.m w F rs at_ v hat hv hm (fun k hk=>Nat.lt_of_lt_of_le (hF k hk) h.base_le)
 have HL:=Lh hl
 have H:=Lh h
 obtain ⟨bm,hp⟩:∃ bm,x.m=.pointer (some ⟨bm,0,none⟩):=by obtain ⟨bm,v,h,_⟩:=hm;exact ⟨bm,h⟩
 obtain ⟨_,_,_,_,_,_,_,_,_,_,_,_,_,c29,_,_⟩:=h.cells
 have hbl:=h.lt
 have HFEW:=Lh hf
 have HFB:=Lh hF
 rw [hp] at c29 HL
 have HP:=Lh hp
 clear h hm hl hf hp hF
 go_enter Tryz.func128,Tryz.ntmps128
 go_wp2_with fail
 refine HL.out.mono ?_
 rintro e w1 ⟨g,rs2,rfl,hsay,hm2,hc⟩
 have H1:=Lh (H.out.chg hc HFB.out)
 obtain ⟨_,_,_,_,_,_,_,_,_,_,_,_,_,_,_,c31⟩:=H1.out.cells
 have f31:=H1.out.frozen 31
 have HC:=Lh (hc.mono (G:=Over F base) (fun k _ hk=>.inl hk))
 have HS:=Lh hsay
 have HM:=Lh hm2
 clear hc hsay hm2 c29
 go_wp2_with fail
 refine (see_any (H1.out.setE g) 3 at_ HFEW.out).mono ?_
 rintro e w2 ⟨rfl,hb2,aC,hr2⟩
 have hb3:=((Below.refl base w1).setCell H.out.le _).trans hb2
 have HR2:=Lh hr2
 have HB2:=Lh (HC.out.trans (Over.below (F:=F) hb3))
 have HM2:=Lh (HM.out.keep (SameOn.of_below hb3 HFB.out))
 clear hr2 hb2 hb3 c31 f31
 go_wp2
 go_end0
 exact ⟨g,rs2,aC,rfl,HS.out,by rw [HP.out];exact HM2.out,HB2.out,HR2.out⟩
end Go.Proofs.YtocndimihokcmaaGreat
namespace Go.Proofs.YtocndimihokcmaaGreat
open Go.RowKit
set_option maxRecDepth 100000
variable {w:World} {base b:Nat} {x:Stp} {evs:List Ev} {F:Nat→Prop} {rs:List Reg}
theorem wrap_u64 (z:Int):IntKind.u64.wrap z=((u64 z:Nat):Int):=by
 rw [wrapU'];unfold u64;omega
theorem u64_lt (z:Int):u64 z < 18446744073709551616:=by unfold u64;omega
theorem Calls.below {k:Nat} {args:Array Value} {w:World} {v:Value} (h:Calls Tryz.prog k args w fun e w'=>e=.returned v∧w=w'):Calls Tryz.prog k args w fun e w'=>e=.returned v∧Below w.heap.size w w' :=
 h.mono fun _ _ ⟨h1,h2⟩=>⟨h1,by rw [←h2];exact Below.refl _ _⟩
def StAt (w:World) (g:Nat) (s:St):Prop:=w.heap[g]? = some (.cells (stRow s).toArray 26 (0,0))∧StOk s
theorem StAt.reg {g:Nat} {s:St} (h:StAt w g s) {k r:Nat} (hr:s.regs[k]? = some r):w.cell? ⟨g,k,none⟩=some (.int .u64 r):=by
 have hk:=(List.getElem?_eq_some_iff.1 hr).1
 simp only [World.cell?,h.1,List.getElem?_toArray]
 rw [stRow,List.getElem?_append_left (by simpa using hk),List.getElem?_map,hr];rfl
set_option maxHeartbeats 400000 in
theorem of_any (w:World) (g:Nat) (s:St) (h:StAt w g s) (r:Int) :
   Calls Tryz.prog 169 #[.int .i64 r,.pointer (some ⟨g,0,none⟩)] w fun e w'=>e=.returned (.int .u64 (regF s r))∧w=w':=by
 by_cases h0:r < 0
 · have e1:regF s r=0:=by simp [regF,ugly,h0]
   have d1:decide (r < 0)=true:=by simpa using h0
   rw [e1]
   clear h h0 e1
   go_enter Tryz.func169,Tryz.ntmps169
   go_wp2
   go_ret
   exact ⟨rfl,rfl⟩
 · have d1:decide (r < 0)=false:=by simpa using h0
   by_cases h1:16≤r
   · have e1:regF s r=0:=by simp [regF,ugly];omega
     have d2:decide (16≤r)=true:=by simpa using h1
     rw [e1]
     clear h h0 h1 e1
     go_enter Tryz.func169,Tryz.ntmps169
     go_wp2
     go_ret
     exact ⟨rfl,rfl⟩
   · have d2:decide (16≤r)=false:=by simpa using h1
     obtain ⟨k,rfl⟩:∃ k:Nat,r=k:=⟨r.toNat,by omega⟩
     obtain ⟨v,hv⟩:∃ v,s.regs[k]? = some v:=⟨_,List.getElem?_eq_getElem (by rw [h.2.len];omega)⟩
     have e1:regF s k=v:=by
       have:ugly (k:Int)=false:=by simp [ugly];omega
       simp [regF,this,hv]
     have c:=h.reg hv
     have i0:(0:Int)≤(k:Int):=by omega
     have i1:(k:Int) < 16:=by omega
     rw [e1]
     clear h h0 h1 e1 hv
     go_enter Tryz.func169,Tryz.ntmps169
     go_wp2
     go_ret
     exact ⟨rfl,rfl⟩
theorem stAt_new (w:World) (s:St) (h:StOk s):StAt (w.alloc (.cells (stRow s).toArray 26)) w.heap.size s:=⟨heap_alloc_new w _,h⟩
theorem regF_lt {s:St} (h:StOk s) (r:Int):regF s r < 18446744073709551616:=by
 unfold regF
 split
 · decide
 · rcases Nat.lt_or_ge r.toNat s.regs.length with hl | hl
   · rw [List.getD_eq_getElem?_getD,List.getElem?_eq_getElem hl];exact h.regs _ (List.getElem_mem hl)
   · rw [List.getD_eq_getElem?_getD,List.getElem?_eq_none hl];decide
set_option maxHeartbeats 800000 in
theorem Address_any (s:St) (i:Ins) (h:StOk s) (w:World) :
   Calls Tryz.prog 127 #[.agg (stRow s).toArray,.agg #[.int .i64 i.base,.int .i64 i.index,.int .i64 i.scale,.int .i64 i.disp]] w fun e w'=>e=.returned (.int .u64 (addrF s i))∧Below w.heap.size w w':=by
 have hmf:∀ (fn:Fn) (first cap:Array Value) (w:World),(Instr.makeFunc fn first cap).run Tryz.prog w=.ok (.func fn first cap) w:=fun _ _ _ _=>rfl
 obtain ⟨W1,hW1,hb1,hs1,_,_⟩:=boxed w (stRow s).toArray 26
 have hst:StAt W1 w.heap.size s:=by rw [hW1];exact stAt_new w s h
 obtain ⟨W2,hW2,hb2,hs2,hn2,_⟩:=boxed W1 #[.int .i64 i.base,.int .i64 i.index,.int .i64 i.scale,.int .i64 i.disp] 38
 have n0:=hn2 0
 have n1:=hn2 1
 have n2:=hn2 2
 have n3:=hn2 3
 have m0:W1.heap.size < W2.heap.size:=by omega
 have hst2:StAt W2 w.heap.size s:=⟨(hb2.block _ (by omega)).trans hst.1,hst.2⟩
 have HST:=Lh hst2
 have HB:=Lh (hb1.trans (hb2.mono (by omega)))
 have HLT:=Lh (show w.heap.size < W2.heap.size by omega)
 generalize hcs:(stRow s).toArray=cs at *
 have HW1:=Lh hW1
 have HW2:=Lh hW2
 have HS1:=Lh hs1
 have a1:=regF_lt h i.base
 have a2:=regF_lt h i.index
 have aA:=wrap_u64 i.scale
 have aD:=wrap_u64 i.disp
 have e1:IntKind.u64.wrap ((regF s i.index:Int)*(u64 i.scale:Int))=((regF s i.index*u64 i.scale % 18446744073709551616:Nat):Int):=by rw [wrapU'];simp
 generalize hq1:regF s i.index*u64 i.scale % 18446744073709551616=q1 at *
 have e2:IntKind.u64.wrap ((regF s i.base:Int)+(q1:Int))=(((regF s i.base+q1) % 18446744073709551616:Nat):Int):=by rw [wrapU'];omega
 generalize hq2:(regF s i.base+q1) % 18446744073709551616=q2 at *
 have e3:IntKind.u64.wrap ((q2:Int)+(u64 i.disp:Int))=((addrF s i:Nat):Int):=by
   rw [wrapU'];unfold addrF
   have h1:=Nat.add_mod (regF s i.base+regF s i.index*u64 i.scale) (u64 i.disp) 18446744073709551616
   have h2:=Nat.add_mod (regF s i.base) (regF s i.index*u64 i.scale) 18446744073709551616
   omega
 generalize hq3:addrF s i=q3 at *
 have HB1:=Lh (fun w' (hw:Below W2.heap.size W2 w')=>(of_any w' w.heap.size s ⟨(hw.block _ HLT.out).trans HST.out.1,HST.out.2⟩ i.base) |> Calls.below)
 have HB2:=Lh (fun w' (hw:Below W2.heap.size W2 w')=>(of_any w' w.heap.size s ⟨(hw.block _ HLT.out).trans HST.out.1,HST.out.2⟩ i.index) |> Calls.below)
 generalize hr1:regF s i.base=r1 at *
 generalize hr2:regF s i.index=r2 at *
 generalize u64 i.scale=us at *
 generalize u64 i.disp=ud at *
 clear hq1 hq2 hq3 hW1 hW2 hs1 hs2 hn2 hb1 hb2 hst hst2 hcs hr1 hr2 h
 go_enter Tryz.func127,Tryz.ntmps127
 go_wp2
 rw [←HW1.out,←HS1.out,←HW2.out]
 (refine wp_region_lines (Below W2.heap.size W2) (by kernel_rfl) (by kernel_rfl) (Below.refl _ _).drew ?_)
 have hS:=(Below.refl W2.heap.size W2).drew
 (try simp only [])
 repeat (first | (refine runL_no (by rfl) ?_;(try simp only [Act.put,List.setIfInBounds_toArray,List.set_cons_zero,List.set_cons_succ])) | (refine runL_val (v:=?_) (by rfl) ?_ ?_;rotate_left;(focus (intro w_ hw_;have hc_:=bcell hw_;go_simp;(try with_reducible rfl);done));(try simp only [Act.put,List.setIfInBounds_toArray,List.set_cons_zero,List.set_cons_succ])) | (refine runL_call (f:=?_) (args:=?_) (w1:=?_) (by rfl) (by rfl) ?_ ?_;rotate_left 3;(focus (go_simp;refine ⟨⟨?_,?_⟩,?_⟩ <;> with_reducible rfl));with_reducible refine (HB1.out _ hS).mono ?_;rintro e w1 ⟨rfl,hb1⟩;replace hS:=hS.trans (hb1.mono hS.size);refine ⟨_,rfl,.inr hS,?_⟩;clear hb1;(try simp only [Act.put,List.setIfInBounds_toArray,List.set_cons_zero,List.set_cons_succ])) | (refine runL_call (f:=?_) (args:=?_) (w1:=?_) (by rfl) (by rfl) ?_ ?_;rotate_left 3;(focus (go_simp;refine ⟨⟨?_,?_⟩,?_⟩ <;> with_reducible rfl));with_reducible refine (HB2.out _ hS).mono ?_;rintro e w1 ⟨rfl,hb1⟩;replace hS:=hS.trans (hb1.mono hS.size);refine ⟨_,rfl,.inr hS,?_⟩;clear hb1;(try simp only [Act.put,List.setIfInBounds_toArray,List.set_cons_zero,List.set_cons_succ])))
 (refine runL_nil ?_)
 go_wp2
 go_ret
 exact ⟨rfl,HB.out.trans (hS.mono (Nat.le_of_lt HLT.out))⟩
theorem Run.sp {w:World} {base b:Nat} {x:Stp} {evs:List Ev} (h:Run w base b x evs):∃ r,x.st.regs[4]? = some r∧r < 18446744073709551616:=by
 have hl:4 < x.st.regs.length:=by rw [h.ok.len];decide
 exact ⟨_,List.getElem?_eq_getElem hl,h.ok.regs _ (List.getElem_mem hl)⟩
set_option maxHeartbeats 800000 in
theorem pop_any (h:Run w base b x evs) (hm:MemAt w F x.m rs) (hF:∀ k,F k→k < base) (sp:Nat) (hsp:x.st.regs[4]? = some sp) (hf:evs.length≤90) :
   Calls Tryz.prog 130 #[.pointer (some ⟨b,0,none⟩)] w fun e w'=>e=.returned (.int .u64 ((loadVE (loadF rs sp)).1:Nat))∧Below base w w' ∧
     ∃ v,Run w' base b { x with e:=(loadVE (loadF rs sp)).2,l:=v,st:={ x.st with regs:=x.st.regs.set 4 ((sp+8) % 18446744073709551616) } } (evs++[⟨2,sp⟩]):=by
 have hs64:sp < 18446744073709551616:=h.ok.regs _ (List.mem_of_getElem? hsp)
 have HL:=Lh (load_any h hm hF sp hs64 hf)
 have c4:=h.reg hsp
 have HSP:=Lh hsp
 have w8:IntKind.u64.wrap ((sp:Int)+8)=(((sp+8) % 18446744073709551616:Nat):Int):=by rw [wrapU'];omega
 have hlt:(sp+8) % 18446744073709551616 < 18446744073709551616:=Nat.mod_lt _ (by decide)
 generalize (sp+8) % 18446744073709551616=q at *
 have HLT:=Lh hlt
 clear h hm hF hf hsp hlt hs64
 go_enter Tryz.func130,Tryz.ntmps130
 go_wp2_with fail
 refine HL.out.mono ?_
 rintro e w1 ⟨rfl,hb1,v,hr1⟩
 have c4':=hr1.reg HSP.out
 have f4:=hr1.frozen 4
 have HR:=Lh hr1
 have HB:=Lh hb1
 clear hb1 hr1 c4
 go_wp2
 go_region
 go_wp2
 go_ret
 exact ⟨rfl,(HB.out.setCell HR.out.le _).drew,v,(HR.out.setReg (k:=4) (by decide) HLT.out).next ((Below.refl _ _).drew)⟩
def jumpS (s:St) (is:Bool) (imm:Int):St:=if is then { s with pc:=(s.pc+u64 imm) % 18446744073709551616 } else s
set_option maxHeartbeats 800000 in
theorem jump_any (h:Run w base b x evs) (is:Bool) (hf:evs.length≤90) :
   Calls Tryz.prog 131 #[.pointer (some ⟨b,0,none⟩),.bool is] w fun e w'=>e=.returned (.tuple #[])∧Below base w w'∧∃ v,Run w' base b { x with l:=v,st:=jumpS x.st is x.i.imm } (evs++[⟨4,(jumpS x.st is x.i.imm).pc⟩]):=by
 have HFEW:=Lh hf
 obtain ⟨c16,_,_,_,_,_,_,_,_,_,_,_,c28,_,_,_⟩:=h.cells
 cases is with
 | false =>
   have HS:=Lh (see_any h 4 x.st.pc hf)
   clear h hf c28
   go_enter Tryz.func131,Tryz.ntmps131
   go_wp2_with fail
   refine HS.out.mono ?_
   rintro e w1 ⟨rfl,hb1,v,hr1⟩
   have HR:=Lh hr1
   have HB:=Lh hb1
   clear hb1 hr1
   go_wp2
   go_end0
   exact ⟨rfl,HB.out,v,HR.out⟩
 | true =>
   have aA:=wrap_u64 x.i.imm
   have w1:IntKind.u64.wrap ((x.st.pc:Int)+(u64 x.i.imm:Int))=(((x.st.pc+u64 x.i.imm) % 18446744073709551616:Nat):Int):=by rw [wrapU'];omega
   have hlt:(x.st.pc+u64 x.i.imm) % 18446744073709551616 < 18446744073709551616:=Nat.mod_lt _ (by decide)
   have hj:jumpS x.st true x.i.imm={ x.st with pc:=(x.st.pc+u64 x.i.imm) % 18446744073709551616 }:=rfl
   rw [hj]
   generalize (x.st.pc+u64 x.i.imm) % 18446744073709551616=q at *
   have HR:=Lh ((h.setPc hlt).next ((Below.refl _ _).drew))
   have f16:=h.frozen 16
   have HLE:=Lh h.le
   clear h hf hlt hj
   go_enter Tryz.func131,Tryz.ntmps131
   go_wp2
   go_region
   go_wp2_with fail
   refine (see_any HR.out 4 q HFEW.out).mono ?_
   rintro e w2 ⟨rfl,hb1,v,hr1⟩
   have HR2:=Lh hr1
   have HB:=Lh ((((Below.refl _ _).setCell HLE.out _).drew).trans hb1)
   clear hb1 hr1
   go_wp2
   go_end0
   exact ⟨rfl,HB.out,v,HR2.out⟩
end Go.Proofs.YtocndimihokcmaaGreat
namespace Go.Proofs.YtocndimihokcmaaGreat
open Go.RowKit
set_option maxRecDepth 100000
variable {w:World} {base b:Nat} {x:Stp} {evs:List Ev} {F:Nat→Prop} {rs:List Reg}
theorem exec_load {P:Program} {o:Oper} {a:Act} {w:World} (ty:TypeId) (y:Operand) (ho:o.op=.load ty y) (ad:Addr) (hx:a.eval y=.pointer (some ad)) (cs:Array Value) (d:TypeDesc)
   (hu:P.underlying ty=some d) (hd:(match d with | .struct _ | .array _ _=>true | _=>false)=true) (hi:(P.info? ty).map (·.size)=some cs.size)
   (hc:∀ (j:Nat) (v:Value),cs.toList[j]? = some v→w.cell? (ad.add j)=some v):(execOp a.eval o).run P w=.ok (.value (.agg cs)) w:=by
 have hl:(loadCells ad cs.toList.length).run P w=.ok cs.toList.toArray w:=run_loadCells_list (P:=P) w ad cs.toList hc
 have hv:(loadVar ty ad).run P w=.ok (.agg cs) w:=by
   cases hq:P.info? ty with
   | none=>simp [hq] at hi
   | some i =>
     have hs:i.size=cs.size:=by simpa [hq] using hi
     have hagg:(isAgg ty).run P w=.ok true w:=by
       unfold isAgg
       rw [Sem.run_bind,run_underlying hu w]
       cases d <;> simp_all
     simp only [Array.length_toList,Array.toArray_toList] at hl
     simp [loadVar,Sem.run_bind,hagg,sizeOf,typeInfo,hq,hs,hl]
 unfold execOp
 simp only [ho,hx,Instr.loadAt,Instr.sureAddr,Sem.run_bind,Sem.run_pure,Result.andThen_ok,hv]
theorem add_plain (b o j:Nat):Addr.add ⟨b,o,none⟩ j=⟨b,o+j,none⟩:=by unfold Addr.add;split <;> simp_all
theorem Run.loadSt {w:World} (h:Run w base b x evs) {o:Oper} {a:Act} (y:Operand) (ho:o.op=.load 26 y) (hx:a.eval y=.pointer (some ⟨b,0,none⟩)):(execOp a.eval o).run Tryz.prog w=.ok (.value (.agg (stRow x.st).toArray)) w:=by
 refine exec_load _ y ho _ hx _ _ Tryz.underlying26 rfl ?_ fun j v hv=>?_
 · have hl:(stRow x.st).toArray.size=20:=by simp [stRow,h.ok.len]
   have hi:(Tryz.prog.info? 26).map (·.size)=some 20:=by kernel_rfl
   rw [hl];exact hi
 · rw [add_plain,Nat.zero_add,h.get,stpRow,List.getElem?_append_left (List.getElem?_eq_some_iff.1 hv).1];exact hv
theorem Run.loadMem {w:World} (h:Run w base b x evs) {o:Oper} {a:Act} (y:Operand) (ho:o.op=.load 38 y) (hx:a.eval y=.pointer (some ⟨b,24,none⟩)):(execOp a.eval o).run Tryz.prog w=.ok (.value (.agg #[.int .i64 x.i.base,.int .i64 x.i.index,.int .i64 x.i.scale,.int .i64 x.i.disp])) w:=by
 obtain ⟨_,_,_,_,_,_,_,_,c24,c25,c26,c27,_⟩:=h.cells
 refine exec_load _ y ho _ hx _ _ Tryz.underlying38 rfl (by kernel_rfl) fun j v hv=>?_
 rw [add_plain]
 match j,hv with
 | 0,hv=>cases hv;exact c24
 | 1,hv=>cases hv;exact c25
 | 2,hv=>cases hv;exact c26
 | 3,hv=>cases hv;exact c27
def Holds (base b:Nat) (x:Stp) (w_:World):Prop:=∃ (l':Value) (e':Int) (evs':List Ev),Run w_ base b { x with l:=l',e:=e' } evs'
theorem Run.holds {w:World} (h:Run w base b x evs):Holds base b x w:=⟨_,_,_,h⟩
set_option maxHeartbeats 1600000 in
theorem do5 (h:Run w base b x evs) (hop:x.i.op=5) (D:Nat) (hD:x.i.d=D) (hDl:D < 16) :
   Calls Tryz.prog 93 #[.pointer (some ⟨b,0,none⟩)] w fun e w'=>e=.returned (.tuple #[])∧Below base w w'∧Run w' base b { x with st:={ x.st with regs:=x.st.regs.set D (addrF x.st x.i) } } evs:=by
 have c20:=h.cells.2.2.2.2.1
 rw [hop] at c20
 have i0:(0:Int)≤(D:Int):=by omega
 have i1:(D:Int) < 16:=by omega
 have HD:=Lh hD
 have HDL:=Lh hDl
 obtain ⟨d,hd⟩:∃ d,x.st.regs[D]? = some d:=⟨_,List.getElem?_eq_getElem (by rw [h.ok.len];exact hDl)⟩
 have HRD:=Lh hd
 have H:=Lh h
 have HA:=Lh (fun w_=>Address_any x.st x.i h.ok w_)
 clear h hop hD hDl hd
 go_enter Tryz.func93,Tryz.ntmps93
 go_wp2
 (refine wp_region_lines (Holds base b x) (by kernel_rfl) (by kernel_rfl) ((H.out.next ((Below.refl _ _).drew)).holds) ?_)
 (try simp only [])
 repeat (first | (refine runL_no (by rfl) ?_;(try simp only [Act.put,List.setIfInBounds_toArray,List.set_cons_zero,List.set_cons_succ])) | (refine runL_val (v:=?_) (by rfl) ?_ ?_;rotate_left;(focus (intro w_ hw_;obtain ⟨l',e',evs',hr_⟩:=hw_;have k21:=hr_.cells.2.2.2.2.2.1;rw [show ({ x with l:=l',e:=e' }:Stp).i.d=(D:Int) from HD.out] at k21;clear hr_;go_simp;(try with_reducible rfl);done));(try simp only [Act.put,List.setIfInBounds_toArray,List.set_cons_zero,List.set_cons_succ])) | (refine runL_call (f:=?_) (args:=?_) (w1:=?_) (by rfl) (by rfl) ?_ ?_;rotate_left 3;(focus (go_simp;refine ⟨⟨?_,?_⟩,?_⟩ <;> with_reducible rfl));refine (HA.out _).mono ?_;rintro e w1 ⟨rfl,hb1⟩;have H1:=Lh ((H.out.next ((Below.refl _ _).drew)).next hb1);have HB1:=Lh (((Below.refl base w).drew).trans (hb1.mono (H.out.next ((Below.refl _ _).drew)).base_le));have cD1:=H1.out.reg HRD.out;have fD1:=H1.out.frozen D;clear hb1;refine ⟨_,rfl,.inr H1.out.holds,?_⟩;(try simp only [Act.put,List.setIfInBounds_toArray,List.set_cons_zero,List.set_cons_succ])) | (refine runL_val (v:=.agg (stRow x.st).toArray) (by rfl) (fun w_ hw_=>by obtain ⟨l',e',evs',hr_⟩:=hw_;exact hr_.loadSt _ rfl rfl) ?_;(try simp only [Act.put,List.setIfInBounds_toArray,List.set_cons_zero,List.set_cons_succ])) | (refine runL_val (v:=.agg #[.int .i64 x.i.base,.int .i64 x.i.index,.int .i64 x.i.scale,.int .i64 x.i.disp]) (by rfl) (fun w_ hw_=>by obtain ⟨l',e',evs',hr_⟩:=hw_;exact hr_.loadMem _ rfl rfl) ?_;(try simp only [Act.put,List.setIfInBounds_toArray,List.set_cons_zero,List.set_cons_succ])) | (refine runL_skip (w1:=?_) (by rfl) (by rfl) ?_ (.inl ⟨rfl,?_⟩) ?_;rotate_left;(focus (go_simp;(try with_reducible rfl);done));(focus kernel_rfl);(try simp only [Act.put])))
 (refine runL_nil ?_)
 go_wp2
 go_end0
 exact ⟨rfl,HB1.out.setCell H.out.le _,H1.out.setReg HDL.out (by unfold addrF;exact Nat.mod_lt _ (by decide))⟩
set_option maxHeartbeats 1600000 in
theorem do3 (h:Run w base b x evs) (hop:x.i.op=3) (hm:MemAt w F x.m rs) (hF:∀ k,F k→k < base) (hf:evs.length≤80) (D:Nat) (hD:x.i.d=D) (hDl:D < 16) :
   Calls Tryz.prog 93 #[.pointer (some ⟨b,0,none⟩)] w fun e w'=>e=.returned (.tuple #[])∧Below base w w'∧∃ v,Run w' base b { x with e:=(loadVE (loadF rs (addrF x.st x.i))).2,l:=v,st:={ x.st with regs:=x.st.regs.set D (loadVE (loadF rs (addrF x.st x.i))).1 } } (evs++[⟨2,addrF x.st x.i⟩]):=by
 have c20:=h.cells.2.2.2.2.1
 rw [hop] at c20
 have i0:(0:Int)≤(D:Int):=by omega
 have i1:(D:Int) < 16:=by omega
 have HD:=Lh hD
 have HDL:=Lh hDl
 obtain ⟨d,hd⟩:∃ d,x.st.regs[D]? = some d:=⟨_,List.getElem?_eq_getElem (by rw [h.ok.len];exact hDl)⟩
 have HRD:=Lh hd
 have H:=Lh h
 have HM:=Lh hm
 have HFB:=Lh hF
 have HFEW:=Lh (show evs.length≤90 by omega)
 have HA:=Lh (fun w_=>Address_any x.st x.i h.ok w_)
 clear h hop hD hDl hd hm hF hf
 go_enter Tryz.func93,Tryz.ntmps93
 go_wp2
 (refine wp_region_lines (Holds base b x) (by kernel_rfl) (by kernel_rfl) ((H.out.next ((Below.refl _ _).drew)).holds) ?_)
 (try simp only [])
 repeat (first | (refine runL_no (by rfl) ?_;(try simp only [Act.put,List.setIfInBounds_toArray,List.set_cons_zero,List.set_cons_succ])) | (refine runL_val (v:=?_) (by rfl) ?_ ?_;rotate_left;(focus (intro w_ hw_;obtain ⟨l',e',evs',hr_⟩:=hw_;have k21:=hr_.cells.2.2.2.2.2.1;rw [show ({ x with l:=l',e:=e' }:Stp).i.d=(D:Int) from HD.out] at k21;clear hr_;go_simp;(try with_reducible rfl);done));(try simp only [Act.put,List.setIfInBounds_toArray,List.set_cons_zero,List.set_cons_succ])) | (refine runL_call (f:=?_) (args:=?_) (w1:=?_) (by rfl) (by rfl) ?_ ?_;rotate_left 3;(focus (go_simp;refine ⟨⟨?_,?_⟩,?_⟩ <;> with_reducible rfl));refine (HA.out _).mono ?_;rintro e w1 ⟨rfl,hb1⟩;have H1:=Lh ((H.out.next ((Below.refl _ _).drew)).next hb1);have HB1:=Lh (((Below.refl base w).drew).trans (hb1.mono (H.out.next ((Below.refl _ _).drew)).base_le));skip;clear hb1;refine ⟨_,rfl,.inr H1.out.holds,?_⟩;(try simp only [Act.put,List.setIfInBounds_toArray,List.set_cons_zero,List.set_cons_succ])) | (refine runL_call (f:=?_) (args:=?_) (w1:=?_) (by rfl) (by rfl) ?_ ?_;rotate_left 3;(focus (go_simp;refine ⟨⟨?_,?_⟩,?_⟩ <;> with_reducible rfl));refine (load_any H1.out (HM.out.keep (SameOn.of_below HB1.out HFB.out)) HFB.out (addrF x.st x.i) (by unfold addrF;exact Nat.mod_lt _ (by decide)) HFEW.out).mono ?_;rintro e w2 ⟨rfl,hb2,aC,hr2⟩;have H2:=Lh hr2;have HB2:=Lh (HB1.out.trans hb2);have cD2:=H2.out.reg (k:=D) (r:=d) HRD.out;have fD2:=H2.out.frozen D;clear hb2 hr2;refine ⟨_,rfl,.inr ⟨_,_,_,H2.out⟩,?_⟩;(try simp only [Act.put,List.setIfInBounds_toArray,List.set_cons_zero,List.set_cons_succ])) | (refine runL_val (v:=.agg (stRow x.st).toArray) (by rfl) (fun w_ hw_=>by obtain ⟨l',e',evs',hr_⟩:=hw_;exact hr_.loadSt _ rfl rfl) ?_;(try simp only [Act.put,List.setIfInBounds_toArray,List.set_cons_zero,List.set_cons_succ])) | (refine runL_val (v:=.agg #[.int .i64 x.i.base,.int .i64 x.i.index,.int .i64 x.i.scale,.int .i64 x.i.disp]) (by rfl) (fun w_ hw_=>by obtain ⟨l',e',evs',hr_⟩:=hw_;exact hr_.loadMem _ rfl rfl) ?_;(try simp only [Act.put,List.setIfInBounds_toArray,List.set_cons_zero,List.set_cons_succ])) | (refine runL_skip (w1:=?_) (by rfl) (by rfl) ?_ (.inl ⟨rfl,?_⟩) ?_;rotate_left;(focus (go_simp;(try with_reducible rfl);done));(focus kernel_rfl);(try simp only [Act.put])))
 (refine runL_nil ?_)
 go_wp2
 go_end0
 exact ⟨rfl,HB2.out.setCell H.out.le _,aC,H2.out.setReg HDL.out loadF_lt⟩
set_option maxHeartbeats 1600000 in
theorem do4 (h:Run w base b x evs) (hop:x.i.op=4) (hm:MemAt w F x.m rs) (hF:∀ k,F k→k < base) (hf:evs.length≤80) (S:Nat) (hS:x.i.s=S) (hSl:S < 16) (v:Nat) (hv:x.st.regs[S]? = some v) :
   Calls Tryz.prog 93 #[.pointer (some ⟨b,0,none⟩)] w fun e w'=>∃ g rs2 vl,e=.returned (.tuple #[])∧StoreSays rs (addrF x.st x.i) v g rs2∧MemAt w' F x.m rs2∧Chg (Over F base) w w'∧Run w' base b { x with e:=g,l:=vl } (evs++[⟨3,addrF x.st x.i⟩]):=by
 have c20:=h.cells.2.2.2.2.1
 rw [hop] at c20
 have j0:(0:Int)≤(S:Int):=by omega
 have j1:(S:Int) < 16:=by omega
 have HSS:=Lh hS
 have HRS:=Lh hv
 have HV:=Lh (h.ok.regs _ (List.mem_of_getElem? hv))
 have H:=Lh h
 have HM:=Lh hm
 have HFB:=Lh hF
 have HFEW:=Lh (show evs.length≤90 by omega)
 have HA:=Lh (fun w_=>Address_any x.st x.i h.ok w_)
 clear h hop hS hSl hv hm hF hf
 go_enter Tryz.func93,Tryz.ntmps93
 go_wp2
 (refine wp_region_lines (Holds base b x) (by kernel_rfl) (by kernel_rfl) ((H.out.next ((Below.refl _ _).drew)).holds) ?_)
 (try simp only [])
 repeat (first | (refine runL_no (by rfl) ?_;(try simp only [Act.put,List.setIfInBounds_toArray,List.set_cons_zero,List.set_cons_succ])) | (refine runL_val (v:=?_) (by rfl) ?_ ?_;rotate_left;(focus (intro w_ hw_;obtain ⟨l',e',evs',hr_⟩:=hw_;have k22:=hr_.cells.2.2.2.2.2.2.1;rw [show ({ x with l:=l',e:=e' }:Stp).i.s=(S:Int) from HSS.out] at k22;have kS:=hr_.reg (k:=S) (r:=v) HRS.out;clear hr_;go_simp;(try with_reducible rfl);done));(try simp only [Act.put,List.setIfInBounds_toArray,List.set_cons_zero,List.set_cons_succ])) | (refine runL_call (f:=?_) (args:=?_) (w1:=?_) (by rfl) (by rfl) ?_ ?_;rotate_left 3;(focus (go_simp;refine ⟨⟨?_,?_⟩,?_⟩ <;> with_reducible rfl));refine (HA.out _).mono ?_;rintro e w1 ⟨rfl,hb1⟩;have H1:=Lh ((H.out.next ((Below.refl _ _).drew)).next hb1);have HB1:=Lh (((Below.refl base w).drew).trans (hb1.mono (H.out.next ((Below.refl _ _).drew)).base_le));skip;clear hb1;refine ⟨_,rfl,.inr H1.out.holds,?_⟩;(try simp only [Act.put,List.setIfInBounds_toArray,List.set_cons_zero,List.set_cons_succ])) | (refine runL_call (f:=?_) (args:=?_) (w1:=?_) (by rfl) (by rfl) ?_ ?_;rotate_left 3;(focus (go_simp;refine ⟨⟨?_,?_⟩,?_⟩ <;> with_reducible rfl));refine (store_any H1.out (HM.out.keep (SameOn.of_below HB1.out HFB.out)) HFB.out (addrF x.st x.i) v (by unfold addrF;exact Nat.mod_lt _ (by decide)) HV.out HFEW.out).mono ?_;rintro e w2 ⟨g2,rs2,aC,rfl,hsay,hm2,hc2,hr2⟩;have H2:=Lh hr2;have HC2:=Lh ((Over.below (F:=F) HB1.out).trans hc2);have HX2:=Lh (And.intro hsay hm2);clear hsay hm2 hc2 hr2;refine ⟨_,rfl,.inl ⟨rfl,?_⟩,?_⟩;(focus kernel_rfl);(try simp only [Act.put,List.setIfInBounds_toArray,List.set_cons_zero,List.set_cons_succ])) | (refine runL_val (v:=.agg (stRow x.st).toArray) (by rfl) (fun w_ hw_=>by obtain ⟨l',e',evs',hr_⟩:=hw_;exact hr_.loadSt _ rfl rfl) ?_;(try simp only [Act.put,List.setIfInBounds_toArray,List.set_cons_zero,List.set_cons_succ])) | (refine runL_val (v:=.agg #[.int .i64 x.i.base,.int .i64 x.i.index,.int .i64 x.i.scale,.int .i64 x.i.disp]) (by rfl) (fun w_ hw_=>by obtain ⟨l',e',evs',hr_⟩:=hw_;exact hr_.loadMem _ rfl rfl) ?_;(try simp only [Act.put,List.setIfInBounds_toArray,List.set_cons_zero,List.set_cons_succ])))
 (refine runL_nil ?_)
 go_wp2
 go_end0
 exact ⟨g2,rs2,aC,rfl,HX2.out.1,HX2.out.2,HC2.out,H2.out⟩
set_option maxHeartbeats 1600000 in
theorem do30 (h:Run w base b x evs) (hop:x.i.op=30) (hf:evs.length≤80) :
   Calls Tryz.prog 93 #[.pointer (some ⟨b,0,none⟩)] w fun e w'=>e=.returned (.tuple #[])∧Below base w w'∧∃ v,Run w' base b { x with l:=v,st:=jumpS x.st true x.i.imm } (evs++[⟨4,(jumpS x.st true x.i.imm).pc⟩]):=by
 have c20:=h.cells.2.2.2.2.1
 rw [hop] at c20
 have HJ:=Lh (jump_any h true (by omega))
 have c19:=h.cells.2.2.2.1
 have c17:=h.cells.2.1
 clear h hop
 go_enter Tryz.func93,Tryz.ntmps93
 go_wp2_with fail
 refine HJ.out.mono ?_
 rintro e w1 ⟨rfl,hb1,v,hr1⟩
 have HR:=Lh (And.intro hb1 hr1)
 clear hb1 hr1
 go_wp2
 go_end0
 exact ⟨rfl,HR.out.1,v,HR.out.2⟩
set_option maxHeartbeats 1600000 in
theorem do31 (h:Run w base b x evs) (hop:x.i.op=31) (hf:evs.length≤80) :
   Calls Tryz.prog 93 #[.pointer (some ⟨b,0,none⟩)] w fun e w'=>e=.returned (.tuple #[])∧Below base w w'∧∃ v,Run w' base b { x with l:=v,st:=jumpS x.st (!x.st.zf) x.i.imm } (evs++[⟨4,(jumpS x.st (!x.st.zf) x.i.imm).pc⟩]):=by
 have c20:=h.cells.2.2.2.2.1
 rw [hop] at c20
 have HJ:=Lh (jump_any h (!x.st.zf) (by omega))
 have c19:=h.cells.2.2.2.1
 have c17:=h.cells.2.1
 clear h hop
 go_enter Tryz.func93,Tryz.ntmps93
 go_wp2_with fail
 refine HJ.out.mono ?_
 rintro e w1 ⟨rfl,hb1,v,hr1⟩
 have HR:=Lh (And.intro hb1 hr1)
 clear hb1 hr1
 go_wp2
 go_end0
 exact ⟨rfl,HR.out.1,v,HR.out.2⟩
set_option maxHeartbeats 1600000 in
theorem do32 (h:Run w base b x evs) (hop:x.i.op=32) (hf:evs.length≤80) :
   Calls Tryz.prog 93 #[.pointer (some ⟨b,0,none⟩)] w fun e w'=>e=.returned (.tuple #[])∧Below base w w'∧∃ v,Run w' base b { x with l:=v,st:=jumpS x.st x.st.cf x.i.imm } (evs++[⟨4,(jumpS x.st x.st.cf x.i.imm).pc⟩]):=by
 have c20:=h.cells.2.2.2.2.1
 rw [hop] at c20
 have HJ:=Lh (jump_any h x.st.cf (by omega))
 have c19:=h.cells.2.2.2.1
 have c17:=h.cells.2.1
 clear h hop
 go_enter Tryz.func93,Tryz.ntmps93
 go_wp2_with fail
 refine HJ.out.mono ?_
 rintro e w1 ⟨rfl,hb1,v,hr1⟩
 have HR:=Lh (And.intro hb1 hr1)
 clear hb1 hr1
 go_wp2
 go_end0
 exact ⟨rfl,HR.out.1,v,HR.out.2⟩
set_option maxHeartbeats 1600000 in
theorem do29 (h:Run w base b x evs) (hop:x.i.op=29) (hm:MemAt w F x.m rs) (hF:∀ k,F k→k < base) (hf:evs.length≤80) (D:Nat) (hD:x.i.d=D) (hDl:D < 16) (sp:Nat) (hsp:x.st.regs[4]? = some sp) :
   Calls Tryz.prog 93 #[.pointer (some ⟨b,0,none⟩)] w fun e w'=>e=.returned (.tuple #[])∧Below base w w'∧∃ v,Run w' base b { x with e:=(loadVE (loadF rs sp)).2,l:=v,st:={ x.st with regs:=(x.st.regs.set 4 ((sp+8) % 18446744073709551616)).set D (loadVE (loadF rs sp)).1 } } (evs++[⟨2,sp⟩]):=by
 have c20:=h.cells.2.2.2.2.1
 rw [hop] at c20
 have i0:(0:Int)≤(D:Int):=by omega
 have i1:(D:Int) < 16:=by omega
 have HD:=Lh hD
 have HDL:=Lh hDl
 have H:=Lh h
 have HP:=Lh (pop_any (h.next ((Below.refl _ _).drew)) (hm.keep (SameOn.of_below (Below.refl base w).drew hF)) hF sp hsp (by omega))
 have hk21:w.cell? ⟨b,21,none⟩=some (.int .i64 D):=by rw [←hD];exact h.cells.2.2.2.2.2.1
 have HK:=Lh hk21
 clear h hop hD hDl hm hF hf hk21 hsp
 go_enter Tryz.func93,Tryz.ntmps93
 go_wp2
 (refine wp_region_lines (fun w_=>w_.cell? ⟨b,21,none⟩=some (.int .i64 D)) (by kernel_rfl) (by kernel_rfl) HK.out ?_)
 (try simp only [])
 repeat (first | (refine runL_no (by rfl) ?_;(try simp only [Act.put,List.setIfInBounds_toArray,List.set_cons_zero,List.set_cons_succ])) | (refine runL_val (v:=?_) (by rfl) ?_ ?_;rotate_left;(focus (intro w_ hw_;have k21:=hw_;go_simp;(try with_reducible rfl);done));(try simp only [Act.put,List.setIfInBounds_toArray,List.set_cons_zero,List.set_cons_succ])) | (refine runL_call (f:=?_) (args:=?_) (w1:=?_) (by rfl) (by rfl) ?_ ?_;rotate_left 3;(focus (go_simp;refine ⟨⟨?_,?_⟩,?_⟩ <;> with_reducible rfl));refine HP.out.mono ?_;rintro e w1 ⟨rfl,hb1,v,hr1⟩;have HR:=Lh hr1;have HB:=Lh (((Below.refl base w).drew).trans hb1);obtain ⟨dd,hdd⟩:∃ dd,(x.st.regs.set 4 ((sp+8) % 18446744073709551616))[D]? = some dd:=⟨_,List.getElem?_eq_getElem (by have:=hr1.ok.len;have h2:=HDL.out;simp at this ⊢;omega)⟩;have cD1:=hr1.reg (k:=D) (r:=dd) hdd;have fD1:=hr1.frozen D;have k21':w1.cell? ⟨b,21,none⟩=some (.int .i64 D):=by { rw [←HD.out];exact hr1.cells.2.2.2.2.2.1 };clear hb1 hr1 hdd;refine ⟨_,rfl,.inr k21',?_⟩;(try simp only [Act.put,List.setIfInBounds_toArray,List.set_cons_zero,List.set_cons_succ])) | (refine runL_skip (w1:=?_) (by rfl) (by rfl) ?_ (.inl ⟨rfl,?_⟩) ?_;rotate_left;(focus (go_simp;(try with_reducible rfl);done));(focus kernel_rfl);(try simp only [Act.put])))
 (refine runL_nil ?_)
 go_wp2
 go_end0
 exact ⟨rfl,HB.out.setCell H.out.le _,v,HR.out.setReg HDL.out loadF_lt⟩
end Go.Proofs.YtocndimihokcmaaGreat
namespace Go.Proofs.YtocndimihokcmaaGreat
open Go
def tIn (ops:Array Oper) (i:Nat):Bool:=match ops[i]? with | some o=>isT o | none=>false
def pairB (ops:Array Oper) (i j:Nat):Bool:=direct ops i j || direct ops j i || (tIn ops i && tIn ops j) || match ops[i]?,ops[j]? with
 | some x,some y=>x.apart ops y && y.apart ops x
 | _,_=>false
def branchOk (ops:Array Oper):Bool :=
 Region.noSelect ops && (List.range ops.size).all fun j=>(match ops[j]? with | some o=>o.after.all fun e=>!Region.binds .any e || decide (e.on < j) | none=>false) && (List.range ops.size).all fun i=>i == j || pairB ops i j
section
variable {P:Program} {ops:Array Oper} {S:World→Prop} {Q:Act→World→Prop}
def oAt:List Oper→Nat→Option Oper
 | [],_=>none
 | o :: _,0=>some o
 | _ :: l,n+1=>oAt l n
theorem oAt_eq:∀ (l:List Oper) (i:Nat),oAt l i=l[i]?
 | [],_=>rfl
 | _ :: _,0=>rfl
 | _ :: l,n+1=>by rw [oAt,oAt_eq l n];rfl
theorem oAt_get {ops:Array Oper} {i:Nat} {o:Oper} (h:oAt ops.toList i=some o):ops[i]? = some o:=by
 rw [oAt_eq] at h;simpa using h
def nextT (ops:Array Oper) (l:List Nat):List Nat:=l.filter fun j=>tIn ops j && l.all fun k=>!direct ops j k
def stuckB (ops:Array Oper) (l:List Nat):Bool:=l.all fun j=>tIn ops j || l.any fun k=>reaches ops ops.size j k
theorem tdoes_call {o:Oper} {a:Act} {w w1:World} {K:Value→World→Prop} {f:FuncId} {args:Array Value} (hr:(execOp a.eval o).run P w=.ok (.enter f args) w1) (h:Calls P f args w1 fun e w'=>∃ v,e=.returned v∧K v w'):TDoes P o a w K:=by
 unfold TDoes;rw [hr];exact h
theorem tdoes_op {o:Oper} {a:Act} {w w1:World} {K:Value→World→Prop} {v:Value} (hr:(execOp a.eval o).run P w=.ok (.value v) w1) (h:K v w1):TDoes P o a w K:=by
 unfold TDoes;rw [hr];exact h
theorem tdoes_skip {o:Oper} {a:Act} {w w1:World} {K:Value→World→Prop} (hr:(execOp a.eval o).run P w=.ok .skip w1) (h:K undef w1):TDoes P o a w K:=by
 unfold TDoes;rw [hr];exact h
end
end Go.Proofs.YtocndimihokcmaaGreat
namespace Go.Proofs.YtocndimihokcmaaGreat
open Go
def runC (P:Program) (ops:Array Oper) (Q:Act→World→Prop):Nat→(World→Prop)→List Nat→Act→World→Prop
 | 0,_,l,a,w=>l=[]∧Q a w
 | n+1,S,l,a,w =>
   (∃ i∈l,tIn ops i=false∧(∀ k∈l,direct ops i k=false)∧∃ o,ops[i]? = some o∧∃ v,YieldsIf P ops S o v a∧runC P ops Q n S (l.erase i) (a.put o.dst v) w) ∨
   ((∀ j∈l,tIn ops j=false→∃ k∈l,reaches ops ops.size j k=true)∧∀ j∈l,tIn ops j=true→(∀ k∈l,direct ops j k=false) →
     ∃ o,ops[j]? = some o∧Region.wanted o (yielded ops a.tmps)=true∧TDoes P o a w fun v w'=>∃ S':World→Prop,(∀ w,S' w→S w)∧S' w'∧runC P ops Q n S' (l.erase j) (a.put o.dst v) w')
section
variable {P:Program} {ops:Array Oper} {Q:Act→World→Prop}
theorem runC_pull (hns:∀ (j:Nat) (o:Oper) cs b,ops[j]? = some o→o.op≠.select cs b) (hpb:∀ i j,i < ops.size→j < ops.size→i≠j→pairB ops i j=true) {listed:Array Bool} (hc:Closed ops listed) {j:Nat} {oj:Oper} (hj:ops[j]? = some oj) (hjT:tIn ops j=false)
   (hdir:∀ i,direct ops j i=true→listed.getD i false=true) :
   ∀ (n:Nat) (S:World→Prop) (l:List Nat) (a:Act) (w:World),l.Nodup→(∀ i∈l,i < ops.size∧listed.getD i false=false)→j∈l→runC P ops Q n S l a w→S w →
     ∃ v,YieldsIf P ops S oj v a∧∃ m,n=m+1∧runC P ops Q m S (l.erase j) (a.put oj.dst v) w:=by
 intro n
 induction n with
 | zero=>intro S l a w _ _ hjl h;rw [h.1] at hjl;cases hjl
 | succ n ih =>
   intro S l a w hnd hl hjl h hS
   rcases h with ⟨i,hil,hiT,hid,oi,hoi,u,hy,hr⟩ | ⟨hall,_⟩
   · by_cases hij:i=j
     · subst hij
       rw [hj] at hoi
       cases hoi
       exact ⟨u,hy,n,rfl,hr⟩
     · have hji:direct ops j i=false:=by
         cases hd:direct ops j i
         · rfl
         · have:=hdir i hd;rw [(hl i hil).2] at this;cases this
       have hp:=hpb i j (hl i hil).1 (hl j hjl).1 hij
       simp only [pairB,hid j hjl,hji,hiT,Bool.false_and,Bool.false_or,hoi,hj,Bool.and_eq_true] at hp
       obtain ⟨h1,h2,h3⟩:=Oper.apart_spec hp.1
       have hsel:∀ cs b,oj.op≠.select cs b:=fun cs b=>hns j oj cs b hj
       have hseli:∀ cs b,oi.op≠.select cs b:=fun cs b=>hns i oi cs b hoi
       have hjl':j∈l.erase i:=(List.Nodup.mem_erase_iff hnd).2 ⟨Ne.symm hij,hjl⟩
       have hil':i∈l.erase j:=(List.Nodup.mem_erase_iff hnd).2 ⟨hij,hil⟩
       obtain ⟨v,hv,m,hm,hr'⟩:=ih S (l.erase i) _ w (hnd.erase i) (fun k hk=>hl k (List.mem_of_mem_erase hk)) hjl' hr hS
       refine ⟨v,hv.of_same (execOp_put oj hsel a oi.dst u h1).symm (wanted_put oj a oi.dst u h1).symm,n,rfl,?_⟩
       subst hm
       refine .inl ⟨i,hil',hiT,fun k hk=>hid k (List.mem_of_mem_erase hk),oi,hoi,u,hy.of_same (execOp_put oi hseli a oj.dst v h3) (wanted_put oi a oj.dst v h3),?_⟩
       rw [←Act.put_comm a u v h2,List.erase_comm]
       exact hr'
   · exfalso
     obtain ⟨k,hk,hr⟩:=hall j hjl hjT
     have:=reaches_listed hc _ _ _ hr hdir
     rw [(hl k hk).2] at this;cases this
theorem runC_pullT (hns:∀ (j:Nat) (o:Oper) cs b,ops[j]? = some o→o.op≠.select cs b) (hpb:∀ i j,i < ops.size→j < ops.size→i≠j→pairB ops i j=true) {listed:Array Bool} {j:Nat} {oj:Oper} (hj:ops[j]? = some oj) (hjT:tIn ops j=true)
   (hdir:∀ i,direct ops j i=true→listed.getD i false=true) :
   ∀ (n:Nat) (S:World→Prop) (l:List Nat) (a:Act) (w:World),l.Nodup→(∀ i∈l,i < ops.size∧listed.getD i false=false)→j∈l→runC P ops Q n S l a w→S w →
     ∃ m,n=m+1∧wpOp P ops (fun _ _ _=>False) j (fun a' w'=>∃ S':World→Prop,(∀ w,S' w→S w)∧S' w'∧runC P ops Q m S' (l.erase j) a' w') a w:=by
 intro n
 induction n with
 | zero=>intro S l a w _ _ hjl h;rw [h.1] at hjl;cases hjl
 | succ n ih =>
   intro S l a w hnd hl hjl h hS
   have hmin:∀ k∈l,direct ops j k=false:=fun k hk=>by
     cases hd:direct ops j k
     · rfl
     · have:=hdir k hd;rw [(hl k hk).2] at this;cases this
   rcases h with ⟨i,hil,hiT,hid,oi,hoi,u,hy,hr⟩ | ⟨_,hall⟩
   · have hij:i≠j:=fun e=>by rw [e,hjT] at hiT;cases hiT
     have hp:=hpb i j (hl i hil).1 (hl j hjl).1 hij
     simp only [pairB,hid j hjl,hmin i hil,hiT,Bool.false_and,Bool.false_or,hoi,hj,Bool.and_eq_true] at hp
     have hsel:∀ cs b,oj.op≠.select cs b:=fun cs b=>hns j oj cs b hj
     have hseli:∀ cs b,oi.op≠.select cs b:=fun cs b=>hns i oi cs b hoi
     have hjl':j∈l.erase i:=(List.Nodup.mem_erase_iff hnd).2 ⟨Ne.symm hij,hjl⟩
     have hil':i∈l.erase j:=(List.Nodup.mem_erase_iff hnd).2 ⟨hij,hil⟩
     obtain ⟨m,rfl,h1⟩:=ih S (l.erase i) _ w (hnd.erase i) (fun k hk=>hl k (List.mem_of_mem_erase hk)) hjl' hr hS
     refine ⟨m+1,rfl,?_⟩
     have h2:=wpOp_putIf hj hp.1 hseli hsel (fun _ _ _ h=>h) hy h1
     exact wpOp_mono (fun a' w' ⟨hy',S',hle,hS',hr'⟩=>⟨S',hle,hS',.inl ⟨i,hil',hiT,fun k hk=>hid k (List.mem_of_mem_erase hk),oi,hoi,u,hy'.imp (fun h=>⟨h.1,fun w_ hw_=>h.2 w_ (hle w_ hw_)⟩) id,by rw [List.erase_comm];exact hr'⟩⟩) h2
   · obtain ⟨o,ho,hw,hd⟩:=hall j hjl hjT hmin
     rw [hj] at ho
     cases ho
     refine ⟨n,rfl,?_⟩
     unfold wpOp
     simp only [hj,hw,if_true]
     exact .inl (hd.wp fun v w' h=>h)
theorem branch_ordersC (hok:branchOk ops=true) {Q':Exit→Act→World→Prop} (hQ:∀ a w,Q a w→Q' .normal a w) :
   ∀ (n:Nat) (S:World→Prop) (l:List Nat) (listed:Array Bool) (a:Act) (w:World),l.length=n→listed.size=ops.size→Closed ops listed→l.Nodup→(∀ k,k∈l↔k < ops.size∧listed.getD k true=false) →
     runC P ops Q n S l a w→S w→wpAny P .any ops Q' n listed a w:=by
 simp only [branchOk,Bool.and_eq_true,List.all_eq_true,List.mem_range] at hok
 obtain ⟨hns,hall⟩:=hok
 have hsel:=Region.noSelect_spec hns
 have hpb:∀ i j,i < ops.size→j < ops.size→i≠j→pairB ops i j=true:=fun i j hi hj hij=>by
   have:=(hall j hj).2 i hi
   simpa [hij] using this
 have hafter:∀ x,x < ops.size→∀ o,ops[x]? = some o→∀ e∈o.after,Region.binds .any e=true→e.on < x:=fun x hx o ho e he hb=>by
   have hb':=(hall x hx).1
   rw [ho] at hb'
   have:=(Array.all_eq_true_iff_forall_mem.1 hb') e he
   rw [hb] at this
   simpa using this
 intro n
 induction n with
 | zero =>
   intro S l listed a w hn hsz hc hnd hl h _
   obtain rfl:=List.eq_nil_of_length_eq_zero hn
   refine ⟨?_,hQ _ _ h.2⟩
   refine List.eq_nil_iff_forall_not_mem.2 fun k hk=>?_
   obtain ⟨h1,o,ho,_⟩:=mem_ready.1 hk
   have:k < ops.size:=by
     rcases Nat.lt_or_ge k ops.size with h | h
     · exact h
     · rw [Array.getElem?_eq_none h] at ho;cases ho
   exact absurd ((hl k).2 ⟨this,h1⟩) (by simp)
 | succ n ih =>
   intro S l listed a w hn hsz hc hnd hl h hS
   have unl:∀ i∈l,i < ops.size∧listed.getD i false=false:=fun i hi=>by
     have:=(hl i).1 hi
     have hlt':i < listed.size:=by omega
     exact ⟨this.1,by simpa [hlt'] using this.2⟩
   have hlist:∀ k,k < ops.size→k ∉ l→listed.getD k false=true:=fun k hk hkl=>by
     cases hg:listed.getD k false
     · exfalso
       apply hkl
       refine (hl k).2 ⟨hk,?_⟩
       have hlt':k < listed.size:=by omega
       simp [hlt'] at hg ⊢;exact hg
     · rfl
   refine ⟨fun hr=>?_,fun j hj=>?_⟩
   · exfalso
     have hex:∃ x∈l,∀ y∈l,x≤y:=by
       have:∀ (l:List Nat),l≠[]→∃ x∈l,∀ y∈l,x≤y:=by
         intro l
         induction l with
         | nil=>intro h;exact absurd rfl h
         | cons z l ihl =>
           intro _
           by_cases he:l=[]
           · subst he;exact ⟨z,by simp,by simp⟩
           · obtain ⟨x,hx,hm⟩:=ihl he
             by_cases hzx:z≤x
             · exact ⟨z,by simp,fun y hy=>by rcases List.mem_cons.1 hy with rfl | hy;omega;have:=hm y hy;omega⟩
             · exact ⟨x,by simp [hx],fun y hy=>by rcases List.mem_cons.1 hy with rfl | hy;omega;exact hm y hy⟩
       exact this l (by intro e;rw [e] at hn;cases hn)
     obtain ⟨x,hxl,hmin⟩:=hex
     have hx:=(hl x).1 hxl
     have:x∈Region.ready .any ops listed:=by
       have ho:ops[x]? = some (ops[x]'hx.1):=Array.getElem?_eq_getElem hx.1
       refine mem_ready.2 ⟨hx.2,_,ho,fun e he hb=>?_⟩
       have hlt:=hafter x hx.1 _ ho e he hb
       exact hlist e.on (by omega) fun hm=>by have:=hmin _ hm;omega
     rw [hr] at this
     cases this
   · obtain ⟨hjun,oj,hoj,hall'⟩:=mem_ready.1 hj
     have hjs:j < ops.size:=by
       rcases Nat.lt_or_ge j ops.size with h | h
       · exact h
       · rw [Array.getElem?_eq_none h] at hoj;cases hoj
     have hjl:j∈l:=(hl j).2 ⟨hjs,hjun⟩
     have hdir:∀ i,direct ops j i=true→listed.getD i false=true:=fun i hi=>by
       obtain ⟨e,he,hb,rfl⟩:=(direct_iff hoj).1 hi
       exact hall' e he hb
     have main:wpOp P ops (fun _ _ _=>False) j (fun a' w'=>∃ S':World→Prop,(∀ w,S' w→S w)∧S' w'∧runC P ops Q n S' (l.erase j) a' w') a w:=by
       cases hjT:tIn ops j
       · obtain ⟨v,hy,m,hm,hr⟩:=runC_pull hsel hpb hc hoj hjT hdir (n+1) S l a w hnd unl hjl h hS
         cases hm
         exact hy.wpOp hoj hS ⟨S,fun _ h=>h,hS,hr⟩
       · obtain ⟨m,hm,hw⟩:=runC_pullT hsel hpb hoj hjT hdir (n+1) S l a w hnd unl hjl h hS
         cases hm
         exact hw
     refine wpOp_mono (fun a' w' ⟨S',_,hS',hr'⟩=>?_) (wpOp_weaken main)
     refine ih S' (l.erase j) (listed.setIfInBounds j true) a' w' (by rw [List.length_erase_of_mem hjl];omega) (by simpa using hsz) ?_ (hnd.erase j) ?_ hr' hS'
     · intro k o hk hlk e he hb
       by_cases hkj:j=k
       · subst hkj
         rw [hoj] at hk
         cases hk
         exact getD_set_true (hall' e he hb)
       · rw [getD_set_ne false hkj] at hlk
         exact getD_set_true (hc k o hk hlk e he hb)
     · intro k
       rw [List.Nodup.mem_erase_iff hnd,hl k]
       by_cases hkj:j=k
       · subst hkj
         have hlt':j < listed.size:=by omega
         simp [hlt']
       · rw [getD_set_ne true hkj]
         constructor
         · rintro ⟨_,h⟩;exact h
         · intro h;exact ⟨Ne.symm hkj,h⟩
theorem wp_region_grow {id:Nat} {a:Act} {w:World} {Q':Exit→Act→World→Prop} (S:World→Prop) (hm:P.follows .mixedOrders=true) (hok:branchOk ops=true) (hS:S w.drew)
   (h:runC P ops (Q' .normal) ops.size S (List.range ops.size) a w.drew):(Code.region id ops true).wp P Q' a w:=by
 refine wp_region_any hm ?_
 refine branch_ordersC hok (Q':=Q') (fun _ _ h=>h) ops.size S (List.range ops.size) (Array.replicate ops.size false) a w.drew (by simp) (by simp) ?_ List.nodup_range ?_ h hS
 · intro j o ho hl
   have hlt:j < ops.size:=by
     rcases Nat.lt_or_ge j ops.size with h | h
     · exact h
     · rw [Array.getElem?_eq_none h] at ho;cases ho
   simp [hlt] at hl
 · intro k
   simp only [List.mem_range]
   constructor
   · intro h;exact ⟨h,by simp [h]⟩
   · exact fun h=>h.1
end
section
variable {P:Program} {ops:Array Oper} {S:World→Prop} {Q:Act→World→Prop}
theorem runC_nil {a:Act} {w:World} (h:Q a w):runC P ops Q 0 S [] a w:=⟨rfl,h⟩
theorem runC_at {n:Nat} (i:Nat) {l:List Nat} {o:Oper} {a:Act} {w:World} {v:Value} (hi:(l.contains i)=true) (ho:oAt ops.toList i=some o) (hT:tIn ops i=false) (hd:(l.all fun k=>!direct ops i k)=true) (hw:Region.wanted o (yielded ops a.tmps)=true)
   (hv:∀ w,S w→(execOp a.eval o).run P w=.ok (.value v) w) (h:runC P ops Q n S (l.erase i) (a.put o.dst v) w):runC P ops Q (n+1) S l a w :=
 .inl ⟨i,by simpa using hi,hT,fun k hk=>by have:=List.all_eq_true.1 hd k hk;simpa using this,o,oAt_get ho,v,.inl ⟨hw,hv⟩,h⟩
theorem runC_next {n:Nat} {l:List Nat} {a:Act} {w:World} (L:List Nat) (hL:nextT ops l=L) (hs:stuckB ops l=true)
   (h:∀ j∈L,∃ o,ops[j]? = some o∧Region.wanted o (yielded ops a.tmps)=true∧TDoes P o a w fun v w'=>∃ S':World→Prop,(∀ w,S' w→S w)∧S' w'∧runC P ops Q n S' (l.erase j) (a.put o.dst v) w'):runC P ops Q (n+1) S l a w:=by
 refine .inr ⟨fun j hj hT=>?_,fun j hj hT hd=>h j ?_⟩
 · have:=List.all_eq_true.1 hs j hj
   rw [hT,Bool.false_or,List.any_eq_true] at this
   exact this
 · rw [←hL]
   simp only [nextT,List.mem_filter,Bool.and_eq_true,List.all_eq_true,Bool.not_eq_true']
   exact ⟨hj,hT,hd⟩
theorem runC_one {n:Nat} {l:List Nat} {a:Act} {w:World} (j:Nat) (hL:nextT ops l=[j]) (hs:stuckB ops l=true) {o:Oper} (ho:oAt ops.toList j=some o) (hw:Region.wanted o (yielded ops a.tmps)=true)
   (h:TDoes P o a w fun v w'=>∃ S':World→Prop,(∀ w,S' w→S w)∧S' w'∧runC P ops Q n S' (l.erase j) (a.put o.dst v) w'):runC P ops Q (n+1) S l a w :=
 runC_next [j] hL hs fun k hk=>by rw [List.mem_singleton] at hk;subst hk;exact ⟨o,oAt_get ho,hw,h⟩
theorem runC_two {n:Nat} {l:List Nat} {a:Act} {w:World} (j k:Nat) (hL:nextT ops l=[j,k]) (hs:stuckB ops l=true) {o p:Oper} (ho:oAt ops.toList j=some o) (hw:Region.wanted o (yielded ops a.tmps)=true) (hp:oAt ops.toList k=some p) (hwp:Region.wanted p (yielded ops a.tmps)=true)
   (h:TDoes P o a w fun v w'=>∃ S':World→Prop,(∀ w,S' w→S w)∧S' w'∧runC P ops Q n S' (l.erase j) (a.put o.dst v) w') (h':TDoes P p a w fun v w'=>∃ S':World→Prop,(∀ w,S' w→S w)∧S' w'∧runC P ops Q n S' (l.erase k) (a.put p.dst v) w'):runC P ops Q (n+1) S l a w :=
 runC_next [j,k] hL hs fun x hx=>by
   rcases List.mem_cons.1 hx with rfl | hx
   · exact ⟨o,oAt_get ho,hw,h⟩
   · rw [List.mem_singleton] at hx;subst hx;exact ⟨p,oAt_get hp,hwp,h'⟩
theorem sameS {n:Nat} {l:List Nat} {a:Act} {w:World} (hS:S w) (h:runC P ops Q n S l a w):∃ S':World→Prop,(∀ w,S' w→S w)∧S' w∧runC P ops Q n S' l a w:=⟨S,fun _ h=>h,hS,h⟩
theorem moreS {n:Nat} {l:List Nat} {a:Act} {w:World} {S:World→Prop} (R:World→Prop) (hS:S w) (hR:R w) (h:runC P ops Q n (fun w_=>S w_∧R w_) l a w):∃ S':World→Prop,(∀ w,S' w→S w)∧S' w∧runC P ops Q n S' l a w:=⟨fun w_=>S w_∧R w_,fun _ h=>h.1,⟨hS,hR⟩,h⟩
end
end Go.Proofs.YtocndimihokcmaaGreat
