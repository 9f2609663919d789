/- Part 22 of a claim; what it proves stands in its last text. -/
import Derived.Test.YtocndimihokcmaaGreatAm21
import Derived.Test.YtocndimihokcmaaGreatAm13
namespace Go.Proofs.YtocndimihokcmaaGreat
open Go.RowKit
theorem RunAt.mono {code:List UInt8} {m:Value} {b g k k':Nat} {w:World} {s:St} {n err:Int} (h:RunAt code m b g k w s n err) (hk:k≤k'):RunAt code m b g k' w s n err:=by
 obtain ⟨c,D,h1,h2,h3⟩:=h.known
 exact ⟨h.st,h.ne,h.blk,c,D,by omega,h2,h3⟩
def FetSay (code:List UInt8) (m:Value) (b g k:Nat) (w:World) (s:St) (n err:Int) (r:Option (Ins×Nat)) (e:Ending) (w':World):Prop :=
 e=.returned (.tuple #[(match r with | some x=>fetV x | none=>fetZ),.bool r.isSome])∧RunAt code m b g (k+1) w' s n err∧Chg (fun j=>j=g) w w'
theorem rfetch_any {code:List UInt8} {m:Value} {b g k:Nat} {w:World} {s:St} {n err:Int} (h:RunAt code m b g k w s n err) (hl:code.length≤1000000000) (hk:k≤2000000000):Calls Tryz.prog 67 #[.pointer (some ⟨b,0,none⟩)] w (FetSay code m b g k w s n err (fetchF (natsB code) s.pc)):=by
 obtain ⟨c,D,hc,ho,hkn⟩:=h.known
 have hF:=fun w_=>Fetch_any (code:=code) (w:=w_) (pc:=s.pc) hl h.st.pc
 rcases hkn.2 s.pc h.st.pc with hx | ⟨x,hx,hx2⟩
 · cases hf:fetchF (natsB code) s.pc with
   | none =>
     have e:fetchR code s.pc=(insR 0 0 0 0 0,0,11):=by unfold fetchR;rw [hf]
     rw [e] at hF
     refine (fetch_none h ho hx hF).mono ?_
     rintro e_ w' ⟨rfl,hb⟩
     exact ⟨rfl,(h.chg (Chg.of_below (F:=fun _=>False) hb) (fun e=>e) (fun e=>e)).mono (Nat.le_succ _),Chg.of_below hb⟩
   | some x =>
     obtain ⟨I,nn⟩:=x
     have e:fetchR code s.pc=(I,(nn:Int),0):=by unfold fetchR;rw [hf]
     rw [e] at hF
     refine (fetch_new h ho hx hkn (by omega) (by unfold maxLen;omega) hf hF).mono ?_
     rintro e_ w' ⟨rfl,h1,h2⟩
     exact ⟨rfl,h1,h2⟩
 · rw [hx]
   refine (fetch_hit h ho hx2).mono ?_
   rintro e_ w' ⟨rfl,hb⟩
   exact ⟨rfl,(h.chg (Chg.of_below (F:=fun _=>False) hb) (fun e=>e) (fun e=>e)).mono (Nat.le_succ _),Chg.of_below hb⟩
end Go.Proofs.YtocndimihokcmaaGreat
namespace Go.Proofs.YtocndimihokcmaaGreat
open Go.RowKit
set_option maxRecDepth 100000
theorem exec_storeRow {P:Program} {o:Oper} {a:Act} {w:World} (ty:TypeId) (x y:Operand) (ho:o.op=.store ty x y) (g k:Nat) (cells:Array Value) (hx:a.eval x=.pointer (some ⟨g,k,none⟩)) (hy:a.eval y=.agg cells) (t:TypeId) (cur:Array Value) (hg:w.heap[g]? = some (.cells cur t (0,0)))
   (hi:(P.info? ty).map (·.size)=some cells.size) (hfit:k+cells.size≤cur.size) (h1:∀ v∈cells.toList,v.oneCell'=true):(execOp a.eval o).run P w=.ok .skip (w.setRow g (cur.toList.take k++cells.toList++cur.toList.drop (k+cells.size)).toArray):=by
 have hs:(storeVar ty ⟨g,k,none⟩ (.agg cells)).run P w=.ok () (w.setRow g (cur.toList.take k++cells.toList++cur.toList.drop (k+cells.size)).toArray):=by
   have:=run_storeCells_at P g k t cells.toList 0 cur w hg (by simpa using hfit) h1
   cases hq:P.info? ty with
   | none=>simp [hq] at hi
   | some i =>
     have hs:i.size=cells.size:=by simpa [hq] using hi
     simp only [Nat.add_zero,Array.length_toList] at this
     simp [storeVar,sizeOf,typeInfo,hq,Value.cells,hs,this]
 unfold execOp
 simp only [ho,hx,hy,Instr.storeAt,Instr.sureAddr,Sem.run_bind,Sem.run_pure,Result.andThen_ok,hs]
theorem run_setErr {s:St} (hs:StOk s) {n err:Int} {code m:Value} {g:Nat} (e:Int):(runRow s n err code m g).set 21 (.int .i64 e)=runRow s n e code m g:=by
 unfold runRow
 rw [List.set_append_right _ _ (by rw [stRow_len hs];decide),stRow_len hs]
 rfl
theorem run_setN {s:St} (hs:StOk s) {n err:Int} {code m:Value} {g:Nat} (e:Int):(runRow s n err code m g).set 20 (.int .i64 e)=runRow s e err code m g:=by
 unfold runRow
 rw [List.set_append_right _ _ (by rw [stRow_len hs];decide),stRow_len hs]
 rfl
section
variable {code:List UInt8} {m:Value} {b g k:Nat} {w:World} {s:St} {n err:Int}
theorem RunAt.setErr (h:RunAt code m b g k w s n err) (e:Int):RunAt code m b g k (w.setCell ⟨b,21,none⟩ (.int .i64 e)) s n e:=by
 obtain ⟨c,D,h1,h2,h3⟩:=h.known
 exact ⟨h.st,h.ne,(heap_setCell_row h.blk 21 _).trans (by rw [run_setErr h.st]),c,D,h1,own_chgH h2 (Chg.one _) (fun e=>h.ne e.symm),h3⟩
theorem RunAt.setN (h:RunAt code m b g k w s n err) (e:Int):RunAt code m b g k (w.setCell ⟨b,20,none⟩ (.int .i64 e)) s e err:=by
 obtain ⟨c,D,h1,h2,h3⟩:=h.known
 exact ⟨h.st,h.ne,(heap_setCell_row h.blk 20 _).trans (by rw [run_setN h.st]),c,D,h1,own_chgH h2 (Chg.one _) (fun e=>h.ne e.symm),h3⟩
theorem RunAt.setSt (h:RunAt code m b g k w s n err) {s':St} (hs:StOk s'):RunAt code m b g k (w.setRow b (runRow s' n err (strB code) m g).toArray) s' n err:=by
 obtain ⟨c,D,h1,h2,h3⟩:=h.known
 exact ⟨hs,h.ne,setRow_heap _ _ _ _ _ _ h.blk,c,D,h1,own_chgH h2 ((Chg.refl (fun j=>j=b) w).setRow (.inl rfl) _) (fun e=>h.ne e.symm),h3⟩
theorem RunAt.froz (h:RunAt code m b g k w s n err) (q:Nat):w.frozen? ⟨b,q,none⟩=false:=by simp [World.frozen?,h.blk]
end
def NextPost (code:List UInt8) (m:Value) (b g k:Nat) (w:World) (F:Nat→Prop) (s':St) (n' err':Int) (rs':List Reg) (evs:List Ev) (more:Bool) (e:Ending) (w':World):Prop :=
 ∃ v,e=.returned (.tuple #[v,.bool more])∧RunAt code m b g (k+1) w' s' n' err'∧MemAt w' F m rs'∧Chg (fun j=>j=b∨j=g∨F j) w w'∧w'.ownsRow w.heap.size 56 2 v evs.length (evs.map evRow).flatten
set_option maxHeartbeats 4000000 in
theorem next_home {code:List UInt8} {m:Value} {b g k:Nat} {w:World} {s:St} {n fuel:Int} {F:Nat→Prop} {rs:List Reg} (h:RunAt code m b g k w s n 0) (hm:MemAt w F m rs) (hpc:s.pc=1):Calls Tryz.prog 41 #[.pointer (some ⟨b,0,none⟩),.int .i64 fuel] w (NextPost code m b g k w F s n 0 rs [] false):=by
 obtain ⟨c16_,c20_,c21_,c22_,c23_,c24_⟩:=h.cells
 have d1:((s.pc:Int) == 1)=true:=beq_iff_eq.2 (by omega)
 have HH:=Lh h
 have HM:=Lh hm
 clear h hm hpc
 go_enter Tryz.func41,Tryz.ntmps41
 go_wp2
 go_ret2
 exact ⟨_,rfl,HH.out.mono (Nat.le_succ _),HM.out,Chg.refl _ _,by simp,.inl ⟨rfl,rfl⟩⟩
set_option maxHeartbeats 4000000 in
theorem next_full {code:List UInt8} {m:Value} {b g k:Nat} {w:World} {s:St} {n fuel:Int} {F:Nat→Prop} {rs:List Reg} (h:RunAt code m b g k w s n 0) (hm:MemAt w F m rs) (hbF:¬ F b) (hpc:s.pc≠1) (hn:n=fuel):Calls Tryz.prog 41 #[.pointer (some ⟨b,0,none⟩),.int .i64 fuel] w (NextPost code m b g k w F s n 10 rs [] false):=by
 obtain ⟨c16_,c20_,c21_,c22_,c23_,c24_⟩:=h.cells
 have z21_:=h.froz 21
 have d1:((s.pc:Int) == 1)=false:=beq_eq_false_iff_ne.2 (by omega)
 have d2:(n == fuel)=true:=beq_iff_eq.2 hn
 have HH:=Lh h
 have HM:=Lh hm
 clear h hm hpc hn
 go_enter Tryz.func41,Tryz.ntmps41
 go_wp2
 go_ret2
 exact ⟨_,rfl,(HH.out.setErr 10).mono (Nat.le_succ _),HM.out.keep (fun q hq=>Below.heap_setCell _ _ _ _ (fun e=>hbF (by have h9:q=b:=e;rw [←h9];exact hq))),(Chg.refl (fun j=>j=b∨j=g∨F j) w).setCell (p:=⟨b,21,none⟩) (.inl (.inl rfl)) _,by simp,.inl ⟨rfl,rfl⟩⟩
end Go.Proofs.YtocndimihokcmaaGreat
