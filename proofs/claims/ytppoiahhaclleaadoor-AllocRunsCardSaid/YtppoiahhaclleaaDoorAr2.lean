/- Part 2 of a claim; what it proves stands in its last text. -/
import Derived.Test.YtppoiahhaclleaaDoorAr1
import Derived.Deep.DeepCutAuto
import Derived.Outline
namespace Go.Proofs.YtppoiahhaclleaaDoor
def kD (k:Int):Bool:=!(k == 15) && !(k == 17)
def kE (k:Int):Bool:=k == 10 || k == 11 || k == 12
def kA (k:Int):Bool:=!(k == 1) && !(k == 16) && !(k == 17)
def kB (k:Int):Bool:=(decide (3≤k) && decide (k≤7)) || (decide (10≤k) && decide (k≤13)) || k == 15
def kC (k:Int):Bool:=decide (11≤k) && decide (k≤13)
def kM (k:Int):Bool:=k == 14 || k == 15
def regIs (p:LP) (r:Int) (has:Bool):Bool:=if has then decide (0≤r) && decide (r < p.regs) else r == -1
def regsOk (p:LP) (o:LOp):Bool :=
 regIs p o.d (kD o.kind) && (regIs p o.e (kE o.kind) && ((regIs p o.a (kA o.kind) || (kM o.kind && o.a == -1)) && (regIs p o.b (kB o.kind) && regIs p o.c (kC o.kind))))
def numOk (o:LOp):Bool :=
 if o.kind=1 then true
 else if o.kind=8∨o.kind=9 then decide (1≤o.imm) && decide (o.imm≤63)
 else if o.kind=16 then decide (1≤o.imm) && decide (o.imm≤1048576)
 else decide (o.imm=0)
def bufOk (p:LP) (o:LOp):Bool :=
 if kM o.kind then decide (0≤o.buf) && (decide (o.buf < p.bufs.length) && match p.bufs[o.buf.toNat]? with
   | some b=>!(o.kind == 15 && b.kind == 1) && (!(o.a == -1) || decide ((o.imm:Int) < b.size))
   | none=>false)
 else o.buf == 0 && numOk o
def fieldsF (p:LP) (o:LOp):Bool:=decide (1≤o.kind) && (decide (o.kind≤17) && (regsOk p o && (!(kE o.kind && o.d == o.e) && bufOk p o)))
structure CSt where
 made:List Bool
 loops:List Int
def inF (l:List Int) (r:Int):Bool:=decide (0≤r) && l.contains r
def madeF (m:List Bool) (r:Int):Bool:=m.getD r.toNat false
def lackF (m:List Bool) (r:Int):Bool:=decide (0≤r) && !madeF m r
def putF (m:List Bool) (r:Int) (is:Bool):List Bool:=if 0≤r then m.set r.toNat is else m
def opF (p:LP) (o:LOp) (s:CSt):Int×CSt :=
 if fieldsF p o=false then (2,s)
 else if o.kind=17 then if s.loops=[] then (9,s) else (0,⟨putF s.made (s.loops.getLastD 0) false,s.loops.dropLast⟩)
 else if (inF s.loops o.d || inF s.loops o.e || (o.kind == 16 && madeF s.made o.d))=true then (9,s)
 else if o.kind=16∧s.loops.length=8 then (10,s)
 else if (lackF s.made o.a || lackF s.made o.b || lackF s.made o.c)=true then (5,s)
 else (0,⟨putF (putF s.made o.d true) o.e true,if o.kind=16 then s.loops++[o.d] else s.loops⟩)
def runTo (p:LP) (n:Nat):Nat→Int×Nat×CSt
 | 0=>(0,0,⟨List.replicate n false,[]⟩)
 | k+1=>let q:=runTo p n k
   if q.1≠0 then q else match p.ops[k]? with
   | some o=>let r:=opF p o q.2.2
     if r.1≠0 then (r.1,k,r.2) else (0,k+1,r.2)
   | none=>q
def headF (p:LP):Int :=
 if 64 < p.regs∨32 < p.bufs.length∨65536 < p.ops.length then 3
 else if p.bufs.any (fun b=>decide (65536 < b.size))=true then 3
 else if p.regs < 0∨p.bufs.any (fun b=>decide (b.size < 1) || (decide (b.kind < 1) || decide (3 < b.kind)))=true then 2
 else 0
def checkF (p:LP) (n:Nat):Int×Int :=
 if headF p≠0 then (0,headF p) else
 let q:=runTo p n p.ops.length
 if q.1≠0 then (q.2.1,q.1) else if q.2.2.loops≠[] then (p.ops.length,9) else (p.ops.length,0)
structure Alike (p:LP) (s t:CSt):Prop where
 loops:s.loops=t.loops
 made:∀ r:Int,0≤r→r < p.regs→madeF s.made r=madeF t.made r
 ls:p.regs≤s.made.length
 lt:p.regs≤t.made.length
 inr:∀ r∈s.loops,0≤r∧r < p.regs
theorem made_put {m:List Bool} {r q:Int} {b:Bool} (hl:r < m.length) (hq:0≤q):madeF (putF m r b) q=if r=q then b else madeF m q:=by
 unfold putF madeF
 split
 · rename_i h
   rw [List.getD_eq_getElem?_getD,List.getD_eq_getElem?_getD,List.getElem?_set]
   by_cases e:r=q
   · subst e
     rw [if_pos rfl,if_pos rfl,if_pos (by omega)]
     rfl
   · rw [if_neg (by omega),if_neg e]
 · rename_i h
   rw [if_neg (by omega)]
theorem put_len (m:List Bool) (r:Int) (b:Bool):(putF m r b).length=m.length:=by unfold putF;split <;> simp
theorem reg_range {p:LP} {r:Int} {has:Bool} (h:regIs p r has=true) (hr:0≤r):r < p.regs:=by
 unfold regIs at h
 split at h
 · simp only [Bool.and_eq_true,decide_eq_true_eq] at h;exact h.2
 · simp only [beq_iff_eq] at h;omega
structure OpRegs (p:LP) (o:LOp):Prop where
 d:0≤o.d→o.d < p.regs
 e:0≤o.e→o.e < p.regs
 a:0≤o.a→o.a < p.regs
 b:0≤o.b→o.b < p.regs
 c:0≤o.c→o.c < p.regs
theorem op_regs {p:LP} {o:LOp} (h:fieldsF p o=true):OpRegs p o:=by
 unfold fieldsF regsOk at h
 simp only [Bool.and_eq_true] at h
 obtain ⟨_,_,⟨hd,he,ha,hb,hc⟩,_⟩:=h
 refine ⟨reg_range hd,reg_range he,fun h0=>?_,reg_range hb,reg_range hc⟩
 rw [Bool.or_eq_true] at ha
 rcases ha with ha | ha
 · exact reg_range ha h0
 · simp only [Bool.and_eq_true,beq_iff_eq] at ha;omega
theorem loop_d {p:LP} {o:LOp} (h:fieldsF p o=true) (hk:o.kind=16):0≤o.d∧o.d < p.regs:=by
 unfold fieldsF regsOk at h
 simp only [Bool.and_eq_true] at h
 obtain ⟨_,_,⟨hd,_⟩,_⟩:=h
 rw [hk] at hd
 unfold regIs kD at hd
 simpa using hd
theorem lack_alike {p:LP} {s t:CSt} (h:Alike p s t) {r:Int} (hr:0≤r→r < p.regs):lackF s.made r=lackF t.made r:=by
 unfold lackF
 by_cases h0:0≤r
 · rw [h.made r h0 (hr h0)]
 · simp [h0]
theorem op_alike {p:LP} {o:LOp} {s t:CSt} (h:Alike p s t):(opF p o s).1=(opF p o t).1∧((opF p o s).1=0→Alike p (opF p o s).2 (opF p o t).2):=by
 unfold opF
 by_cases hf:fieldsF p o=false
 · rw [if_pos hf,if_pos hf];exact ⟨rfl,fun h=>by cases h⟩
 · rw [if_neg hf,if_neg hf]
   have hf':fieldsF p o=true:=by simpa using hf
   have hr:=op_regs hf'
   by_cases h17:o.kind=17
   · rw [if_pos h17,if_pos h17,←h.loops]
     by_cases hl:s.loops=[]
     · rw [if_pos hl,if_pos hl];exact ⟨rfl,fun h=>by cases h⟩
     · rw [if_neg hl,if_neg hl]
       refine ⟨rfl,fun _=>?_⟩
       have hm:s.loops.getLastD 0∈s.loops:=by
         rw [List.getLastD_eq_getLast?,List.getLast?_eq_some_getLast hl]
         exact List.getLast_mem hl
       obtain ⟨h1,h2⟩:=h.inr _ hm
       refine ⟨rfl,fun r h0 hlt=>?_,by rw [put_len];exact h.ls,by rw [put_len];exact h.lt,fun r hr=>h.inr r ((List.dropLast_sublist _).subset hr)⟩
       have:=h.ls
       have:=h.lt
       simp only
       rw [made_put (by omega) h0,made_put (by omega) h0,h.made r h0 hlt]
   · rw [if_neg h17,if_neg h17,←h.loops]
     have hmd:(o.kind == 16 && madeF s.made o.d)=(o.kind == 16 && madeF t.made o.d):=by
       by_cases h16:o.kind=16
       · obtain ⟨h1,h2⟩:=loop_d hf' h16
         rw [h.made o.d h1 h2]
       · rw [show (o.kind == 16)=false by simpa using h16];rfl
     rw [hmd,lack_alike h hr.a,lack_alike h hr.b,lack_alike h hr.c]
     split
     · exact ⟨rfl,fun h=>by cases h⟩
     · split
       · exact ⟨rfl,fun h=>by cases h⟩
       · split
         · exact ⟨rfl,fun h=>by cases h⟩
         · refine ⟨rfl,fun _=>⟨rfl,fun r h0 hlt=>?_,by simp only [put_len];exact h.ls,by simp only [put_len];exact h.lt,fun r hr'=>?_⟩⟩
           · have h1:=h.ls
             have h2:=h.lt
             have h3:=hr.d
             have h4:=hr.e
             simp only
             have hd1:o.d < s.made.length:=by by_cases e:0≤o.d <;> omega
             have hd2:o.d < t.made.length:=by by_cases e:0≤o.d <;> omega
             have he1:o.e < (putF s.made o.d true).length:=by rw [put_len];by_cases e:0≤o.e <;> omega
             have he2:o.e < (putF t.made o.d true).length:=by rw [put_len];by_cases e:0≤o.e <;> omega
             rw [made_put he1 h0,made_put he2 h0,made_put hd1 h0,made_put hd2 h0,h.made r h0 hlt]
           · simp only at hr'
             split at hr'
             · rename_i h16
               rcases List.mem_append.1 hr' with hr' | hr'
               · exact h.inr r hr'
               · simp only [List.mem_singleton] at hr'
                 subst hr'
                 exact loop_d hf' h16
             · exact h.inr r hr'
theorem run_alike {p:LP} {n m:Nat} (hn:p.regs≤n) (hm:p.regs≤m) (k:Nat):(runTo p n k).1=(runTo p m k).1∧(runTo p n k).2.1=(runTo p m k).2.1∧((runTo p n k).1=0→Alike p (runTo p n k).2.2 (runTo p m k).2.2):=by
 induction k with
 | zero =>
   refine ⟨rfl,rfl,fun _=>⟨rfl,fun r _ _=>?_,by simpa [runTo] using hn,by simpa [runTo] using hm,by simp [runTo]⟩⟩
   simp [runTo,madeF,List.getElem?_replicate]
   split <;> split <;> rfl
 | succ k ih =>
   obtain ⟨h1,h2,h3⟩:=ih
   simp only [runTo]
   rw [←h1]
   by_cases h0:(runTo p n k).1=0
   · have h4:=h3 h0
     rw [if_neg (by simp [h0]),if_neg (by simp [h0])]
     cases ho:p.ops[k]? with
     | none=>exact ⟨h1,h2,h3⟩
     | some o =>
       obtain ⟨h5,h6⟩:=op_alike (o:=o) h4
       simp only
       rw [←h5]
       by_cases h7:(opF p o (runTo p n k).2.2).1=0
       · rw [if_neg (by simp [h7]),if_neg (by simp [h7])]
         exact ⟨rfl,rfl,fun _=>h6 h7⟩
       · rw [if_pos h7,if_pos h7]
         exact ⟨rfl,rfl,fun h=>absurd h h7⟩
   · rw [if_pos h0,if_pos h0]
     exact ⟨h1,h2,h3⟩
theorem check_alike {p:LP} {n m:Nat} (hn:p.regs≤n) (hm:p.regs≤m):checkF p n=checkF p m:=by
 obtain ⟨h1,h2,h3⟩:=run_alike hn hm p.ops.length
 unfold checkF
 simp only
 rw [←h1,←h2]
 split
 · rfl
 · by_cases h0:(runTo p n p.ops.length).1=0
   · rw [(h3 h0).loops]
   · rw [if_pos h0,if_pos h0]
theorem run_err {p:LP} {n:Nat} {k j:Nat} (hk:k≤j) (h:(runTo p n j).1=0):(runTo p n k).1=0:=by
 induction j with
 | zero => obtain rfl : k = 0 := by omega
           exact h
 | succ j ih =>
   by_cases e:k=j+1
   · subst e;exact h
   · refine ih (by omega) ?_
     by_cases h0:(runTo p n j).1=0
     · exact h0
     · simp only [runTo] at h
       rw [if_pos h0] at h
       exact absurd h h0
theorem run_depth {p:LP} {n:Nat} {k:Nat} (hk:k≤p.ops.length) (h:(runTo p n k).1=0):(endsTo p.ops k).2.length=(runTo p n k).2.2.loops.length:=by
 induction k with
 | zero=>rfl
 | succ k ih =>
   obtain ⟨o,ho⟩:∃ o,p.ops[k]? = some o:=⟨_,List.getElem?_eq_getElem (by omega)⟩
   have h0:=run_err (Nat.le_succ k) h
   have ih:=ih (by omega) h0
   simp only [runTo] at h ⊢
   rw [if_neg (by simp [h0]),ho] at h ⊢
   simp only at h ⊢
   simp only [endsTo,ho]
   by_cases h7:(opF p o (runTo p n k).2.2).1=0
   · rw [if_neg (by simp [h7])]
     simp only
     generalize (runTo p n k).2.2=s at *
     generalize endsTo p.ops k=q at *
     unfold opF at h7 ⊢
     unfold endsStep
     by_cases hf:fieldsF p o=false
     · rw [if_pos hf] at h7;cases h7
     · rw [if_neg hf] at h7 ⊢
       by_cases h17:o.kind=17
       · rw [if_pos h17] at h7 ⊢
         rw [if_neg (by omega:¬ o.kind=16),if_pos h17]
         by_cases hl:s.loops=[]
         · rw [if_pos hl] at h7;cases h7
         · rw [if_neg hl]
           have:0 < s.loops.length:=List.length_pos_iff.2 hl
           match hq:q.2,ih with
           | [],ih=>simp at ih;omega
           | a :: l,ih=>simp at ih ⊢;omega
       · rw [if_neg h17] at h7 ⊢
         split at h7
         · cases h7
         · split at h7
           · cases h7
           · split at h7
             · cases h7
             · rename_i g1 g2 g3
               rw [if_neg g1,if_neg g2,if_neg g3]
               by_cases h16:o.kind=16
               · rw [if_pos h16];simp only [h16,if_pos];simp [ih]
               · rw [if_neg h16,if_neg h17];simp only [if_neg h16];exact ih
   · rw [if_pos h7] at h;exact absurd h h7
theorem check_run {p:LP} {n:Nat} (h:(checkF p n).2=0):headF p=0∧(runTo p n p.ops.length).1=0∧(runTo p n p.ops.length).2.2.loops=[]:=by
 unfold checkF at h
 by_cases h1:headF p=0
 · rw [if_neg (by simp [h1])] at h
   simp only at h
   by_cases h2:(runTo p n p.ops.length).1=0
   · rw [if_neg (by simp [h2])] at h
     by_cases h3:(runTo p n p.ops.length).2.2.loops=[]
     · exact ⟨h1,h2,h3⟩
     · rw [if_pos h3] at h;cases h
   · rw [if_pos h2] at h;exact absurd h h2
 · rw [if_pos h1] at h;exact absurd h h1
theorem check_bal {p:LP} {n:Nat} (h:(checkF p n).2=0):Bal p.ops:=by
 obtain ⟨_,h2,h3⟩:=check_run h
 refine ⟨fun k o ho hk=>?_,?_⟩
 · have hlt:=(List.getElem?_eq_some_iff.1 ho).1
   have h4:=run_err (Nat.le_of_lt hlt) h2
   have h5:=run_depth (Nat.le_of_lt hlt) h4
   have h6:=run_err (Nat.succ_le_of_lt hlt) h2
   simp only [runTo] at h6
   rw [if_neg (by simp [h4]),ho] at h6
   simp only at h6
   intro e
   rw [e] at h5
   have hl:(runTo p n k).2.2.loops=[]:=List.eq_nil_of_length_eq_zero h5.symm
   unfold opF at h6
   by_cases hf:fieldsF p o=false
   · simp [hf] at h6
   · rw [if_neg hf,if_pos hk,if_pos hl] at h6
     simp at h6
 · have:=run_depth (Nat.le_refl _) h2
   rw [h3] at this
   exact List.eq_nil_of_length_eq_zero this
end Go.Proofs.YtppoiahhaclleaaDoor
namespace Go.Proofs.YtppoiahhaclleaaDoor
open Go.RowKit
def bufRow (b:Bf):List Value:=[.int .i64 b.size,.int .i64 b.kind,.bool b.secret]
def opRow (o:LOp):List Value:=[.int .i64 o.kind,.int .i64 o.d,.int .i64 o.e,.int .i64 o.a,.int .i64 o.b,.int .i64 o.c,.int .i64 o.buf,.int .u64 o.imm]
def BufsAt (w:World) (F:Nat→Prop) (v:Value) (l:List Bf):Prop:=Rows w F 3 v (l.map bufRow)
def OpsAt (w:World) (F:Nat→Prop) (v:Value) (l:List LOp):Prop:=Rows w F 8 v (l.map opRow)
def NumsAt (w:World) (F:Nat→Prop) (v:Value) (l:List Int):Prop:=Rows w F 1 v (l.map fun x=>[Value.int .i64 x])
theorem rows_form {w:World} {F:Nat→Prop} {sz:Nat} {v:Value} {T:Type} {f:T→List Value} {l:List T} (h:Rows w F sz v (l.map f)):∃ A c,v=.slice A l.length c∧l.length≤c:=by
 obtain ⟨A,c,rfl,hc,_,_⟩:=h
 rw [List.length_map] at hc ⊢
 exact ⟨A,c,rfl,hc⟩
theorem rows_at {w:World} {F:Nat→Prop} {sz:Nat} {A:Option Addr} {n c:Nat} {T:Type} {f:T→List Value} {l:List T} (h:Rows w F sz (.slice A n c) (l.map f)) {k:Nat} {x:T} (hk:l[k]? = some x) :
   ∃ b o,A=some ⟨b,o,none⟩∧F b∧∀ (j:Nat) (u:Value),(f x)[j]? = some u→w.cell? ⟨b,o+k*sz+j,none⟩=some u:=by
 obtain ⟨A',c',hv,hc,hl,hne⟩:=h
 cases hv
 have h1:(l.map f)[k]? = some (f x):=by rw [List.getElem?_map,hk];rfl
 obtain ⟨b,o,rfl,hF,hat⟩:=hne (fun e=>by rw [e] at h1;cases h1)
 exact ⟨b,o,rfl,hF,fun j u hu=>hat k j _ u h1 hu⟩
theorem OpsAt.at_ {w:World} {F:Nat→Prop} {A:Option Addr} {n c:Nat} {l:List LOp} (h:OpsAt w F (.slice A n c) l) {k:Nat} {x:LOp} (hk:l[k]? = some x) :
   ∃ b o,A=some ⟨b,o,none⟩∧F b∧w.cell? ⟨b,o+k*8,none⟩=some (.int .i64 x.kind)∧w.cell? ⟨b,o+k*8+1,none⟩=some (.int .i64 x.d)∧w.cell? ⟨b,o+k*8+2,none⟩=some (.int .i64 x.e) ∧
     w.cell? ⟨b,o+k*8+3,none⟩=some (.int .i64 x.a)∧w.cell? ⟨b,o+k*8+4,none⟩=some (.int .i64 x.b)∧w.cell? ⟨b,o+k*8+5,none⟩=some (.int .i64 x.c)∧w.cell? ⟨b,o+k*8+6,none⟩=some (.int .i64 x.buf) ∧
     w.cell? ⟨b,o+k*8+7,none⟩=some (.int .u64 x.imm):=by
 obtain ⟨b,o,hA,hF,hc⟩:=rows_at h hk
 exact ⟨b,o,hA,hF,hc 0 _ rfl,hc 1 _ rfl,hc 2 _ rfl,hc 3 _ rfl,hc 4 _ rfl,hc 5 _ rfl,hc 6 _ rfl,hc 7 _ rfl⟩
theorem BufsAt.at_ {w:World} {F:Nat→Prop} {A:Option Addr} {n c:Nat} {l:List Bf} (h:BufsAt w F (.slice A n c) l) {k:Nat} {x:Bf} (hk:l[k]? = some x) :
   ∃ b o,A=some ⟨b,o,none⟩∧F b∧w.cell? ⟨b,o+k*3,none⟩=some (.int .i64 x.size)∧w.cell? ⟨b,o+k*3+1,none⟩=some (.int .i64 x.kind)∧w.cell? ⟨b,o+k*3+2,none⟩=some (.bool x.secret):=by
 obtain ⟨b,o,hA,hF,hc⟩:=rows_at h hk
 exact ⟨b,o,hA,hF,hc 0 _ rfl,hc 1 _ rfl,hc 2 _ rfl⟩
theorem NumsAt.at_ {w:World} {F:Nat→Prop} {A:Option Addr} {n c:Nat} {l:List Int} (h:NumsAt w F (.slice A n c) l) {k:Nat} {x:Int} (hk:l[k]? = some x) :
   ∃ b o,A=some ⟨b,o,none⟩∧F b∧w.cell? ⟨b,o+k,none⟩=some (.int .i64 x):=by
 obtain ⟨b,o,hA,hF,hc⟩:=rows_at h hk
 exact ⟨b,o,hA,hF,by simpa using hc 0 _ rfl⟩
structure ProgAt (w:World) (F:Nat→Prop) (cs:List Value) (p:LP):Prop where
 row:∃ vb vo,cs=[.int .i64 p.regs,vb,vo]∧BufsAt w F vb p.bufs∧OpsAt w F vo p.ops
 nb:p.bufs.length≤9223372036854775807
 no:p.ops.length≤9223372036854775807
 imm:∀ o∈p.ops,o.imm < 18446744073709551616
 size:∀ b∈p.bufs,-9223372036854775808≤b.size∧b.size≤9223372036854775807
theorem ProgAt.keep {w w':World} {F:Nat→Prop} {cs:List Value} {p:LP} (h:ProgAt w F cs p) (hk:SameOn F w w'):ProgAt w' F cs p:=by
 obtain ⟨vb,vo,h1,h2,h3⟩:=h.row
 exact ⟨⟨vb,vo,h1,Rows.keep h2 hk,Rows.keep h3 hk⟩,h.nb,h.no,h.imm,h.size⟩
theorem ProgAt.mono {w:World} {F G:Nat→Prop} {cs:List Value} {p:LP} (h:ProgAt w F cs p) (hk:∀ k,F k→G k):ProgAt w G cs p:=by
 obtain ⟨vb,vo,h1,h2,h3⟩:=h.row
 exact ⟨⟨vb,vo,h1,Rows.mono h2 hk,Rows.mono h3 hk⟩,h.nb,h.no,h.imm,h.size⟩
theorem prog_next {w w':World} {cs:List Value} {p:LP} (h:ProgAt w (fun k=>k < w.heap.size) cs p) (hb:Below w.heap.size w w'):ProgAt w' (fun k=>k < w'.heap.size) cs p :=
 (h.keep (SameOn.of_below hb fun _ hk=>hk)).mono fun _ hk=>Nat.lt_of_lt_of_le hk hb.size
end Go.Proofs.YtppoiahhaclleaaDoor
namespace Go.Proofs.YtppoiahhaclleaaDoor
open Go.RowKit
set_option maxRecDepth 100000
def hasV (k:Int):Int×Bool :=
 if k=1 then (1,true)
 else if k=2 then (5,true)
 else if k=3 then (13,true)
 else if k=4 then (13,true)
 else if k=5 then (13,true)
 else if k=6 then (13,true)
 else if k=7 then (13,true)
 else if k=8 then (5,true)
 else if k=9 then (5,true)
 else if k=10 then (15,true)
 else if k=11 then (31,true)
 else if k=12 then (31,true)
 else if k=13 then (29,true)
 else if k=14 then (97,true)
 else if k=15 then (104,true)
 else if k=16 then (1,true)
 else if k=17 then (0,true)
 else (0,false)
theorem kind_cases (k:Int):k=1∨k=2∨k=3∨k=4∨k=5∨k=6∨k=7∨k=8∨k=9∨k=10∨k=11∨k=12∨k=13∨k=14∨k=15∨k=16∨k=17∨(k < 1∨17 < k):=by omega
set_option maxHeartbeats 4000000 in
theorem has_any (k:Int) (w:World):Calls Tryd.prog 77 #[.int .i64 k] w fun e w'=>e=.returned (.tuple #[.int .i64 (hasV k).1,.bool (hasV k).2])∧w=w':=by
 rcases kind_cases k with rfl | rfl | rfl | rfl | rfl | rfl | rfl | rfl | rfl | rfl | rfl | rfl | rfl | rfl | rfl | rfl | rfl | h
 iterate 17
   · go_enter Tryd.func77,Tryd.ntmps77
     go_wp2
     go_ret2
     exact ⟨rfl,rfl⟩
 · have hv:hasV k=(0,false):=by unfold hasV;repeat (rw [if_neg (by omega)])
   rw [hv]
   clear hv
   have e1:(k == 1)=false:=beq_eq_false_iff_ne.2 (by omega)
   have e2:(k == 2)=false:=beq_eq_false_iff_ne.2 (by omega)
   have e3:(k == 3)=false:=beq_eq_false_iff_ne.2 (by omega)
   have e4:(k == 4)=false:=beq_eq_false_iff_ne.2 (by omega)
   have e5:(k == 5)=false:=beq_eq_false_iff_ne.2 (by omega)
   have e6:(k == 6)=false:=beq_eq_false_iff_ne.2 (by omega)
   have e7:(k == 7)=false:=beq_eq_false_iff_ne.2 (by omega)
   have e8:(k == 8)=false:=beq_eq_false_iff_ne.2 (by omega)
   have e9:(k == 9)=false:=beq_eq_false_iff_ne.2 (by omega)
   have e10:(k == 10)=false:=beq_eq_false_iff_ne.2 (by omega)
   have e11:(k == 11)=false:=beq_eq_false_iff_ne.2 (by omega)
   have e12:(k == 12)=false:=beq_eq_false_iff_ne.2 (by omega)
   have e13:(k == 13)=false:=beq_eq_false_iff_ne.2 (by omega)
   have e14:(k == 14)=false:=beq_eq_false_iff_ne.2 (by omega)
   have e15:(k == 15)=false:=beq_eq_false_iff_ne.2 (by omega)
   have e16:(k == 16)=false:=beq_eq_false_iff_ne.2 (by omega)
   have e17:(k == 17)=false:=beq_eq_false_iff_ne.2 (by omega)
   clear h
   go_enter Tryd.func77,Tryd.ntmps77
   go_wp2
   go_ret2
   exact ⟨rfl,rfl⟩
end Go.Proofs.YtppoiahhaclleaaDoor
namespace Go.Proofs.YtppoiahhaclleaaDoor
open Go.RowKit
set_option maxRecDepth 100000
def numP (p:LP) (o:LOp):Bool :=
 if kM o.kind then !(o.a == -1) || match p.bufs[o.buf.toNat]? with
   | some b=>decide ((o.imm:Int) < b.size % 18446744073709551616)
   | none=>false
 else numOk o
theorem two_rows (w:World) (cs:List Value) (o:LOp) (t u:Nat):∃ W,W=(w.alloc (.cells cs.toArray t)).alloc (.cells (opRow o).toArray u)∧Below w.heap.size w W∧W.heap.size=w.heap.size+1+1 ∧
   W.heap[w.heap.size]? = some (.cells cs.toArray t (0,0))∧W.heap[w.heap.size+1]? = some (.cells (opRow o).toArray u (0,0)):=by
 have z1:(w.alloc (.cells cs.toArray t)).heap.size=w.heap.size+1:=by simp
 refine ⟨_,rfl,((Below.refl _ _).alloc (Nat.le_refl _) _).alloc (by simp) _,by simp,?_,?_⟩
 · exact (Below.heap_alloc _ _ _ (by omega)).trans (heap_alloc_new w _)
 · rw [←z1];exact heap_alloc_new _ _
theorem numP_plain {p:LP} {o:LOp} (h:kM o.kind=false):numP p o=numOk o:=by unfold numP;rw [if_neg (by simp [h])]
set_option maxHeartbeats 4000000 in
theorem number_plain (p:LP) (o:LOp) (cs:List Value) (w:World) (h:kM o.kind=false) :
   Calls Tryd.prog 78 #[.agg cs.toArray,.agg (opRow o).toArray] w fun e w'=>e=.returned (.bool (numP p o))∧Below w.heap.size w w':=by
 rw [numP_plain h]
 obtain ⟨W,hW,hbW,hzW,kp,ko⟩:=two_rows w cs o 25 47
 have c0:W.cell? ⟨w.heap.size+1,0,none⟩=some (.int .i64 o.kind):=by simp only [World.cell?,ko];rfl
 have c3:W.cell? ⟨w.heap.size+1,3,none⟩=some (.int .i64 o.a):=by simp only [World.cell?,ko];rfl
 have c6:W.cell? ⟨w.heap.size+1,6,none⟩=some (.int .i64 o.buf):=by simp only [World.cell?,ko];rfl
 have c7:W.cell? ⟨w.heap.size+1,7,none⟩=some (.int .u64 o.imm):=by simp only [World.cell?,ko];rfl
 have HB:=Lh hbW
 have HW:=Lh hW
 obtain ⟨k,hk⟩:∃ k,o.kind=k:=⟨_,rfl⟩
 have hn:numOk o=if k=1 then true else if k=8∨k=9 then decide (1≤o.imm) && decide (o.imm≤63) else if k=16 then decide (1≤o.imm) && decide (o.imm≤1048576) else decide (o.imm=0):=by unfold numOk;rw [hk]
 rw [hk] at h c0
 have h14:k≠14:=fun e=>by rw [e] at h;cases h
 have h15:k≠15:=fun e=>by rw [e] at h;cases h
 rw [hn]
 obtain ⟨m,hm⟩:∃ m,o.imm=m:=⟨_,rfl⟩
 rw [hm] at c7 ⊢
 clear hW hbW hzW kp ko h hk hn hm c3 c6
 by_cases k1:k=1
 · subst k1
   go_enter Tryd.func78,Tryd.ntmps78
   go_upto_region 1 with fail
   rw [←HW.out]
   go_wp2
   go_ret
   exact ⟨rfl,HB.out⟩
 · rw [if_neg k1]
   by_cases k8:k=8∨k=9
   · rw [if_pos k8]
     by_cases m1:1≤m
     · have d1:decide ((1:Int)≤(m:Int))=true:=decide_eq_true (by omega)
       by_cases m2:m≤63
       · have d2:decide ((m:Int)≤63)=true:=decide_eq_true (by omega)
         rw [decide_eq_true m1,decide_eq_true m2]
         clear h14 h15 k1
         rcases k8 with rfl | rfl
         · go_enter Tryd.func78,Tryd.ntmps78
           go_upto_region 1 with fail
           rw [←HW.out]
           go_wp2
           go_ret
           exact ⟨rfl,HB.out⟩
         · go_enter Tryd.func78,Tryd.ntmps78
           go_upto_region 1 with fail
           rw [←HW.out]
           go_wp2
           go_ret
           exact ⟨rfl,HB.out⟩
       · have d2:decide ((m:Int)≤63)=false:=decide_eq_false (by omega)
         rw [decide_eq_true m1,decide_eq_false m2]
         clear h14 h15 k1
         rcases k8 with rfl | rfl
         · go_enter Tryd.func78,Tryd.ntmps78
           go_upto_region 1 with fail
           rw [←HW.out]
           go_wp2
           go_ret
           exact ⟨rfl,HB.out⟩
         · go_enter Tryd.func78,Tryd.ntmps78
           go_upto_region 1 with fail
           rw [←HW.out]
           go_wp2
           go_ret
           exact ⟨rfl,HB.out⟩
     · have d1:decide ((1:Int)≤(m:Int))=false:=decide_eq_false (by omega)
       rw [decide_eq_false m1]
       clear h14 h15 k1
       rcases k8 with rfl | rfl
       · go_enter Tryd.func78,Tryd.ntmps78
         go_upto_region 1 with fail
         rw [←HW.out]
         go_wp2
         go_ret
         exact ⟨rfl,HB.out⟩
       · go_enter Tryd.func78,Tryd.ntmps78
         go_upto_region 1 with fail
         rw [←HW.out]
         go_wp2
         go_ret
         exact ⟨rfl,HB.out⟩
   · rw [if_neg k8]
     by_cases k16:k=16
     · rw [if_pos k16]
       subst k16
       clear h14 h15 k1 k8
       by_cases m1:1≤m
       · have d1:decide ((1:Int)≤(m:Int))=true:=decide_eq_true (by omega)
         by_cases m2:m≤1048576
         · have d2:decide ((m:Int)≤1048576)=true:=decide_eq_true (by omega)
           rw [decide_eq_true m1,decide_eq_true m2]
           go_enter Tryd.func78,Tryd.ntmps78
           go_upto_region 1 with fail
           rw [←HW.out]
           go_wp2
           go_ret
           exact ⟨rfl,HB.out⟩
         · have d2:decide ((m:Int)≤1048576)=false:=decide_eq_false (by omega)
           rw [decide_eq_true m1,decide_eq_false m2]
           go_enter Tryd.func78,Tryd.ntmps78
           go_upto_region 1 with fail
           rw [←HW.out]
           go_wp2
           go_ret
           exact ⟨rfl,HB.out⟩
       · have d1:decide ((1:Int)≤(m:Int))=false:=decide_eq_false (by omega)
         rw [decide_eq_false m1]
         go_enter Tryd.func78,Tryd.ntmps78
         go_upto_region 1 with fail
         rw [←HW.out]
         go_wp2
         go_ret
         exact ⟨rfl,HB.out⟩
     · rw [if_neg k16]
       have e1:(k == 1)=false:=beq_eq_false_iff_ne.2 k1
       have e8:(k == 8)=false:=beq_eq_false_iff_ne.2 (fun e=>k8 (.inl e))
       have e9:(k == 9)=false:=beq_eq_false_iff_ne.2 (fun e=>k8 (.inr e))
       have e16:(k == 16)=false:=beq_eq_false_iff_ne.2 k16
       have e14:(k == 14)=false:=beq_eq_false_iff_ne.2 h14
       have e15:(k == 15)=false:=beq_eq_false_iff_ne.2 h15
       clear h14 h15 k1 k8 k16
       by_cases m0:m=0
       · rw [decide_eq_true m0]
         have d0:((m:Int) == 0)=true:=by simpa using m0
         clear m0
         go_enter Tryd.func78,Tryd.ntmps78
         go_upto_region 1 with fail
         rw [←HW.out]
         go_wp2
         go_ret
         exact ⟨rfl,HB.out⟩
       · rw [decide_eq_false m0]
         have d0:((m:Int) == 0)=false:=by simpa using m0
         clear m0
         go_enter Tryd.func78,Tryd.ntmps78
         go_upto_region 1 with fail
         rw [←HW.out]
         go_wp2
         go_ret
         exact ⟨rfl,HB.out⟩
set_option maxHeartbeats 4000000 in
theorem number_mem (p:LP) (o:LOp) (cs:List Value) (w:World) (hp:ProgAt w (fun k=>k < w.heap.size) cs p) (h:o.kind=14∨o.kind=15) (hb:0≤o.buf∧o.buf < p.bufs.length) :
   Calls Tryd.prog 78 #[.agg cs.toArray,.agg (opRow o).toArray] w fun e w'=>e=.returned (.bool (numP p o))∧Below w.heap.size w w':=by
 obtain ⟨W,hW,hbW,hzW,kp,ko⟩:=two_rows w cs o 25 47
 have c0:W.cell? ⟨w.heap.size+1,0,none⟩=some (.int .i64 o.kind):=by simp only [World.cell?,ko];rfl
 have c3:W.cell? ⟨w.heap.size+1,3,none⟩=some (.int .i64 o.a):=by simp only [World.cell?,ko];rfl
 have c6:W.cell? ⟨w.heap.size+1,6,none⟩=some (.int .i64 o.buf):=by simp only [World.cell?,ko];rfl
 have c7:W.cell? ⟨w.heap.size+1,7,none⟩=some (.int .u64 o.imm):=by simp only [World.cell?,ko];rfl
 obtain ⟨bf,hbf⟩:∃ bf,p.bufs[o.buf.toNat]? = some bf:=⟨_,List.getElem?_eq_getElem (by omega)⟩
 have hn:numP p o=(!(o.a == -1) || decide ((o.imm:Int) < bf.size % 18446744073709551616)):=by
   unfold numP
   rw [if_pos (by unfold kM;rcases h with h | h <;> rw [h] <;> rfl),hbf]
 obtain ⟨vb,vo,rfl,hB,_⟩:=hp.row
 obtain ⟨A,c,rfl,hlen⟩:=rows_form hB
 obtain ⟨b,off,rfl,hF,g0,_⟩:=hB.at_ hbf
 have b0:=hbW.cell (p:=⟨b,off+o.buf.toNat*3,none⟩) hF
 rw [g0] at b0
 have c1:W.cell? ⟨w.heap.size,1,none⟩=some (.slice (some ⟨b,off,none⟩) p.bufs.length c):=by simp only [World.cell?,kp];rfl
 rw [hn]
 have hnb:=hp.nb
 have l0:w.heap.size < W.heap.size:=by omega
 have l1:w.heap.size+1 < W.heap.size:=by omega
 have l2:b < W.heap.size:=by omega
 clear hn kp ko hzW hB g0 hlen hbf hp
 obtain ⟨q,hq⟩:∃ q:Nat,o.buf=q:=⟨o.buf.toNat,by omega⟩
 rw [hq] at b0 c6 hb
 simp only [Int.toNat_natCast] at b0
 obtain ⟨m,hm⟩:∃ m,o.imm=m:=⟨_,rfl⟩
 obtain ⟨z,hz⟩:∃ z,bf.size=z:=⟨_,rfl⟩
 obtain ⟨a,ha⟩:∃ a,o.a=a:=⟨_,rfl⟩
 rw [hm] at c7 ⊢
 rw [hz] at b0 ⊢
 rw [ha] at c3 ⊢
 generalize p.bufs.length=n at *
 have HB:=Lh hbW
 have HW:=Lh hW
 have LB:=Lh hF
 obtain ⟨r,hr⟩:∃ r,z % 18446744073709551616=r:=⟨_,rfl⟩
 rw [hr]
 have e64:IntKind.u64.wrap z=r:=by rw [←hr];simp [IntKind.wrap,IntKind.bits,IntKind.signed]
 have q0:(0:Int)≤(q:Int):=by omega
 have q1:(q:Int) < (n:Int):=by omega
 clear hW hq hm hz ha hr hb hF hbW
 by_cases h1:a = -1
 · subst h1
   have d1:((-1:Int) != -1)=false:=rfl
   rw [show (!((-1:Int) == -1) || decide ((m:Int) < r))=decide ((m:Int) < r) from rfl]
   rcases h with h | h
   · rw [h] at c0
     clear h
     go_enter Tryd.func78,Tryd.ntmps78
     go_upto_region 1 with fail
     rw [←HW.out]
     go_wp2
     (refine wp_region_lines (Below W.heap.size W) (by kernel_rfl) (by kernel_rfl) (Below.refl _ _).drew ?_)
     have hS:=(Below.refl W.heap.size W).drew
     (try simp only [])
     repeat (first | (refine runL_no (by rfl) ?_;(try simp only [Act.put,List.setIfInBounds_toArray,List.set_cons_zero,List.set_cons_succ])) | (refine runL_val (v:=?_) (by rfl) ?_ ?_;rotate_left;(focus (intro w_ hw_;have hc_:=bcell hw_;go_simp;(try with_reducible rfl);done));(try simp only [Act.put,List.setIfInBounds_toArray,List.set_cons_zero,List.set_cons_succ])))
     (refine runL_nil ?_)
     go_wp2
     go_ret
     exact ⟨rfl,HB.out.trans (hS.mono HB.out.size)⟩
   · rw [h] at c0
     clear h
     go_enter Tryd.func78,Tryd.ntmps78
     go_upto_region 1 with fail
     rw [←HW.out]
     go_wp2
     (refine wp_region_lines (Below W.heap.size W) (by kernel_rfl) (by kernel_rfl) (Below.refl _ _).drew ?_)
     have hS:=(Below.refl W.heap.size W).drew
     (try simp only [])
     repeat (first | (refine runL_no (by rfl) ?_;(try simp only [Act.put,List.setIfInBounds_toArray,List.set_cons_zero,List.set_cons_succ])) | (refine runL_val (v:=?_) (by rfl) ?_ ?_;rotate_left;(focus (intro w_ hw_;have hc_:=bcell hw_;go_simp;(try with_reducible rfl);done));(try simp only [Act.put,List.setIfInBounds_toArray,List.set_cons_zero,List.set_cons_succ])))
     (refine runL_nil ?_)
     go_wp2
     go_ret
     exact ⟨rfl,HB.out.trans (hS.mono HB.out.size)⟩
 · have d1:(a != -1)=true:=by simpa using h1
   rw [show (!(a == -1) || decide ((m:Int) < r))=true by rw [show (a == -1)=false by simpa using h1];rfl]
   rcases h with h | h
   · rw [h] at c0
     clear h h1
     go_enter Tryd.func78,Tryd.ntmps78
     go_upto_region 1 with fail
     rw [←HW.out]
     go_wp2
     (refine wp_region_lines (Below W.heap.size W) (by kernel_rfl) (by kernel_rfl) (Below.refl _ _).drew ?_)
     have hS:=(Below.refl W.heap.size W).drew
     (try simp only [])
     repeat (first | (refine runL_no (by rfl) ?_;(try simp only [Act.put,List.setIfInBounds_toArray,List.set_cons_zero,List.set_cons_succ])) | (refine runL_val (v:=?_) (by rfl) ?_ ?_;rotate_left;(focus (intro w_ hw_;have hc_:=bcell hw_;go_simp;(try with_reducible rfl);done));(try simp only [Act.put,List.setIfInBounds_toArray,List.set_cons_zero,List.set_cons_succ])))
     (refine runL_nil ?_)
     go_wp2
     go_ret
     exact ⟨rfl,HB.out.trans (hS.mono HB.out.size)⟩
   · rw [h] at c0
     clear h h1
     go_enter Tryd.func78,Tryd.ntmps78
     go_upto_region 1 with fail
     rw [←HW.out]
     go_wp2
     (refine wp_region_lines (Below W.heap.size W) (by kernel_rfl) (by kernel_rfl) (Below.refl _ _).drew ?_)
     have hS:=(Below.refl W.heap.size W).drew
     (try simp only [])
     repeat (first | (refine runL_no (by rfl) ?_;(try simp only [Act.put,List.setIfInBounds_toArray,List.set_cons_zero,List.set_cons_succ])) | (refine runL_val (v:=?_) (by rfl) ?_ ?_;rotate_left;(focus (intro w_ hw_;have hc_:=bcell hw_;go_simp;(try with_reducible rfl);done));(try simp only [Act.put,List.setIfInBounds_toArray,List.set_cons_zero,List.set_cons_succ])))
     (refine runL_nil ?_)
     go_wp2
     go_ret
     exact ⟨rfl,HB.out.trans (hS.mono HB.out.size)⟩
end Go.Proofs.YtppoiahhaclleaaDoor
namespace Go.Proofs.YtppoiahhaclleaaDoor
open Go.RowKit
set_option maxRecDepth 100000
set_option maxHeartbeats 4000000 in
theorem Rfield_any (p:LP) (vb vo:Value) (r:Int) (has:Bool) (w:World) :
   Calls Tryd.prog 47 #[.agg #[.int .i64 p.regs,vb,vo],.int .i64 r,.bool has] w fun e w'=>e=.returned (.bool (regIs p r has))∧Below w.heap.size w w':=by
 obtain ⟨n,hn⟩:∃ n,p.regs=n:=⟨_,rfl⟩
 have hr:regIs p r has=if has then decide (0≤r) && decide (r < n) else r == -1:=by unfold regIs;rw [hn]
 rw [hr,hn]
 clear hr hn
 cases has
 · go_enter Tryd.func47,Tryd.ntmps47
   go_wp2
   go_ret
   exact ⟨rfl,(Below.refl _ _).alloc (Nat.le_refl _) _⟩
 · by_cases h0:0≤r
   · have d0:decide (0≤r)=true:=decide_eq_true h0
     go_enter Tryd.func47,Tryd.ntmps47
     go_wp2
     go_ret
     exact ⟨rfl,(Below.refl _ _).alloc (Nat.le_refl _) _⟩
   · have d0:decide (0≤r)=false:=decide_eq_false h0
     go_enter Tryd.func47,Tryd.ntmps47
     go_wp2
     go_ret
     exact ⟨rfl,(Below.refl _ _).alloc (Nat.le_refl _) _⟩
theorem contains_take {l:List Int} {r:Int} {k:Nat} {x:Int} (h:(l.take k).contains r=false) (hx:l[k]? = some x) (hne:(x == r)=false):(l.take (k+1)).contains r=false:=by
 rw [List.take_add_one,hx]
 simp only [Option.toList_some,List.contains_eq_mem,List.mem_append,List.mem_singleton,decide_eq_false_iff_not,not_or] at h ⊢
 exact ⟨h,fun e=>by rw [e] at hne;simp at hne⟩
set_option maxHeartbeats 4000000 in
theorem Rin_any (v:Value) (r:Int) (w:World) (F:Nat→Prop) (l:List Int) (hn:l.length≤9223372036854775807) (h:NumsAt w F v l) :
   Calls Tryd.prog 30 #[v,.int .i64 r] w fun e w'=>e=.returned (.bool (l.contains r))∧w=w':=by
 obtain ⟨A,c,rfl,_⟩:=rows_form h
 have H:=Lh h
 clear h
 obtain ⟨q,hq⟩:∃ q,l.contains r=q:=⟨_,rfl⟩
 rw [hq]
 have HQ:=Lh hq
 clear hq
 generalize hl:l.length=n at *
 have HL:=Lh hl
 clear hl
 go_enter Tryd.func30,Tryd.ntmps30
 go_wp2
 go_loop [5] (fun i=>∃ k:Nat,k≤n∧i=.int .i64 k∧Hid ((l.take k).contains r=false)) (fun i=>n - (intOf i).toNat)
 case atStart=>exact ⟨0,by omega,rfl,Lh (by simp)⟩
 case round =>
   obtain ⟨k,hk,rfl,HT⟩:=hrel
   by_cases hlt:k < n
   · obtain ⟨x,hx⟩:∃ x,l[k]? = some x:=⟨_,List.getElem?_eq_getElem (by have:=HL.out;omega)⟩
     have HX:=Lh hx
     obtain ⟨b,o,rfl,_,hc⟩:=H.out.at_ hx
     clear hx
     have i0:(0:Int)≤(k:Int):=by omega
     have i1:(k:Int) < (n:Int):=by omega
     cases he:(x == r)
     · have HN:=Lh (contains_take HT.out HX.out he)
       go_wp2
       go_round
       case rel=>exact ⟨k+1,by omega,by go_num,HN⟩
       case measure=>simp [intOf];omega
     · have HE:=Lh he
       go_wp2
       go_ret
       refine ⟨ret_bool ?_,rfl⟩
       have:x=r:=by simpa using HE.out
       subst this
       rw [←HQ.out,List.contains_eq_mem]
       exact (decide_eq_true (List.mem_of_getElem? HX.out)).symm
   · go_wp2
     go_ret
     refine ⟨ret_bool ?_,rfl⟩
     have h1:=HT.out
     rw [List.take_of_length_le (by have:=HL.out;omega)] at h1
     rw [←HQ.out]
     exact h1.symm
end Go.Proofs.YtppoiahhaclleaaDoor
namespace Go.Proofs.YtppoiahhaclleaaDoor
open Go.RowKit
def findR (n:Nat):Code→Option Code
 | .region id ops d=>if id=n then some (.region id ops d) else none
 | .seq a b=>match findR n a with
   | some c=>some c
   | none=>findR n b
 | .cond _ a b=>match findR n a with
   | some c=>some c
   | none=>findR n b
 | .block _ c=>findR n c
 | .loop c=>findR n c
 | .scope c=>findR n c
 | .rangeFunc _ _ a b=>match findR n a with
   | some c=>some c
   | none=>findR n b
 | _=>none
def headIs (n:Nat):Code→Bool
 | .region id _ _=>id == n
 | _=>false
def restR (n:Nat):Code→Option Code
 | .seq a b=>if headIs n a then some b else match restR n a with
   | some c=>some c
   | none=>restR n b
 | .cond _ a b=>match restR n a with
   | some c=>some c
   | none=>restR n b
 | .block _ c=>restR n c
 | .loop c=>restR n c
 | .scope c=>restR n c
 | .rangeFunc _ _ a b=>match restR n a with
   | some c=>some c
   | none=>restR n b
 | _=>none
noncomputable def partR (f:Func) (n:Nat):Code:=((f.body.bind (findR n)).getD .skip)
noncomputable def partT (f:Func) (n:Nat):Code:=((f.body.bind (restR n)).getD .skip)
theorem wp_code {P:Program} {c d:Code} {Q:Exit→Act→World→Prop} {a:Act} {w:World} (h:c=d) (k:c.wp P Q a w):d.wp P Q a w:=h▸k
end Go.Proofs.YtppoiahhaclleaaDoor
namespace Go.Proofs.YtppoiahhaclleaaDoor
open Go.RowKit
set_option maxRecDepth 100000
set_option maxHeartbeats 8000000 in
theorem rfields_r10 (p:LP) (Ab Ao:Option Addr) (nb cb no co:Nat) (o:LOp) (bp bo:Nat) (bm bd be ba bb bc:Bool) (w:World) (Q:Exit→Act→World→Prop) (aB aA aC aD aE aF aG aH aI aJ aK aL aM aN aO aP aQ aR aS aT aU aV aW aX aY aZ a8 bA bB bC bD bE bF bG bH bI bJ bK bL bM bN bO bP bQ bS bT bU bV bW bX bY bZ b4 b6 cA cC cD cE cF cG cH cI cJ cK cL cM cN cO cP cQ cR cT cU cV cW cX cY cZ c8 dA dB dC dD dE dF dG dH dI dJ dK dL dM dN dO dP dQ dR dS dT dU dV dW dX dY dZ d7 eA eB eC eD eE eF eG eH eI eJ eK eL eM eN eO eP eQ eR eS eT eU eV eW eX eY eZ fA fB fC fD fE fF fG fH fI fJ fK fL fM fN fO fP fQ fR fS fT fU fV fW fX fY fZ gA gC gD gE gF gG gH gI gJ gK gL gM gN gO gP gQ gR gS gT gU gV gW gX gY gZ g9 hJ hY hZ iA iB iC iD iE iF iG iH iI iJ iK iL iM iO iP iQ iR:Value)
   (KP:w.heap[bp]? = some (.cells #[.int .i64 p.regs,.slice Ab nb cb,.slice Ao no co] 25 (0,0))) (KO:w.heap[bo]? = some (.cells (opRow o).toArray 47 (0,0)))
   (k:∀ (iS iT iU iV iW iX iY iZ i7 i8 i9 jA jB jC jD jE jF jG jH jI jJ jK jL jM jO jP jQ jR jS jT jU jV jW jX jY jZ j5 j6 j7 j8 j9 kF kG kH kI kJ kK kL kN kO kP kQ kR kS kT kU:Value) (w':World),Below w.heap.size w w'→Q .normal ⟨#[aB,aA,.pointer (some ⟨bp,0,none⟩),.pointer (some ⟨bo,0,none⟩),aC,aD,.bool bm,.bool bd,.bool be,.bool ba,.bool bb,.bool bc,aE,aF,aG,aH,aI,aJ,aK,aL,aM,aN,aO,aP,aQ,aR,aS,aT,aU,aV,aW,aX,aY,aZ,a8,bA,bB,bC,bD,bE,bF,bG,bH,bI,bJ,bK,bL,bM,bN,bO,bP,bQ,bS,bT,bU,bV,bW,bX,bY,bZ,b4,b6,cA,cC,cD,cE,cF,cG,cH,cI,cJ,cK,cL,cM,cN,cO,iS,iT,iU,iV,iW,iX,iY,iZ,i7,i8,i9,jA,jB,jC,jD,jE,jF,jG,jH,jI,jJ,jK,jL,jM,jO,jP,jQ,jR,jS,jT,jU,jV,jW,jX,jY,jZ,j5,j6,j7,j8,j9,kF,kG,kH,kI,kJ,kK,kL,kN,kO,kP,kQ,kR,kS,kT,kU,.bool (!(regIs p o.d bd && (regIs p o.e be && ((regIs p o.a ba || (bm && o.a == -1)) && (regIs p o.b bb && (regIs p o.c bc && !(be && o.d == o.e))))))),eT,eU,eV,eW,eX,eY,eZ,fA,fB,fC,fD,fE,fF,fG,fH,fI,fJ,fK,fL,fM,fN,fO,fP,fQ,fR,fS,fT,fU,fV,fW,fX,fY,fZ,gA,gC,gD,gE,gF,gG,gH,gI,gJ,gK,gL,gM,gN,gO,gP,gQ,gR,gS,gT,gU,gV,gW,gX,gY,gZ,g9,hJ,hY,hZ,iA,iB,iC,iD,iE,iF,iG,iH,iI,iJ,iK,iL,iM,iO,iP,iQ,iR],[]⟩ w'):(partR Tryd.f27 10).wp Tryd.prog Q ⟨#[aB,aA,.pointer (some ⟨bp,0,none⟩),.pointer (some ⟨bo,0,none⟩),aC,aD,.bool bm,.bool bd,.bool be,.bool ba,.bool bb,.bool bc,aE,aF,aG,aH,aI,aJ,aK,aL,aM,aN,aO,aP,aQ,aR,aS,aT,aU,aV,aW,aX,aY,aZ,a8,bA,bB,bC,bD,bE,bF,bG,bH,bI,bJ,bK,bL,bM,bN,bO,bP,bQ,bS,bT,bU,bV,bW,bX,bY,bZ,b4,b6,cA,cC,cD,cE,cF,cG,cH,cI,cJ,cK,cL,cM,cN,cO,cP,cQ,cR,cT,cU,cV,cW,cX,cY,cZ,c8,dA,dB,dC,dD,dE,dF,dG,dH,dI,dJ,dK,dL,dM,dN,dO,dP,dQ,dR,dS,dT,dU,dV,dW,dX,dY,dZ,d7,eA,eB,eC,eD,eE,eF,eG,eH,eI,eJ,eK,eL,eM,eN,eO,eP,eQ,eR,eS,eT,eU,eV,eW,eX,eY,eZ,fA,fB,fC,fD,fE,fF,fG,fH,fI,fJ,fK,fL,fM,fN,fO,fP,fQ,fR,fS,fT,fU,fV,fW,fX,fY,fZ,gA,gC,gD,gE,gF,gG,gH,gI,gJ,gK,gL,gM,gN,gO,gP,gQ,gR,gS,gT,gU,gV,gW,gX,gY,gZ,g9,hJ,hY,hZ,iA,iB,iC,iD,iE,iF,iG,iH,iI,iJ,iK,iL,iM,iO,iP,iQ,iR],[]⟩ w:=by
 obtain ⟨n,hn⟩:∃ n,p.regs=n:=⟨_,rfl⟩
 obtain ⟨d,hd⟩:∃ d,o.d=d:=⟨_,rfl⟩
 obtain ⟨e,he⟩:∃ e,o.e=e:=⟨_,rfl⟩
 obtain ⟨a,ha⟩:∃ a,o.a=a:=⟨_,rfl⟩
 obtain ⟨b,hb⟩:∃ b,o.b=b:=⟨_,rfl⟩
 obtain ⟨c,hc⟩:∃ c,o.c=c:=⟨_,rfl⟩
 have CP:=Lh (show w.cell? ⟨bp,0,none⟩=some (.int .i64 n)∧w.cell? ⟨bp,1,none⟩=some (.slice Ab nb cb)∧w.cell? ⟨bp,2,none⟩=some (.slice Ao no co) from by simp only [World.cell?,KP,←hn];exact ⟨rfl,rfl,rfl⟩)
 have CO:=Lh (show w.cell? ⟨bo,1,none⟩=some (.int .i64 d)∧w.cell? ⟨bo,2,none⟩=some (.int .i64 e)∧w.cell? ⟨bo,3,none⟩=some (.int .i64 a)∧w.cell? ⟨bo,4,none⟩=some (.int .i64 b)∧w.cell? ⟨bo,5,none⟩=some (.int .i64 c) from by simp only [World.cell?,KO,←hd,←he,←ha,←hb,←hc];exact ⟨rfl,rfl,rfl,rfl,rfl⟩)
 have LP:=Lh (lt_of_block KP)
 have LO:=Lh (lt_of_block KO)
 rw [hd,he,ha,hb,hc] at k
 obtain ⟨xd,hxd⟩:∃ x,regIs p d bd=x:=⟨_,rfl⟩
 obtain ⟨xe,hxe⟩:∃ x,regIs p e be=x:=⟨_,rfl⟩
 obtain ⟨xa,hxa⟩:∃ x,regIs p a ba=x:=⟨_,rfl⟩
 obtain ⟨xb,hxb⟩:∃ x,regIs p b bb=x:=⟨_,rfl⟩
 obtain ⟨xc,hxc⟩:∃ x,regIs p c bc=x:=⟨_,rfl⟩
 obtain ⟨xm,hxm⟩:∃ x,(a == -1)=x:=⟨_,rfl⟩
 obtain ⟨xq,hxq⟩:∃ x,(d == e)=x:=⟨_,rfl⟩
 rw [hxd,hxe,hxa,hxb,hxc,hxm,hxq] at k
 have HN:=Lh hn
 have XD:=Lh hxd
 have XE:=Lh hxe
 have XA:=Lh hxa
 have XB:=Lh hxb
 have XC:=Lh hxc
 have HK:=Lh k
 have B0:=Lh (Below.refl w.heap.size w)
 clear hn hd he ha hb hc KP KO hxd hxe hxa hxb hxc k
 have R:=fun (r:Int) (h:Bool) (w:World)=>Rfield_any p (.slice Ab nb cb) (.slice Ao no co) r h w
 rw [HN.out] at R
 have HR:=Lh R
 clear R
 conv=>arg 2;whnf
 have cp0:w.cell? ⟨bp,0,none⟩=some (.int .i64 n):=(B0.out.cell (p:=⟨bp,0,none⟩) LP.out).trans CP.out.1
 have cp1:w.cell? ⟨bp,1,none⟩=some (.slice Ab nb cb):=(B0.out.cell (p:=⟨bp,1,none⟩) LP.out).trans CP.out.2.1
 have cp2:w.cell? ⟨bp,2,none⟩=some (.slice Ao no co):=(B0.out.cell (p:=⟨bp,2,none⟩) LP.out).trans CP.out.2.2
 have c1:w.cell? ⟨bo,1,none⟩=some (.int .i64 d):=(B0.out.cell (p:=⟨bo,1,none⟩) LO.out).trans CO.out.1
 have c2:w.cell? ⟨bo,2,none⟩=some (.int .i64 e):=(B0.out.cell (p:=⟨bo,2,none⟩) LO.out).trans CO.out.2.1
 have c3:w.cell? ⟨bo,3,none⟩=some (.int .i64 a):=(B0.out.cell (p:=⟨bo,3,none⟩) LO.out).trans CO.out.2.2.1
 have c4:w.cell? ⟨bo,4,none⟩=some (.int .i64 b):=(B0.out.cell (p:=⟨bo,4,none⟩) LO.out).trans CO.out.2.2.2.1
 have c5:w.cell? ⟨bo,5,none⟩=some (.int .i64 c):=(B0.out.cell (p:=⟨bo,5,none⟩) LO.out).trans CO.out.2.2.2.2
 go_wp2_with fail
 refine (HR.out d bd _).mono ?_
 rintro e_ w1 ⟨rfl,hb1⟩
 rw [XD.out]
 clear cp0 cp1 cp2 c1 c2 c3 c4 c5
 have B1:=Lh (B0.out.trans (hb1.mono B0.out.size))
 clear hb1
 cases xd
 · go_wp2_with fail
   exact HK.out _ _ _ _ _ _ _ _ _ _ _ _ _ _ _ _ _ _ _ _ _ _ _ _ _ _ _ _ _ _ _ _ _ _ _ _ _ _ _ _ _ _ _ _ _ _ _ _ _ _ _ _ _ _ _ _ _ B1.out
 have cp0:w1.cell? ⟨bp,0,none⟩=some (.int .i64 n):=(B1.out.cell (p:=⟨bp,0,none⟩) LP.out).trans CP.out.1
 have cp1:w1.cell? ⟨bp,1,none⟩=some (.slice Ab nb cb):=(B1.out.cell (p:=⟨bp,1,none⟩) LP.out).trans CP.out.2.1
 have cp2:w1.cell? ⟨bp,2,none⟩=some (.slice Ao no co):=(B1.out.cell (p:=⟨bp,2,none⟩) LP.out).trans CP.out.2.2
 have c1:w1.cell? ⟨bo,1,none⟩=some (.int .i64 d):=(B1.out.cell (p:=⟨bo,1,none⟩) LO.out).trans CO.out.1
 have c2:w1.cell? ⟨bo,2,none⟩=some (.int .i64 e):=(B1.out.cell (p:=⟨bo,2,none⟩) LO.out).trans CO.out.2.1
 have c3:w1.cell? ⟨bo,3,none⟩=some (.int .i64 a):=(B1.out.cell (p:=⟨bo,3,none⟩) LO.out).trans CO.out.2.2.1
 have c4:w1.cell? ⟨bo,4,none⟩=some (.int .i64 b):=(B1.out.cell (p:=⟨bo,4,none⟩) LO.out).trans CO.out.2.2.2.1
 have c5:w1.cell? ⟨bo,5,none⟩=some (.int .i64 c):=(B1.out.cell (p:=⟨bo,5,none⟩) LO.out).trans CO.out.2.2.2.2
 go_wp2_with fail
 refine (HR.out e be _).mono ?_
 rintro e_ w2 ⟨rfl,hb1⟩
 rw [XE.out]
 clear cp0 cp1 cp2 c1 c2 c3 c4 c5
 have B2:=Lh (B1.out.trans (hb1.mono B1.out.size))
 clear hb1
 cases xe
 · go_wp2_with fail
   exact HK.out _ _ _ _ _ _ _ _ _ _ _ _ _ _ _ _ _ _ _ _ _ _ _ _ _ _ _ _ _ _ _ _ _ _ _ _ _ _ _ _ _ _ _ _ _ _ _ _ _ _ _ _ _ _ _ _ _ B2.out
 have cp0:w2.cell? ⟨bp,0,none⟩=some (.int .i64 n):=(B2.out.cell (p:=⟨bp,0,none⟩) LP.out).trans CP.out.1
 have cp1:w2.cell? ⟨bp,1,none⟩=some (.slice Ab nb cb):=(B2.out.cell (p:=⟨bp,1,none⟩) LP.out).trans CP.out.2.1
 have cp2:w2.cell? ⟨bp,2,none⟩=some (.slice Ao no co):=(B2.out.cell (p:=⟨bp,2,none⟩) LP.out).trans CP.out.2.2
 have c1:w2.cell? ⟨bo,1,none⟩=some (.int .i64 d):=(B2.out.cell (p:=⟨bo,1,none⟩) LO.out).trans CO.out.1
 have c2:w2.cell? ⟨bo,2,none⟩=some (.int .i64 e):=(B2.out.cell (p:=⟨bo,2,none⟩) LO.out).trans CO.out.2.1
 have c3:w2.cell? ⟨bo,3,none⟩=some (.int .i64 a):=(B2.out.cell (p:=⟨bo,3,none⟩) LO.out).trans CO.out.2.2.1
 have c4:w2.cell? ⟨bo,4,none⟩=some (.int .i64 b):=(B2.out.cell (p:=⟨bo,4,none⟩) LO.out).trans CO.out.2.2.2.1
 have c5:w2.cell? ⟨bo,5,none⟩=some (.int .i64 c):=(B2.out.cell (p:=⟨bo,5,none⟩) LO.out).trans CO.out.2.2.2.2
 go_wp2_with fail
 refine (HR.out a ba _).mono ?_
 rintro e_ w3 ⟨rfl,hb1⟩
 rw [XA.out]
 clear cp0 cp1 cp2 c1 c2 c3 c4 c5
 have B3:=Lh (B2.out.trans (hb1.mono B2.out.size))
 clear hb1
 cases xa
 · cases bm
   · go_wp2_with fail
     exact HK.out _ _ _ _ _ _ _ _ _ _ _ _ _ _ _ _ _ _ _ _ _ _ _ _ _ _ _ _ _ _ _ _ _ _ _ _ _ _ _ _ _ _ _ _ _ _ _ _ _ _ _ _ _ _ _ _ _ B3.out
   · cases xm
     · have cp0:w3.cell? ⟨bp,0,none⟩=some (.int .i64 n):=(B3.out.cell (p:=⟨bp,0,none⟩) LP.out).trans CP.out.1
       have cp1:w3.cell? ⟨bp,1,none⟩=some (.slice Ab nb cb):=(B3.out.cell (p:=⟨bp,1,none⟩) LP.out).trans CP.out.2.1
       have cp2:w3.cell? ⟨bp,2,none⟩=some (.slice Ao no co):=(B3.out.cell (p:=⟨bp,2,none⟩) LP.out).trans CP.out.2.2
       have c1:w3.cell? ⟨bo,1,none⟩=some (.int .i64 d):=(B3.out.cell (p:=⟨bo,1,none⟩) LO.out).trans CO.out.1
       have c2:w3.cell? ⟨bo,2,none⟩=some (.int .i64 e):=(B3.out.cell (p:=⟨bo,2,none⟩) LO.out).trans CO.out.2.1
       have c3:w3.cell? ⟨bo,3,none⟩=some (.int .i64 a):=(B3.out.cell (p:=⟨bo,3,none⟩) LO.out).trans CO.out.2.2.1
       have c4:w3.cell? ⟨bo,4,none⟩=some (.int .i64 b):=(B3.out.cell (p:=⟨bo,4,none⟩) LO.out).trans CO.out.2.2.2.1
       have c5:w3.cell? ⟨bo,5,none⟩=some (.int .i64 c):=(B3.out.cell (p:=⟨bo,5,none⟩) LO.out).trans CO.out.2.2.2.2
       go_wp2_with fail
       exact HK.out _ _ _ _ _ _ _ _ _ _ _ _ _ _ _ _ _ _ _ _ _ _ _ _ _ _ _ _ _ _ _ _ _ _ _ _ _ _ _ _ _ _ _ _ _ _ _ _ _ _ _ _ _ _ _ _ _ B3.out
     · have cp0:w3.cell? ⟨bp,0,none⟩=some (.int .i64 n):=(B3.out.cell (p:=⟨bp,0,none⟩) LP.out).trans CP.out.1
       have cp1:w3.cell? ⟨bp,1,none⟩=some (.slice Ab nb cb):=(B3.out.cell (p:=⟨bp,1,none⟩) LP.out).trans CP.out.2.1
       have cp2:w3.cell? ⟨bp,2,none⟩=some (.slice Ao no co):=(B3.out.cell (p:=⟨bp,2,none⟩) LP.out).trans CP.out.2.2
       have c1:w3.cell? ⟨bo,1,none⟩=some (.int .i64 d):=(B3.out.cell (p:=⟨bo,1,none⟩) LO.out).trans CO.out.1
       have c2:w3.cell? ⟨bo,2,none⟩=some (.int .i64 e):=(B3.out.cell (p:=⟨bo,2,none⟩) LO.out).trans CO.out.2.1
       have c3:w3.cell? ⟨bo,3,none⟩=some (.int .i64 a):=(B3.out.cell (p:=⟨bo,3,none⟩) LO.out).trans CO.out.2.2.1
       have c4:w3.cell? ⟨bo,4,none⟩=some (.int .i64 b):=(B3.out.cell (p:=⟨bo,4,none⟩) LO.out).trans CO.out.2.2.2.1
       have c5:w3.cell? ⟨bo,5,none⟩=some (.int .i64 c):=(B3.out.cell (p:=⟨bo,5,none⟩) LO.out).trans CO.out.2.2.2.2
       go_wp2_with fail
       refine (HR.out b bb _).mono ?_
       rintro e_ w4 ⟨rfl,hb1⟩
       rw [XB.out]
       clear cp0 cp1 cp2 c1 c2 c3 c4 c5
       have B4:=Lh (B3.out.trans (hb1.mono B3.out.size))
       clear hb1
       cases xb
       · go_wp2_with fail
         exact HK.out _ _ _ _ _ _ _ _ _ _ _ _ _ _ _ _ _ _ _ _ _ _ _ _ _ _ _ _ _ _ _ _ _ _ _ _ _ _ _ _ _ _ _ _ _ _ _ _ _ _ _ _ _ _ _ _ _ B4.out
       have cp0:w4.cell? ⟨bp,0,none⟩=some (.int .i64 n):=(B4.out.cell (p:=⟨bp,0,none⟩) LP.out).trans CP.out.1
       have cp1:w4.cell? ⟨bp,1,none⟩=some (.slice Ab nb cb):=(B4.out.cell (p:=⟨bp,1,none⟩) LP.out).trans CP.out.2.1
       have cp2:w4.cell? ⟨bp,2,none⟩=some (.slice Ao no co):=(B4.out.cell (p:=⟨bp,2,none⟩) LP.out).trans CP.out.2.2
       have c1:w4.cell? ⟨bo,1,none⟩=some (.int .i64 d):=(B4.out.cell (p:=⟨bo,1,none⟩) LO.out).trans CO.out.1
       have c2:w4.cell? ⟨bo,2,none⟩=some (.int .i64 e):=(B4.out.cell (p:=⟨bo,2,none⟩) LO.out).trans CO.out.2.1
       have c3:w4.cell? ⟨bo,3,none⟩=some (.int .i64 a):=(B4.out.cell (p:=⟨bo,3,none⟩) LO.out).trans CO.out.2.2.1
       have c4:w4.cell? ⟨bo,4,none⟩=some (.int .i64 b):=(B4.out.cell (p:=⟨bo,4,none⟩) LO.out).trans CO.out.2.2.2.1
       have c5:w4.cell? ⟨bo,5,none⟩=some (.int .i64 c):=(B4.out.cell (p:=⟨bo,5,none⟩) LO.out).trans CO.out.2.2.2.2
       go_wp2_with fail
       refine (HR.out c bc _).mono ?_
       rintro e_ w5 ⟨rfl,hb1⟩
       rw [XC.out]
       clear cp0 cp1 cp2 c1 c2 c3 c4 c5
       have B5:=Lh (B4.out.trans (hb1.mono B4.out.size))
       clear hb1
       cases xc
       · go_wp2_with fail
         exact HK.out _ _ _ _ _ _ _ _ _ _ _ _ _ _ _ _ _ _ _ _ _ _ _ _ _ _ _ _ _ _ _ _ _ _ _ _ _ _ _ _ _ _ _ _ _ _ _ _ _ _ _ _ _ _ _ _ _ B5.out
       have cp0:w5.cell? ⟨bp,0,none⟩=some (.int .i64 n):=(B5.out.cell (p:=⟨bp,0,none⟩) LP.out).trans CP.out.1
       have cp1:w5.cell? ⟨bp,1,none⟩=some (.slice Ab nb cb):=(B5.out.cell (p:=⟨bp,1,none⟩) LP.out).trans CP.out.2.1
       have cp2:w5.cell? ⟨bp,2,none⟩=some (.slice Ao no co):=(B5.out.cell (p:=⟨bp,2,none⟩) LP.out).trans CP.out.2.2
       have c1:w5.cell? ⟨bo,1,none⟩=some (.int .i64 d):=(B5.out.cell (p:=⟨bo,1,none⟩) LO.out).trans CO.out.1
       have c2:w5.cell? ⟨bo,2,none⟩=some (.int .i64 e):=(B5.out.cell (p:=⟨bo,2,none⟩) LO.out).trans CO.out.2.1
       have c3:w5.cell? ⟨bo,3,none⟩=some (.int .i64 a):=(B5.out.cell (p:=⟨bo,3,none⟩) LO.out).trans CO.out.2.2.1
       have c4:w5.cell? ⟨bo,4,none⟩=some (.int .i64 b):=(B5.out.cell (p:=⟨bo,4,none⟩) LO.out).trans CO.out.2.2.2.1
       have c5:w5.cell? ⟨bo,5,none⟩=some (.int .i64 c):=(B5.out.cell (p:=⟨bo,5,none⟩) LO.out).trans CO.out.2.2.2.2
       cases be
       · go_wp2_with fail
         exact HK.out _ _ _ _ _ _ _ _ _ _ _ _ _ _ _ _ _ _ _ _ _ _ _ _ _ _ _ _ _ _ _ _ _ _ _ _ _ _ _ _ _ _ _ _ _ _ _ _ _ _ _ _ _ _ _ _ _ B5.out
       cases xq
       · go_wp2_with fail
         exact HK.out _ _ _ _ _ _ _ _ _ _ _ _ _ _ _ _ _ _ _ _ _ _ _ _ _ _ _ _ _ _ _ _ _ _ _ _ _ _ _ _ _ _ _ _ _ _ _ _ _ _ _ _ _ _ _ _ _ B5.out
       · go_wp2_with fail
         exact HK.out _ _ _ _ _ _ _ _ _ _ _ _ _ _ _ _ _ _ _ _ _ _ _ _ _ _ _ _ _ _ _ _ _ _ _ _ _ _ _ _ _ _ _ _ _ _ _ _ _ _ _ _ _ _ _ _ _ B5.out
 · have cp0:w3.cell? ⟨bp,0,none⟩=some (.int .i64 n):=(B3.out.cell (p:=⟨bp,0,none⟩) LP.out).trans CP.out.1
   have cp1:w3.cell? ⟨bp,1,none⟩=some (.slice Ab nb cb):=(B3.out.cell (p:=⟨bp,1,none⟩) LP.out).trans CP.out.2.1
   have cp2:w3.cell? ⟨bp,2,none⟩=some (.slice Ao no co):=(B3.out.cell (p:=⟨bp,2,none⟩) LP.out).trans CP.out.2.2
   have c1:w3.cell? ⟨bo,1,none⟩=some (.int .i64 d):=(B3.out.cell (p:=⟨bo,1,none⟩) LO.out).trans CO.out.1
   have c2:w3.cell? ⟨bo,2,none⟩=some (.int .i64 e):=(B3.out.cell (p:=⟨bo,2,none⟩) LO.out).trans CO.out.2.1
   have c3:w3.cell? ⟨bo,3,none⟩=some (.int .i64 a):=(B3.out.cell (p:=⟨bo,3,none⟩) LO.out).trans CO.out.2.2.1
   have c4:w3.cell? ⟨bo,4,none⟩=some (.int .i64 b):=(B3.out.cell (p:=⟨bo,4,none⟩) LO.out).trans CO.out.2.2.2.1
   have c5:w3.cell? ⟨bo,5,none⟩=some (.int .i64 c):=(B3.out.cell (p:=⟨bo,5,none⟩) LO.out).trans CO.out.2.2.2.2
   go_wp2_with fail
   refine (HR.out b bb _).mono ?_
   rintro e_ w4 ⟨rfl,hb1⟩
   rw [XB.out]
   clear cp0 cp1 cp2 c1 c2 c3 c4 c5
   have B4:=Lh (B3.out.trans (hb1.mono B3.out.size))
   clear hb1
   cases xb
   · go_wp2_with fail
     exact HK.out _ _ _ _ _ _ _ _ _ _ _ _ _ _ _ _ _ _ _ _ _ _ _ _ _ _ _ _ _ _ _ _ _ _ _ _ _ _ _ _ _ _ _ _ _ _ _ _ _ _ _ _ _ _ _ _ _ B4.out
   have cp0:w4.cell? ⟨bp,0,none⟩=some (.int .i64 n):=(B4.out.cell (p:=⟨bp,0,none⟩) LP.out).trans CP.out.1
   have cp1:w4.cell? ⟨bp,1,none⟩=some (.slice Ab nb cb):=(B4.out.cell (p:=⟨bp,1,none⟩) LP.out).trans CP.out.2.1
   have cp2:w4.cell? ⟨bp,2,none⟩=some (.slice Ao no co):=(B4.out.cell (p:=⟨bp,2,none⟩) LP.out).trans CP.out.2.2
   have c1:w4.cell? ⟨bo,1,none⟩=some (.int .i64 d):=(B4.out.cell (p:=⟨bo,1,none⟩) LO.out).trans CO.out.1
   have c2:w4.cell? ⟨bo,2,none⟩=some (.int .i64 e):=(B4.out.cell (p:=⟨bo,2,none⟩) LO.out).trans CO.out.2.1
   have c3:w4.cell? ⟨bo,3,none⟩=some (.int .i64 a):=(B4.out.cell (p:=⟨bo,3,none⟩) LO.out).trans CO.out.2.2.1
   have c4:w4.cell? ⟨bo,4,none⟩=some (.int .i64 b):=(B4.out.cell (p:=⟨bo,4,none⟩) LO.out).trans CO.out.2.2.2.1
   have c5:w4.cell? ⟨bo,5,none⟩=some (.int .i64 c):=(B4.out.cell (p:=⟨bo,5,none⟩) LO.out).trans CO.out.2.2.2.2
   go_wp2_with fail
   refine (HR.out c bc _).mono ?_
   rintro e_ w5 ⟨rfl,hb1⟩
   rw [XC.out]
   clear cp0 cp1 cp2 c1 c2 c3 c4 c5
   have B5:=Lh (B4.out.trans (hb1.mono B4.out.size))
   clear hb1
   cases xc
   · go_wp2_with fail
     exact HK.out _ _ _ _ _ _ _ _ _ _ _ _ _ _ _ _ _ _ _ _ _ _ _ _ _ _ _ _ _ _ _ _ _ _ _ _ _ _ _ _ _ _ _ _ _ _ _ _ _ _ _ _ _ _ _ _ _ B5.out
   have cp0:w5.cell? ⟨bp,0,none⟩=some (.int .i64 n):=(B5.out.cell (p:=⟨bp,0,none⟩) LP.out).trans CP.out.1
   have cp1:w5.cell? ⟨bp,1,none⟩=some (.slice Ab nb cb):=(B5.out.cell (p:=⟨bp,1,none⟩) LP.out).trans CP.out.2.1
   have cp2:w5.cell? ⟨bp,2,none⟩=some (.slice Ao no co):=(B5.out.cell (p:=⟨bp,2,none⟩) LP.out).trans CP.out.2.2
   have c1:w5.cell? ⟨bo,1,none⟩=some (.int .i64 d):=(B5.out.cell (p:=⟨bo,1,none⟩) LO.out).trans CO.out.1
   have c2:w5.cell? ⟨bo,2,none⟩=some (.int .i64 e):=(B5.out.cell (p:=⟨bo,2,none⟩) LO.out).trans CO.out.2.1
   have c3:w5.cell? ⟨bo,3,none⟩=some (.int .i64 a):=(B5.out.cell (p:=⟨bo,3,none⟩) LO.out).trans CO.out.2.2.1
   have c4:w5.cell? ⟨bo,4,none⟩=some (.int .i64 b):=(B5.out.cell (p:=⟨bo,4,none⟩) LO.out).trans CO.out.2.2.2.1
   have c5:w5.cell? ⟨bo,5,none⟩=some (.int .i64 c):=(B5.out.cell (p:=⟨bo,5,none⟩) LO.out).trans CO.out.2.2.2.2
   cases be
   · go_wp2_with fail
     exact HK.out _ _ _ _ _ _ _ _ _ _ _ _ _ _ _ _ _ _ _ _ _ _ _ _ _ _ _ _ _ _ _ _ _ _ _ _ _ _ _ _ _ _ _ _ _ _ _ _ _ _ _ _ _ _ _ _ _ B5.out
   cases xq
   · go_wp2_with fail
     exact HK.out _ _ _ _ _ _ _ _ _ _ _ _ _ _ _ _ _ _ _ _ _ _ _ _ _ _ _ _ _ _ _ _ _ _ _ _ _ _ _ _ _ _ _ _ _ _ _ _ _ _ _ _ _ _ _ _ _ B5.out
   · go_wp2_with fail
     exact HK.out _ _ _ _ _ _ _ _ _ _ _ _ _ _ _ _ _ _ _ _ _ _ _ _ _ _ _ _ _ _ _ _ _ _ _ _ _ _ _ _ _ _ _ _ _ _ _ _ _ _ _ _ _ _ _ _ _ B5.out
end Go.Proofs.YtppoiahhaclleaaDoor
namespace Go.Proofs.YtppoiahhaclleaaDoor
open Go.RowKit
set_option maxRecDepth 100000
def regsB (p:LP) (o:LOp):Bool:=regIs p o.d (kD o.kind) && (regIs p o.e (kE o.kind) && ((regIs p o.a (kA o.kind) || (kM o.kind && o.a == -1)) && (regIs p o.b (kB o.kind) && (regIs p o.c (kC o.kind) && !(kE o.kind && o.d == o.e)))))
theorem fields_split {p:LP} {o:LOp} (h1:1≤o.kind) (h17:o.kind≤17):fieldsF p o=(regsB p o && bufOk p o):=by
 unfold fieldsF regsB regsOk
 rw [decide_eq_true h1,decide_eq_true h17]
 simp only [Bool.true_and,Bool.and_assoc]
set_option maxHeartbeats 8000000 in
theorem Rfields_bad (p:LP) (Ab Ao:Option Addr) (nb cb no co:Nat) (o:LOp) (w:World) (h:o.kind < 1∨17 < o.kind) :
   Calls Tryd.prog 27 #[.agg #[.int .i64 p.regs,.slice Ab nb cb,.slice Ao no co],.agg (opRow o).toArray] w fun e w'=>e=.returned (.bool (fieldsF p o))∧Below w.heap.size w w':=by
 have hf:fieldsF p o=false:=by
   unfold fieldsF
   rcases h with h | h
   · rw [decide_eq_false (by omega)];rfl
   · rw [decide_eq_false (by omega:¬ o.kind≤17)];simp
 rw [hf]
 clear hf
 obtain ⟨W,hW,hbW,hzW,kp,ko⟩:=two_rows w [.int .i64 p.regs,.slice Ab nb cb,.slice Ao no co] o 25 47
 have HW:=Lh hW
 have HB:=Lh hbW
 have KP:=Lh kp
 have KO:=Lh ko
 have c0:W.cell? ⟨w.heap.size+1,0,none⟩=some (.int .i64 o.kind):=by simp only [World.cell?,ko];rfl
 clear hW hbW hzW kp ko
 obtain ⟨k,hk⟩:∃ k,o.kind=k:=⟨_,rfl⟩
 rw [hk] at c0 h
 clear hk
 by_cases h1:k < 1
 · have d1:decide (k < 1)=true:=decide_eq_true h1
   go_enter Tryd.func27,Tryd.ntmps27
   go_upto_region 1 with fail
   rw [←HW.out]
   go_wp2
   go_ret
   exact ⟨rfl,HB.out⟩
 · have d1:decide (k < 1)=false:=decide_eq_false h1
   have h2:17 < k:=by omega
   have d2:decide (17 < k)=true:=decide_eq_true h2
   clear h
   go_enter Tryd.func27,Tryd.ntmps27
   go_upto_region 1 with fail
   rw [←HW.out]
   go_wp2
   go_ret
   exact ⟨rfl,HB.out⟩
end Go.Proofs.YtppoiahhaclleaaDoor
