/- Part 4 of a claim; what it proves stands in its last text. -/
import Derived.Test.YtppoiahhaclleaaDoorAr3
import Derived.Test.YtppoiahhaclleaaDoorAr1
import Derived.Deep.WholeRow
import Derived.Deep.MidRow
import Derived.Maps.AppendAt
import Derived.Tactics
import Derived.Test.YtppoiahhaclleaaDoorAr2
import Derived.Great.BuildSlice
namespace Go.Proofs.YtppoiahhaclleaaDoor
open Go.RowKit
def firstIn (p:Nat→Bool) (n k:Nat):Int:=match (List.range' k (n - k)).find? p with | some i=>i | none=>-1
theorem firstIn_yes {p:Nat→Bool} {n k:Nat} (h:k < n) (hp:p k=true):firstIn p n k=k:=by
 have:n - k=(n - k - 1)+1:=by omega
 rw [firstIn,this,List.range'_succ,List.find?_cons,hp]
theorem firstIn_no {p:Nat→Bool} {n k:Nat} (h:k < n) (hp:p k=false):firstIn p n k=firstIn p n (k+1):=by
 have:n - k=(n - (k+1))+1:=by omega
 rw [firstIn,this,List.range'_succ,List.find?_cons,hp];rfl
theorem firstIn_end {p:Nat→Bool} {n:Nat}:firstIn p n n = -1:=by simp [firstIn]
theorem firstIn_any {T:Type} (p:T→Bool) (l:List T) (d:T):decide (0≤firstIn (fun k=>p (l.getD k d)) l.length 0)=l.any p:=by
 have key:∀ m k,m+k=l.length→decide (0≤firstIn (fun k=>p (l.getD k d)) l.length k)=(l.drop k).any p:=by
   intro m
   induction m with
   | zero => intro k h; obtain rfl : k = l.length := by omega
             simp [firstIn_end]
   | succ m ih =>
     intro k h
     have hk:k < l.length:=by omega
     rw [List.drop_eq_getElem_cons hk,List.any_cons]
     have hg:l.getD k d=l[k]:=by simp [List.getD,hk]
     cases hp:p l[k]
     · rw [firstIn_no hk (by simp only [hg,hp]),ih (k+1) (by omega)];simp
     · rw [firstIn_yes hk (by simp only [hg,hp])];simp
 simpa using key l.length 0 (by omega)
set_option maxHeartbeats 800000 in
theorem IndexFunc_Int (v:Value) (g:Nat) (cap:Array Value) (w:World) (F:Nat→Prop) (l:List Int) (p:Int→Bool) (hn:l.length≤9223372036854775807)
   (hg:∀ args w,(callFunc g args).run Tryd.prog w=.ok (.enter g args) w) (hl:NumsAt w F v l) (hF:∀ k,F k→k < w.heap.size)
   (hf:∀ r∈l,∀ wr,Below w.heap.size w wr→Calls Tryd.prog g (#[.int .i64 r]++cap) wr fun e w'=>e=.returned (.bool (p r))∧Below wr.heap.size wr w') :
   Calls Tryd.prog 97 #[v,.func (.func g) #[] cap] w fun e w'=>e=.returned (.int .i64 (firstIn (fun k=>p (l.getD k 0)) l.length 0))∧Below w.heap.size w w':=by
 obtain ⟨A,c,rfl,_⟩:=rows_form hl
 generalize hpp:(fun k=>p (l.getD k 0))=q
 have HPP:=Lh hpp;clear hpp
 have H:=Lh hf;clear hf
 have HL:=Lh hl;clear hl
 have HF:=Lh hF;clear hF
 generalize hnl:l.length=n at *
 have HNL:=Lh hnl;clear hnl
 go_enter Tryd.func97,Tryd.ntmps97
 go_wp2
 go_loopw [5,8] (fun _ i wr=>∃ k:Nat,k≤n∧i=.int .i64 k∧Below w.heap.size w wr∧firstIn q n 0=firstIn q n k) (fun _ i _=>n - (intOf i).toNat)
 case atStart=>exact ⟨0,by omega,rfl,Below.refl _ _,rfl⟩
 case round =>
   obtain ⟨k,hk,rfl,hbl,hfi⟩:=hrel
   have HFI:=Lh hfi;clear hfi
   by_cases hlt:k < n
   · obtain ⟨r,hr⟩:∃ r,l[k]? = some r:=⟨_,List.getElem?_eq_getElem (by have:=HNL.out;omega)⟩
     obtain ⟨b,off,rfl,hFb,h0⟩:=HL.out.at_ hr
     have g0:=(hbl.cell (p:=⟨b,off+k,none⟩) (HF.out b hFb)).trans h0
     clear h0
     have Hk:=Lh (H.out r (List.mem_of_getElem? hr) wr hbl)
     have hq:q k=p r:=by rw [←HPP.out];simp [List.getD,hr]
     clear hr H
     cases hp:p r
     · rw [hp] at Hk hq
       have HFN:=Lh ((HFI.out).trans (firstIn_no hlt hq));clear hp HFI hq
       go_wp2_with ((with_reducible refine (Hk.out).mono ?_);rintro e w1 ⟨rfl,hb1⟩)
       go_roundw
       case rel=>exact ⟨k+1,by omega,by go_num,hbl.trans (hb1.mono hbl.size),HFN.out⟩
       case measure=>simp [intOf];omega
     · rw [hp] at Hk hq
       have HFN:=Lh ((HFI.out).trans (firstIn_yes hlt hq));clear hp HFI hq
       go_wp2_with ((with_reducible refine (Hk.out).mono ?_);rintro e w1 ⟨rfl,hb1⟩)
       go_ret
       exact ⟨ret_int HFN.out.symm,hbl.trans (hb1.mono hbl.size)⟩
   · go_wp2
     go_ret
     exact ⟨ret_int (by rw [HFI.out,show k=n from by omega,firstIn_end]),hbl⟩
set_option maxHeartbeats 400000 in
theorem ContainsFunc_Int (v:Value) (g:Nat) (cap:Array Value) (w:World) (F:Nat→Prop) (l:List Int) (p:Int→Bool) (hn:l.length≤9223372036854775807)
   (hg:∀ args w,(callFunc g args).run Tryd.prog w=.ok (.enter g args) w) (hl:NumsAt w F v l) (hF:∀ k,F k→k < w.heap.size)
   (hf:∀ r∈l,∀ wr,Below w.heap.size w wr→Calls Tryd.prog g (#[.int .i64 r]++cap) wr fun e w'=>e=.returned (.bool (p r))∧Below wr.heap.size wr w') :
   Calls Tryd.prog 80 #[v,.func (.func g) #[] cap] w fun e w'=>e=.returned (.bool (l.any p))∧Below w.heap.size w w':=by
 have HI:=Lh (IndexFunc_Int v g cap w F l p hn hg hl hF hf)
 have HA:=Lh (firstIn_any p l 0)
 obtain ⟨A,c,rfl,_⟩:=rows_form hl
 clear hf hl hF hg
 go_enter Tryd.func80,Tryd.ntmps80
 go_wp2_with ((with_reducible refine (HI.out).mono ?_);rintro e w1 ⟨rfl,hb1⟩)
 go_ret
 exact ⟨ret_bool HA.out,hb1⟩
set_option maxHeartbeats 800000 in
theorem IndexFunc_Bf (v:Value) (g:Nat) (cap:Array Value) (w:World) (F:Nat→Prop) (l:List Bf) (p:Bf→Bool) (hn:l.length≤9223372036854775807)
   (hg:∀ args w,(callFunc g args).run Tryd.prog w=.ok (.enter g args) w) (hl:BufsAt w F v l) (hF:∀ k,F k→k < w.heap.size)
   (hf:∀ r∈l,∀ wr,Below w.heap.size w wr→Calls Tryd.prog g (#[.agg #[.int .i64 r.size,.int .i64 r.kind,.bool r.secret]]++cap) wr fun e w'=>e=.returned (.bool (p r))∧Below wr.heap.size wr w') :
   Calls Tryd.prog 76 #[v,.func (.func g) #[] cap] w fun e w'=>e=.returned (.int .i64 (firstIn (fun k=>p (l.getD k ⟨0,0,false⟩)) l.length 0))∧Below w.heap.size w w':=by
 obtain ⟨A,c,rfl,_⟩:=rows_form hl
 generalize hpp:(fun k=>p (l.getD k ⟨0,0,false⟩))=q
 have HPP:=Lh hpp;clear hpp
 have H:=Lh hf;clear hf
 have HL:=Lh hl;clear hl
 have HF:=Lh hF;clear hF
 generalize hnl:l.length=n at *
 have HNL:=Lh hnl;clear hnl
 go_enter Tryd.func76,Tryd.ntmps76
 go_wp2
 go_loopw [5,8] (fun _ i wr=>∃ k:Nat,k≤n∧i=.int .i64 k∧Below w.heap.size w wr∧firstIn q n 0=firstIn q n k) (fun _ i _=>n - (intOf i).toNat)
 case atStart=>exact ⟨0,by omega,rfl,Below.refl _ _,rfl⟩
 case round =>
   obtain ⟨k,hk,rfl,hbl,hfi⟩:=hrel
   have HFI:=Lh hfi;clear hfi
   by_cases hlt:k < n
   · obtain ⟨r,hr⟩:∃ r,l[k]? = some r:=⟨_,List.getElem?_eq_getElem (by have:=HNL.out;omega)⟩
     obtain ⟨b,off,rfl,hFb,h0,h1,h2⟩:=HL.out.at_ hr
     have g0:=(hbl.cell (p:=⟨b,off+k*3,none⟩) (HF.out b hFb)).trans h0
     have g1:=(hbl.cell (p:=⟨b,off+k*3+1,none⟩) (HF.out b hFb)).trans h1
     have g2:=(hbl.cell (p:=⟨b,off+k*3+2,none⟩) (HF.out b hFb)).trans h2
     clear h0 h1 h2
     have Hk:=Lh (H.out r (List.mem_of_getElem? hr) wr hbl)
     have hq:q k=p r:=by rw [←HPP.out];simp [List.getD,hr]
     clear hr H
     cases hp:p r
     · rw [hp] at Hk hq
       have HFN:=Lh ((HFI.out).trans (firstIn_no hlt hq));clear hp HFI hq
       go_wp2_with ((with_reducible refine (Hk.out).mono ?_);rintro e w1 ⟨rfl,hb1⟩)
       go_roundw
       case rel=>exact ⟨k+1,by omega,by go_num,hbl.trans (hb1.mono hbl.size),HFN.out⟩
       case measure=>simp [intOf];omega
     · rw [hp] at Hk hq
       have HFN:=Lh ((HFI.out).trans (firstIn_yes hlt hq));clear hp HFI hq
       go_wp2_with ((with_reducible refine (Hk.out).mono ?_);rintro e w1 ⟨rfl,hb1⟩)
       go_ret
       exact ⟨ret_int HFN.out.symm,hbl.trans (hb1.mono hbl.size)⟩
   · go_wp2
     go_ret
     exact ⟨ret_int (by rw [HFI.out,show k=n from by omega,firstIn_end]),hbl⟩
set_option maxHeartbeats 400000 in
theorem ContainsFunc_Bf (v:Value) (g:Nat) (cap:Array Value) (w:World) (F:Nat→Prop) (l:List Bf) (p:Bf→Bool) (hn:l.length≤9223372036854775807)
   (hg:∀ args w,(callFunc g args).run Tryd.prog w=.ok (.enter g args) w) (hl:BufsAt w F v l) (hF:∀ k,F k→k < w.heap.size)
   (hf:∀ r∈l,∀ wr,Below w.heap.size w wr→Calls Tryd.prog g (#[.agg #[.int .i64 r.size,.int .i64 r.kind,.bool r.secret]]++cap) wr fun e w'=>e=.returned (.bool (p r))∧Below wr.heap.size wr w') :
   Calls Tryd.prog 63 #[v,.func (.func g) #[] cap] w fun e w'=>e=.returned (.bool (l.any p))∧Below w.heap.size w w':=by
 have HI:=Lh (IndexFunc_Bf v g cap w F l p hn hg hl hF hf)
 have HA:=Lh (firstIn_any p l ⟨0,0,false⟩)
 obtain ⟨A,c,rfl,_⟩:=rows_form hl
 clear hf hl hF hg
 go_enter Tryd.func63,Tryd.ntmps63
 go_wp2_with ((with_reducible refine (HI.out).mono ?_);rintro e w1 ⟨rfl,hb1⟩)
 go_ret
 exact ⟨ret_bool HA.out,hb1⟩
set_option maxHeartbeats 800000 in
theorem Index_int (v:Value) (r:Int) (w:World) (F:Nat→Prop) (l:List Int) (hn:l.length≤9223372036854775807) (hl:NumsAt w F v l) :
   Calls Tryd.prog 96 #[v,.int .i64 r] w fun e w'=>e=.returned (.int .i64 (firstIn (fun k=>r == l.getD k 0) l.length 0))∧w=w':=by
 obtain ⟨A,c,rfl,_⟩:=rows_form hl
 generalize hpp:(fun k=>r == l.getD k 0)=q
 have HPP:=Lh hpp;clear hpp
 have HL:=Lh hl;clear hl
 generalize hnl:l.length=n at *
 have HNL:=Lh hnl;clear hnl
 go_enter Tryd.func96,Tryd.ntmps96
 go_wp2
 go_loop [5,8] (fun _ i=>∃ k:Nat,k≤n∧i=.int .i64 k∧firstIn q n 0=firstIn q n k) (fun _ i=>n - (intOf i).toNat)
 case atStart=>exact ⟨0,by omega,rfl,rfl⟩
 case round =>
   obtain ⟨k,hk,rfl,hfi⟩:=hrel
   have HFI:=Lh hfi;clear hfi
   by_cases hlt:k < n
   · obtain ⟨x,hr⟩:∃ r,l[k]? = some r:=⟨_,List.getElem?_eq_getElem (by have:=HNL.out;omega)⟩
     obtain ⟨b,off,rfl,hFb,h0⟩:=HL.out.at_ hr
     have hq:q k=(r == x):=by rw [←HPP.out];simp [List.getD,hr]
     clear hr
     cases hp:(r == x)
     · rw [hp] at hq
       have HFN:=Lh ((HFI.out).trans (firstIn_no hlt hq));clear HFI hq
       go_wp2
       go_round
       case rel=>exact ⟨k+1,by omega,by go_num,HFN.out⟩
       case measure=>simp [intOf];omega
     · rw [hp] at hq
       have HFN:=Lh ((HFI.out).trans (firstIn_yes hlt hq));clear HFI hq
       go_wp2
       go_ret
       exact ⟨ret_int HFN.out.symm,rfl⟩
   · go_wp2
     go_ret
     exact ⟨ret_int (by rw [HFI.out,show k=n from by omega,firstIn_end]),rfl⟩
set_option maxHeartbeats 400000 in
theorem Contains_int (v:Value) (r:Int) (w:World) (F:Nat→Prop) (l:List Int) (hn:l.length≤9223372036854775807) (hl:NumsAt w F v l) :
   Calls Tryd.prog 79 #[v,.int .i64 r] w fun e w'=>e=.returned (.bool (l.contains r))∧w=w':=by
 have HI:=Lh (Index_int v r w F l hn hl)
 have hc:l.contains r=l.any fun x=>r == x:=by
   rw [Bool.eq_iff_iff];simp [List.any_eq_true]
 have HA:=Lh ((firstIn_any (fun x=>r == x) l 0).trans hc.symm)
 obtain ⟨A,c,rfl,_⟩:=rows_form hl
 clear hl hc
 go_enter Tryd.func79,Tryd.ntmps79
 go_wp2_with ((with_reducible refine (HI.out).mono ?_);rintro e w1 ⟨rfl,rfl⟩)
 go_ret
 exact ⟨ret_bool HA.out,rfl⟩
end Go.Proofs.YtppoiahhaclleaaDoor
namespace Go.Proofs.YtppoiahhaclleaaDoor
open Go.RowKit
structure Chg (F:Nat→Prop) (w w':World):Prop where
 os:w'.os=w.os
 tape:w'.tape=w.tape
 output:w'.output=w.output
 size:w.heap.size≤w'.heap.size
 block:∀ k,k < w.heap.size→¬ F k→w'.heap[k]? = w.heap[k]?
theorem Chg.refl (F:Nat→Prop) (w:World):Chg F w w:=⟨rfl,rfl,rfl,Nat.le_refl _,fun _ _ _=>rfl⟩
theorem Chg.trans {F:Nat→Prop} {a b c:World} (h:Chg F a b) (h':Chg F b c):Chg F a c :=
 ⟨h'.os.trans h.os,h'.tape.trans h.tape,h'.output.trans h.output,Nat.le_trans h.size h'.size,fun k hk hF=>(h'.block k (Nat.lt_of_lt_of_le hk h.size) hF).trans (h.block k hk hF)⟩
theorem Chg.trans' {F G:Nat→Prop} {a b c:World} (h:Chg F a b) (h':Chg G b c) (hg:∀ k,k < a.heap.size→G k→F k):Chg F a c :=
 ⟨h'.os.trans h.os,h'.tape.trans h.tape,h'.output.trans h.output,Nat.le_trans h.size h'.size,fun k hk hF=>(h'.block k (Nat.lt_of_lt_of_le hk h.size) (fun hG=>hF (hg k hk hG))).trans (h.block k hk hF)⟩
theorem Chg.mono {F G:Nat→Prop} {a b:World} (h:Chg F a b) (hg:∀ k,k < a.heap.size→F k→G k):Chg G a b:=⟨h.os,h.tape,h.output,h.size,fun k hk hG=>h.block k hk fun hF=>hG (hg k hk hF)⟩
theorem Chg.of_below {F:Nat→Prop} {a b:World} (h:Below a.heap.size a b):Chg F a b:=⟨h.os,h.tape,h.output,h.size,fun k hk _=>h.block k hk⟩
theorem Chg.below {F:Nat→Prop} {a b:World} {B:Nat} (h:Chg F a b) (hF:∀ k,k < B→¬ F k) (hB:B≤a.heap.size):Below B a b:=⟨h.os,h.tape,h.output,h.size,fun k hk=>h.block k (Nat.lt_of_lt_of_le hk hB) (hF k hk)⟩
theorem Chg.same {F G:Nat→Prop} {a b:World} (h:Chg F a b) (hG:∀ k,G k→k < a.heap.size∧¬ F k):SameOn G a b:=fun k hk=>h.block k (hG k hk).1 (hG k hk).2
theorem Chg.drew {F:Nat→Prop} {a b:World} (h:Chg F a b):Chg F a b.drew:=⟨h.os,h.tape,h.output,h.size,h.block⟩
theorem Chg.setCell {F:Nat→Prop} {a b:World} (h:Chg F a b) {p:Addr} (hp:F p.block∨a.heap.size≤p.block) (u:Value):Chg F a (b.setCell p u) :=
 ⟨h.os,h.tape,h.output,by have:=h.size;simpa [World.setCell] using this,fun k hk hF=>(Below.heap_setCell _ _ _ _ (fun e=>by subst e;rcases hp with hp | hp;exact hF hp;omega)).trans (h.block k hk hF)⟩
theorem Chg.alloc {F:Nat→Prop} {a b:World} (h:Chg F a b) (o:Obj):Chg F a (b.alloc o):=h.trans (.of_below ((Below.refl _ _).alloc (Nat.le_refl _) o))
def RowsBlk (w:World) (g e sz:Nat) (rows:List (List Value)):Prop :=
 ∃ cur,w.heap[g]? = some (.cells cur e (0,0))∧(∀ (i j:Nat) (r:List Value) (u:Value),rows[i]? = some r→r[j]? = some u→cur[i*sz+j]? = some u)∧∀ r∈rows,r.length=sz
theorem RowsBlk.keep {w w':World} {g e sz:Nat} {rows:List (List Value)} (h:RowsBlk w g e sz rows) (hk:w'.heap[g]? = w.heap[g]?):RowsBlk w' g e sz rows:=by
 obtain ⟨cur,h1,h2⟩:=h
 exact ⟨cur,hk.trans h1,h2⟩
theorem RowsBlk.drew {w:World} {g e sz:Nat} {rows:List (List Value)} (h:RowsBlk w g e sz rows):RowsBlk w.drew g e sz rows:=h
theorem RowsBlk.lt {w:World} {g e sz:Nat} {rows:List (List Value)} (h:RowsBlk w g e sz rows):g < w.heap.size:=by
 obtain ⟨cur,h1,_⟩:=h
 rcases Nat.lt_or_ge g w.heap.size with h | h
 · exact h
 · rw [Array.getElem?_eq_none h] at h1;cases h1
theorem RowsBlk.cell {w:World} {g e sz:Nat} {rows:List (List Value)} (h:RowsBlk w g e sz rows) {i j:Nat} {r:List Value} {u:Value} (hr:rows[i]? = some r) (hu:r[j]? = some u):w.cell? ⟨g,i*sz+j,none⟩=some u:=by
 obtain ⟨cur,h1,h2,_⟩:=h
 simp only [World.cell?,h1]
 exact h2 i j r u hr hu
theorem RowsBlk.frozen {w:World} {g e sz:Nat} {rows:List (List Value)} (h:RowsBlk w g e sz rows) (i:Nat):w.frozen? ⟨g,i,none⟩=false:=by
 obtain ⟨cur,h1,_⟩:=h
 simp [World.frozen?,h1]
theorem RowsBlk.sub {w:World} {g e sz:Nat} {rows:List (List Value)} (h:RowsBlk w g e sz rows) {rows':List (List Value)} (hs:∀ (i:Nat) (r:List Value),rows'[i]? = some r→rows[i]? = some r):RowsBlk w g e sz rows':=by
 obtain ⟨cur,h1,h2,h3⟩:=h
 exact ⟨cur,h1,fun i j r u hr hu=>h2 i j r u (hs i r hr) hu,fun r hr=>by obtain ⟨i,hi⟩:=List.mem_iff_getElem?.1 hr;exact h3 r (List.mem_of_getElem? (hs i r hi))⟩
theorem rowsBlk_of_own {w:World} {base e sz n:Nat} {v:Value} {rows:List (List Value)} (h:w.ownsRow base e sz v n rows.flatten) (hsz:∀ r∈rows,r.length=sz) (hpos:0 < n) :
   ∃ g cap,v=.slice (some ⟨g,0,none⟩) n cap∧base≤g∧n≤cap∧RowsBlk w g e sz rows:=by
 rcases h.2 with ⟨_,h0⟩ | ⟨g,cap,cur,hv,hg,hh,hnc,hcm,hcs,htk⟩
 · omega
 · refine ⟨g,cap,hv,hg,hnc,cur,hh,fun i j r u hr hu=>?_,hsz⟩
   have key:∀ (rows:List (List Value)) (i:Nat),(∀ r∈rows,r.length=sz)→rows[i]? = some r→rows.flatten[i*sz+j]? = some u:=by
     intro rows
     induction rows with
     | nil=>intro i _ h;simp at h
     | cons q qs ih =>
       intro i hq hi
       have hql:=hq q (List.mem_cons_self ..)
       have hjs:j < sz:=by
         have hrl:=hq r (List.mem_of_getElem? hi)
         rcases Nat.lt_or_ge j sz with h | h
         · exact h
         · rw [List.getElem?_eq_none (by omega)] at hu;cases hu
       cases i with
       | zero =>
         simp at hi
         subst hi
         rw [List.flatten_cons,List.getElem?_append_left (by omega)]
         simpa using hu
       | succ i =>
         rw [List.flatten_cons,List.getElem?_append_right (by rw [hql,Nat.succ_mul];omega),hql]
         have:(i+1)*sz+j - sz=i*sz+j:=by rw [Nat.succ_mul];omega
         rw [this]
         exact ih i (fun r hr=>hq r (List.mem_cons_of_mem _ hr)) (by simpa using hi)
   have hk:=key rows i hsz hr
   rw [←htk,List.getElem?_take] at hk
   split at hk
   · simpa using hk
   · cases hk
end Go.Proofs.YtppoiahhaclleaaDoor
namespace Go.Proofs.YtppoiahhaclleaaDoor
open Go.RowKit
structure Res where
 F:Nat→Prop
 P:World→Prop
 st:∀ {w w':World},SameOn F w w'→P w→P w'
def Ov (F:Nat→Prop) (base:Nat):Nat→Prop:=fun k=>F k∨base≤k
theorem row_keep {w w':World} {base e sz n:Nat} {v:Value} {xs:List Value} (hk:∀ g,v.ownBlock=some g→w'.heap[g]? = w.heap[g]?) (h:w.ownsRow base e sz v n xs):w'.ownsRow base e sz v n xs:=by
 rcases h.2 with ⟨h1,h2⟩ | ⟨g',cap',cur,hv,hg,hh,hr⟩
 · exact ⟨h.1,.inl ⟨h1,h2⟩⟩
 · exact ⟨h.1,.inr ⟨g',cap',cur,hv,hg,(hk g' (by rw [hv];rfl)).trans hh,hr⟩⟩
def boxR (g:Nat) (ty:TypeId) (row:List Value):Res:=⟨fun k=>k=g,fun w=>w.heap[g]? = some (.cells row.toArray ty (0,0)),fun h hp=>(h g rfl).trans hp⟩
def rowR (base:Nat) (ty:TypeId) (sz n:Nat) (v:Value) (xs:List Value):Res:=⟨fun k=>v.ownBlock=some k,fun w=>w.ownsRow base ty sz v n xs,fun h hp=>row_keep h hp⟩
structure Sep (w0:World) (F0:Nat→Prop) (w:World) (R:List Res):Prop where
 chg:Chg (Ov F0 w0.heap.size) w0 w
 lt:∀ r∈R,∀ k,r.F k→k < w.heap.size
 over:∀ r∈R,∀ k,r.F k→Ov F0 w0.heap.size k
 dis:R.Pairwise fun r q=>∀ k,r.F k→¬ q.F k
 holds:∀ r∈R,r.P w
section
variable {w0 w w':World} {F0:Nat→Prop} {R:List Res}
theorem Sep.nil (w:World) (F0:Nat→Prop):Sep w F0 w []:=⟨Chg.refl _ _,by simp,by simp,by simp,by simp⟩
theorem Sep.cast (h:Sep w0 F0 w R) (e:w'=w):Sep w0 F0 w' R:=e▸h
theorem Sep.get (h:Sep w0 F0 w R) (i:Nat) {r:Res} (hi:R[i]? = some r):r.P w:=h.holds r (List.mem_of_getElem? hi)
theorem Sep.size (h:Sep w0 F0 w R):w0.heap.size≤w.heap.size:=h.chg.size
theorem Sep.below (h:Sep w0 (fun _=>False) w R):Below w0.heap.size w0 w:=h.chg.below (fun k hk hF=>by rcases hF with hF | hF;exact hF;omega) (Nat.le_refl _)
theorem Sep.keep (h:Sep w0 F0 w R) (hc:Chg (Ov F0 w0.heap.size) w w') (hk:∀ r∈R,SameOn r.F w w'):Sep w0 F0 w' R :=
 ⟨h.chg.trans hc,fun r hr k hF=>Nat.lt_of_lt_of_le (h.lt r hr k hF) hc.size,h.over,h.dis,fun r hr=>r.st (hk r hr) (h.holds r hr)⟩
theorem Sep.next (h:Sep w0 F0 w R) (hb:Below w.heap.size w w'):Sep w0 F0 w' R :=
 h.keep (Chg.of_below hb) fun r hr k hF=>hb.block k (h.lt r hr k hF)
theorem Sep.drew (h:Sep w0 F0 w R):Sep w0 F0 w.drew R:=h.next (Below.refl _ _).drew
theorem pair_apart {R:List Res} (hd:R.Pairwise fun r q=>∀ k,r.F k→¬ q.F k) {i j:Nat} {r q:Res} (hi:R[i]? = some r) (hj:R[j]? = some q) (hij:i≠j):∀ k,r.F k→¬ q.F k:=by
 obtain ⟨h1,rfl⟩:=List.getElem?_eq_some_iff.1 hi
 obtain ⟨h2,rfl⟩:=List.getElem?_eq_some_iff.1 hj
 have hp:=List.pairwise_iff_getElem.1 hd
 rcases Nat.lt_or_gt_of_ne hij with h | h
 · exact hp i j h1 h2 h
 · intro k hk hq
   exact hp j i h2 h1 h k hq hk
theorem Sep.put (h:Sep w0 F0 w R) (i:Nat) {r r':Res} (hi:R[i]? = some r) (hc:Chg (Ov r.F w.heap.size) w w') (hP:r'.P w') (hF:∀ k,r'.F k→(r.F k∨w.heap.size≤k)∧k < w'.heap.size):Sep w0 F0 w' (R.set i r'):=by
 have hir:=List.mem_of_getElem? hi
 have hil:i < R.length:=(List.getElem?_eq_some_iff.1 hi).1
 have hmem:∀ x,x∈R.set i r'→x=r'∨∃ j,j≠i∧R[j]? = some x:=fun x hx=>by
   obtain ⟨j,hj⟩:=List.mem_iff_getElem?.1 hx
   rw [List.getElem?_set] at hj
   split at hj
   · (try rw [if_pos hil] at hj);exact .inl (Option.some.inj hj).symm
   · rename_i hij;exact .inr ⟨j,fun e=>hij e.symm,hj⟩
 have hsame:∀ j q,j≠i→R[j]? = some q→SameOn q.F w w':=fun j q hj hq k hk =>
   hc.block k (h.lt q (List.mem_of_getElem? hq) k hk) fun hF=>by
     rcases hF with hF | hF
     · exact pair_apart h.dis hi hq (fun e=>hj e.symm) k hF hk
     · have:=h.lt q (List.mem_of_getElem? hq) k hk;omega
 have hov:∀ k,r'.F k→Ov F0 w0.heap.size k:=fun k hk=>by
   rcases (hF k hk).1 with h1 | h1
   · exact h.over r hir k h1
   · exact .inr (Nat.le_trans h.size h1)
 refine ⟨h.chg.trans' hc fun k hk hG=>?_,fun x hx k hk=>?_,fun x hx k hk=>?_,?_,fun x hx=>?_⟩
 · rcases hG with hG | hG
   · exact h.over r hir k hG
   · exact .inr (Nat.le_trans h.size hG)
 · rcases hmem x hx with rfl | ⟨j,_,hj⟩
   · exact (hF k hk).2
   · exact Nat.lt_of_lt_of_le (h.lt x (List.mem_of_getElem? hj) k hk) hc.size
 · rcases hmem x hx with rfl | ⟨j,_,hj⟩
   · exact hov k hk
   · exact h.over x (List.mem_of_getElem? hj) k hk
 · refine List.pairwise_iff_getElem.2 fun a b ha hb hab=>?_
   simp only [List.length_set] at ha hb
   have hp:=List.pairwise_iff_getElem.1 h.dis a b ha hb hab
   intro k hk hk'
   by_cases ea:i=a
   · subst ea
     rw [List.getElem_set_self] at hk
     rw [List.getElem_set_ne (by omega)] at hk'
     rcases (hF k hk).1 with h1 | h1
     · exact pair_apart h.dis hi (List.getElem?_eq_getElem hb) (by omega) k h1 hk'
     · have:=h.lt _ (List.getElem_mem hb) k hk';omega
   · by_cases eb:i=b
     · subst eb
       rw [List.getElem_set_self] at hk'
       rw [List.getElem_set_ne ea] at hk
       rcases (hF k hk').1 with h1 | h1
       · exact pair_apart h.dis hi (List.getElem?_eq_getElem ha) (by omega) k h1 hk
       · have:=h.lt _ (List.getElem_mem ha) k hk;omega
     · rw [List.getElem_set_ne ea] at hk
       rw [List.getElem_set_ne eb] at hk'
       exact hp k hk hk'
 · rcases hmem x hx with rfl | ⟨j,hne,hj⟩
   · exact hP
   · exact x.st (hsame j x hne hj) (h.get j hj)
theorem Sep.push (h:Sep w0 F0 w R) {r':Res} (hb:Below w.heap.size w w') (hP:r'.P w') (hF:∀ k,r'.F k→w.heap.size≤k∧k < w'.heap.size):Sep w0 F0 w' (r' :: R):=by
 have h1:=h.next hb
 refine ⟨h1.chg,fun x hx k hk=>?_,fun x hx k hk=>?_,List.pairwise_cons.2 ⟨fun q hq k hk hk'=>?_,h.dis⟩,fun x hx=>?_⟩
 · rcases List.mem_cons.1 hx with rfl | hx
   · exact (hF k hk).2
   · exact h1.lt x hx k hk
 · rcases List.mem_cons.1 hx with rfl | hx
   · exact .inr (Nat.le_trans h.size (hF k hk).1)
   · exact h1.over x hx k hk
 · have:=h.lt q hq k hk';have:=(hF k hk).1;omega
 · rcases List.mem_cons.1 hx with rfl | hx
   · exact hP
   · exact h1.holds x hx
theorem Sep.take (h:Sep w0 F0 w R) {r':Res} (hP:r'.P w) (hF:∀ k,r'.F k→F0 k∧k < w.heap.size) (hd:∀ q∈R,∀ k,r'.F k→¬ q.F k):Sep w0 F0 w (r' :: R) :=
 ⟨h.chg,fun x hx k hk=>by
   rcases List.mem_cons.1 hx with rfl | hx
   · exact (hF k hk).2
   · exact h.lt x hx k hk,fun x hx k hk=>by
   rcases List.mem_cons.1 hx with rfl | hx
   · exact .inl (hF k hk).1
   · exact h.over x hx k hk,List.pairwise_cons.2 ⟨hd,h.dis⟩,fun x hx=>by
   rcases List.mem_cons.1 hx with rfl | hx
   · exact hP
   · exact h.holds x hx⟩
theorem Sep.sub {R':List Res} (h:Sep w0 F0 w R) (hs:R'.Sublist R):Sep w0 F0 w R' :=
 ⟨h.chg,fun r hr=>h.lt r (hs.subset hr),fun r hr=>h.over r (hs.subset hr),h.dis.sublist hs,fun r hr=>h.holds r (hs.subset hr)⟩
theorem Sep.box (h:Sep w0 F0 w R) (ty:TypeId) (row:List Value):Sep w0 F0 (w.alloc (.cells row.toArray ty)) (boxR w.heap.size ty row :: R) :=
 h.push ((Below.refl _ _).alloc (Nat.le_refl _) _) (heap_alloc_new w _) fun k hk=>by cases hk;simp
theorem Sep.at_ (h:Sep w0 F0 w R) (i:Nat) {g:Nat} {ty:TypeId} {row:List Value} (hi:R[i]? = some (boxR g ty row)):w.heap[g]? = some (.cells row.toArray ty (0,0)):=h.get i hi
theorem Sep.cell (h:Sep w0 F0 w R) (i k:Nat) {g:Nat} {ty:TypeId} {row:List Value} (hi:R[i]? = some (boxR g ty row)) {v:Value} (hv:row[k]? = some v):w.cell? ⟨g,k,none⟩=some v:=by
 have h1:=h.at_ i hi
 simp only [World.cell?,h1]
 simpa using hv
theorem Sep.frozen (h:Sep w0 F0 w R) (i k:Nat) {g:Nat} {ty:TypeId} {row:List Value} (hi:R[i]? = some (boxR g ty row)):w.frozen? ⟨g,k,none⟩=false:=by
 have h1:=h.at_ i hi
 simp [World.frozen?,h1]
theorem Sep.setCell (h:Sep w0 F0 w R) (i:Nat) {g:Nat} {ty:TypeId} {row row':List Value} (hi:R[i]? = some (boxR g ty row)) (k:Nat) (v:Value) (hr:row.set k v=row'):Sep w0 F0 (w.setCell ⟨g,k,none⟩ v) (R.set i (boxR g ty row')):=by
 have h1:=h.at_ i hi
 refine h.put i hi ((Chg.refl _ _).setCell (.inl (.inl rfl)) v) ?_ fun k' hk=>⟨.inl hk,?_⟩
 · show (w.setCell ⟨g,k,none⟩ v).heap[g]? = _
   rw [World.setCell,←hr]
   simp only [Array.getElem?_modify,if_pos,h1,Option.map_some]
   simp
 · have:=h.lt _ (List.mem_of_getElem? hi) k' hk
   simpa [World.setCell] using this
theorem Sep.setRow (h:Sep w0 F0 w R) (i:Nat) {g:Nat} {ty:TypeId} {row:List Value} (hi:R[i]? = some (boxR g ty row)) (row':List Value):Sep w0 F0 (w.setRow g row'.toArray) (R.set i (boxR g ty row')):=by
 have h1:=h.at_ i hi
 refine h.put i hi ⟨rfl,rfl,rfl,by simp,fun k _ hk=>setRow_other _ _ _ _ fun e=>hk (.inl e)⟩ (setRow_heap _ _ _ _ _ _ h1) fun k' hk=>⟨.inl hk,?_⟩
 have:=h.lt _ (List.mem_of_getElem? hi) k' hk
 simpa using this
theorem Sep.row (h:Sep w0 F0 w R) {base e sz n:Nat} {v:Value} {xs:List Value} (hb:Below w.heap.size w w') (hv:w'.ownsRow base e sz v n xs) (hge:w.heap.size≤base):Sep w0 F0 w' (rowR base e sz n v xs :: R) :=
 h.push hb hv fun k hk=>by have:=hv.lt k hk;omega
theorem Sep.rowNil (h:Sep w0 F0 w R) (base e sz:Nat):Sep w0 F0 w (rowR base e sz 0 (.slice none 0 0) [] :: R) :=
 h.push (Below.refl _ _) (World.ownsRow_nil w base e sz) fun k hk=>by cases hk
theorem Sep.grown (h:Sep w0 F0 w R) (i:Nat) {base e sz n n':Nat} {v v':Value} {xs xs':List Value} (hi:R[i]? = some (rowR base e sz n v xs)) (hv:w'.ownsRow base e sz v' n' xs') (hg:w.grownBy w' v.ownBlock)
   (hn:∀ k,v'.ownBlock=some k→v.ownBlock=some k∨w.heap.size≤k):Sep w0 F0 w' (R.set i (rowR base e sz n' v' xs')) :=
 h.put i hi ⟨hg.os,hg.tape,hg.output,hg.size,fun k hk hF=>hg.block k hk fun e=>hF (.inl e.symm)⟩ hv fun k hk=>⟨hn k hk,(hv.lt k hk).2⟩
end
end Go.Proofs.YtppoiahhaclleaaDoor
namespace Go.Proofs.YtppoiahhaclleaaDoor
open Go.RowKit
theorem sep_load {P:Program} {o:Oper} {a:Act} {w:World} (ty:TypeId) (y:Operand) (ho:o.op=.load ty y) (ad:Addr) (hx:a.eval y=.pointer (some ad)) (cs:Array Value) (d:TypeDesc)
   (hu:P.underlying ty=some d) (hd:(match d with | .struct _ | .array _ _=>true | _=>false)=true) (hi:(P.info? ty).map (·.size)=some cs.size)
   (hc:∀ (j:Nat) (v:Value),cs.toList[j]? = some v→w.cell? (ad.add j)=some v):(execOp a.eval o).run P w=.ok (.value (.agg cs)) w:=by
 have hl:(loadCells ad cs.toList.length).run P w=.ok cs.toList.toArray w:=run_loadCells_list (P:=P) w ad cs.toList hc
 have hv:(loadVar ty ad).run P w=.ok (.agg cs) w:=by
   cases hq:P.info? ty with
   | none=>simp [hq] at hi
   | some i =>
     have hs:i.size=cs.size:=by simpa [hq] using hi
     have hagg:(isAgg ty).run P w=.ok true w:=by
       unfold isAgg
       rw [Sem.run_bind,run_underlying hu w]
       cases d <;> simp_all
     simp only [Array.length_toList,Array.toArray_toList] at hl
     simp [loadVar,Sem.run_bind,hagg,sizeOf,typeInfo,hq,hs,hl]
 unfold execOp
 simp only [ho,hx,Instr.loadAt,Instr.sureAddr,Sem.run_bind,Sem.run_pure,Result.andThen_ok,hv]
theorem sep_add (b o j:Nat):Addr.add ⟨b,o,none⟩ j=⟨b,o+j,none⟩:=by unfold Addr.add;split <;> simp_all
theorem sep_store {P:Program} {o:Oper} {a:Act} {w:World} (ty:TypeId) (x y:Operand) (ho:o.op=.store ty x y) (g:Nat) (cells:Array Value) (hx:a.eval x=.pointer (some ⟨g,0,none⟩)) (hy:a.eval y=.agg cells)
   (t:TypeId) (old:Array Value) (hg:w.heap[g]? = some (.cells old t (0,0))) (hi:(P.info? ty).map (·.size)=some cells.size) (hold:old.size=cells.size) (h1:cells.all (·.oneCell')=true) :
   (execOp a.eval o).run P w=.ok .skip (w.setRow g cells):=by
 unfold execOp
 simp only [ho,hx,hy,Instr.storeAt,Instr.sureAddr,Sem.run_bind,Sem.run_pure,Result.andThen_ok,run_storeVar_row w g t ty old cells hg hi hold h1]
section
variable {P:Program} {ops:Array Oper} {rest:List Oper} {o:Oper} {a:Act} {w w0:World} {Q:Exit→Act→World→Prop} {F0:Nat→Prop} {R:List Res}
theorem sep_val (hw:Region.wanted o (yielded ops a.tmps)=true) {v:Value} (h:(execOp a.eval o).run P w=.ok (.value v) w) (k:wpList P ops Q rest (a.put o.dst v) w):wpList P ops Q (o :: rest) a w :=
 wpList_step fun K hK=>by rw [if_pos hw];unfold Oper.wp;rw [h];exact hK _ _ k
theorem Sep.exec (h:Sep w0 F0 w R) (i:Nat) {g:Nat} {ty:TypeId} {row:List Value} (hi:R[i]? = some (boxR g ty row)) (y:Operand) (ho:o.op=.load ty y) (hx:a.eval y=.pointer (some ⟨g,0,none⟩))
   {d:TypeDesc} (hu:P.underlying ty=some d) (hd:(match d with | .struct _ | .array _ _=>true | _=>false)=true) (hs:(P.info? ty).map (·.size)=some row.toArray.size):(execOp a.eval o).run P w=.ok (.value (.agg row.toArray)) w :=
 sep_load ty y ho ⟨g,0,none⟩ hx _ _ hu hd hs fun j v hv=>by
   rw [sep_add,Nat.zero_add]
   exact h.cell i j hi (by simpa using hv)
theorem Sep.load (h:Sep w0 F0 w R) (i:Nat) {g:Nat} {ty:TypeId} {row:List Value} (hi:R[i]? = some (boxR g ty row)) (y:Operand) (ho:o.op=.load ty y) (hx:a.eval y=.pointer (some ⟨g,0,none⟩)) (hw:Region.wanted o (yielded ops a.tmps)=true)
   {d:TypeDesc} (hu:P.underlying ty=some d) (hd:(match d with | .struct _ | .array _ _=>true | _=>false)=true) (hs:(P.info? ty).map (·.size)=some row.toArray.size)
   (k:wpList P ops Q rest (a.put o.dst (.agg row.toArray)) w):wpList P ops Q (o :: rest) a w :=
 sep_val hw (h.exec i hi y ho hx hu hd hs) k
end
theorem one_result {P:Program} {fn:Func} {p:Tmp} {ty:TypeId} (h:fn.results=#[.cell p ty]) (tmps:Array Value) (w:World) (g:Nat) (t:TypeId) (cs:Array Value) (fr:Nat×Nat) (d:TypeDesc)
   (hp:tmps.getD p undef=.pointer (some ⟨g,0,none⟩)) (hg:w.heap[g]? = some (.cells cs t fr))
   (hu:P.underlying ty=some d) (hd:(match d with | .struct _ | .array _ _=>true | _=>false)=true) (hi:(P.info? ty).map (·.size)=some cs.size) :
   (results fn tmps).run P w=.ok (.agg cs) w:=by
 have hp':tmps[p]?.getD undef=.pointer (some ⟨g,0,none⟩):=by simpa using hp
 simp [results,h,hp',asAddr,run_loadVar_row w g t ty cs fr d hg hu hd hi]
end Go.Proofs.YtppoiahhaclleaaDoor
namespace Go.Proofs.YtppoiahhaclleaaDoor
open Go.RowKit
theorem infoI:(Tryd.prog.info? 3).map (fun i=>(i.zero,i.size,i.bytes))=some (some (.int .i64 0),1,8):=by kernel_rfl
def intV (l:List Int):List Value:=l.map (Value.int .i64)
theorem intV_len (l:List Int):(intV l).length=l.length:=by simp [intV]
theorem flat_ints (l:List Int):(l.map fun n=>[Value.int .i64 n]).flatten=intV l:=by
 unfold intV
 induction l with
 | nil=>rfl
 | cons a l ih=>simp only [List.map_cons,List.flatten_cons,ih];rfl
theorem own_form {w:World} {base e sz n:Nat} {v:Value} {xs:List Value} (h:w.ownsRow base e sz v n xs):∃ A c,v=.slice A n c:=by
 rcases h.2 with ⟨rfl,rfl⟩ | ⟨g,cap,cur,rfl,_⟩
 · exact ⟨none,0,rfl⟩
 · exact ⟨_,_,rfl⟩
theorem own_lt {w:World} {base e sz n:Nat} {v:Value} {xs:List Value} (h:w.ownsRow base e sz v n xs):∀ g,v.ownBlock=some g→g < w.heap.size∧base≤g:=by
 intro k hk
 rcases h.2 with ⟨h1,_⟩ | ⟨g,cap,cur,h1,hg,h2,_⟩
 · rw [h1] at hk;cases hk
 · rw [h1] at hk
   cases hk
   rcases Nat.lt_or_ge g w.heap.size with h' | h'
   · exact ⟨h',hg⟩
   · rw [Array.getElem?_eq_none h'] at h2;cases h2
theorem own_take {w:World} {base e:Nat} {A:Option Addr} {n c:Nat} {xs:List Value} (h:w.ownsRow base e 1 (.slice A n c) n xs) {k:Nat} (hk:k≤n):w.ownsRow base e 1 (.slice A k c) k (xs.take k):=by
 have hlen:=h.1
 refine ⟨by rw [List.length_take,hlen];omega,?_⟩
 rcases h.2 with ⟨h1,h2⟩ | ⟨g,cap,cur,hv,hg,hh,hnc,hcm,hcs,htk⟩
 · cases h1
   obtain rfl:k=0:=by omega
   exact .inl ⟨rfl,rfl⟩
 · cases hv
   refine .inr ⟨g,c,cur,rfl,hg,hh,by omega,hcm,hcs,?_⟩
   rw [←htk,List.take_take]
   congr 1
   omega
theorem nums_own {w:World} {base:Nat} {v:Value} {l:List Int} (h:w.ownsRow base 3 1 v l.length (intV l)):NumsAt w (fun k=>v.ownBlock=some k) v l:=by
 have hsz:∀ r∈(l.map fun n=>[Value.int .i64 n]),r.length=1:=by intro r hr;obtain ⟨x,_,rfl⟩:=List.mem_map.1 hr;rfl
 have hfl:=flat_ints l
 rcases Nat.eq_zero_or_pos l.length with h0 | hpos
 · obtain rfl:=List.eq_nil_of_length_eq_zero h0
   rcases h.2 with ⟨rfl,_⟩ | ⟨g,cap,cur,rfl,_,_,hnc,_⟩
   · exact ⟨none,0,rfl,by simp,by simp,fun h=>absurd rfl h⟩
   · exact ⟨_,cap,rfl,by simp,by simp,fun h=>absurd rfl h⟩
 · rw [←hfl] at h
   obtain ⟨g,cap,rfl,hg,hnc,hrow⟩:=rowsBlk_of_own h hsz hpos
   refine ⟨_,cap,by simp,by simpa using hnc,hsz,fun _=>⟨g,0,rfl,rfl,fun i j r u hr hu=>?_⟩⟩
   rw [Nat.zero_add]
   exact hrow.cell hr hu
theorem nums_blk {w:World} {g:Nat} {l:List Int} {t:Nat} (h:w.heap[g]? = some (.cells (intV l).toArray t (0,0))):NumsAt w (fun k=>k=g) (.slice (some ⟨g,0,none⟩) l.length l.length) l:=by
 refine ⟨_,l.length,by simp,by simp,by intro r hr;obtain ⟨x,_,rfl⟩:=List.mem_map.1 hr;rfl,fun _=>⟨g,0,rfl,rfl,fun i j r u hr hu=>?_⟩⟩
 have hm:=List.mem_of_getElem? hr
 obtain ⟨x,_,rfl⟩:=List.mem_map.1 hm
 obtain ⟨rfl,rfl⟩:j=0∧u=.int .i64 x:=by
   cases j with
   | zero=>simp at hu;exact ⟨rfl,hu.symm⟩
   | succ j=>simp at hu
 rw [List.getElem?_map] at hr
 simp only [World.cell?,h]
 cases hi:l[i]? with
 | none=>rw [hi] at hr;cases hr
 | some y =>
   rw [hi] at hr
   simp only [Option.map_some,Option.some.injEq,List.cons.injEq,and_true] at hr
   unfold intV
   simp [hi,hr]
variable {o:Oper} {a:Act} {w:World}
theorem exec_int1 {p:Int} (x:Operand) (ho:o.op=.buildSlice 35 1 #[(0,x)]) (hx:a.eval x=.int .i64 p) :
   (execOp a.eval o).run Tryd.prog w=.ok (.value (.slice (some ⟨w.heap.size,0,none⟩) 1 1)) (w.alloc (.cells (intV [p]).toArray 3)):=by
 obtain ⟨j0,hie,hy0,hy1,hy2⟩:=info_parts infoI
 have h:=run_buildSlice (P:=Tryd.prog) w 35 3 1 #[(0,.int .i64 p)] #[.int .i64 p] j0 _ Tryd.underlying35 hie hy0 (by rw [hy1];decide) (by rw [hy1];decide) (by rw [hy1];kernel_rfl)
 unfold execOp
 simp only [ho,hx,List.map_toArray,List.map_cons,List.map_nil,Sem.run_bind,h,Result.andThen_ok,Sem.run_pure,intV]
theorem exec_int2 {p q:Int} (x y:Operand) (ho:o.op=.buildSlice 35 2 #[(0,x),(1,y)]) (hx:a.eval x=.int .i64 p) (hy:a.eval y=.int .i64 q) :
   (execOp a.eval o).run Tryd.prog w=.ok (.value (.slice (some ⟨w.heap.size,0,none⟩) 2 2)) (w.alloc (.cells (intV [p,q]).toArray 3)):=by
 obtain ⟨j0,hie,hy0,hy1,hy2⟩:=info_parts infoI
 have h:=run_buildSlice (P:=Tryd.prog) w 35 3 2 #[(0,.int .i64 p),(1,.int .i64 q)] #[.int .i64 p,.int .i64 q] j0 _ Tryd.underlying35 hie hy0 (by rw [hy1];decide) (by rw [hy1];decide) (by rw [hy1];kernel_rfl)
 unfold execOp
 simp only [ho,hx,hy,List.map_toArray,List.map_cons,List.map_nil,Sem.run_bind,h,Result.andThen_ok,Sem.run_pure,intV]
theorem exec_int3 {p q r:Int} (x y z:Operand) (ho:o.op=.buildSlice 35 3 #[(0,x),(1,y),(2,z)]) (hx:a.eval x=.int .i64 p) (hy:a.eval y=.int .i64 q) (hz:a.eval z=.int .i64 r) :
   (execOp a.eval o).run Tryd.prog w=.ok (.value (.slice (some ⟨w.heap.size,0,none⟩) 3 3)) (w.alloc (.cells (intV [p,q,r]).toArray 3)):=by
 obtain ⟨j0,hie,hy0,hy1,hy2⟩:=info_parts infoI
 have h:=run_buildSlice (P:=Tryd.prog) w 35 3 3 #[(0,.int .i64 p),(1,.int .i64 q),(2,.int .i64 r)] #[.int .i64 p,.int .i64 q,.int .i64 r] j0 _ Tryd.underlying35 hie hy0 (by rw [hy1];decide) (by rw [hy1];decide) (by rw [hy1];kernel_rfl)
 unfold execOp
 simp only [ho,hx,hy,hz,List.map_toArray,List.map_cons,List.map_nil,Sem.run_bind,h,Result.andThen_ok,Sem.run_pure,intV]
theorem exec_append1 {base n:Nat} {v:Value} {l:List Int} {p:Int} {g:Nat} (s x:Operand) (ho:o.op=.call { callee:=.builtin .append,args:=#[s,x],argTypes:=#[35,35] })
   (hs:a.eval s=v) (hn:l.length=n) (hown:w.ownsRow base 3 1 v n (intV l)) (hx:a.eval x=.slice (some ⟨g,0,none⟩) 1 1) (hg:w.heap[g]? = some (.cells (intV [p]).toArray 3 (0,0))) (h63:n≤1000000000) (hbase:base≤w.heap.size) :
   ∃ v' w',(execOp a.eval o).run Tryd.prog w=.ok (.value v') w'∧w'.ownsRow base 3 1 v' (n+1) (intV (l++[p]))∧w.grownBy w' v.ownBlock∧(v'.ownBlock=v.ownBlock∨v'.ownBlock=some w.heap.size):=by
 obtain ⟨j0,hie,hy0,hy1,hy2⟩:=info_parts infoI
 obtain ⟨v',w',h1,h2,h3,_,h5⟩:=run_append_own_at (P:=Tryd.prog) w base 35 o.type 3 j0 (.int .i64 0) 1 8 Tryd.underlying35 hie hy0 hy1 hy2 rfl (by decide) v n (intV l) hown ⟨g,0,none⟩ 1 1 [.int .i64 p] rfl
   (by simpa [intV] using World.news_of_block (cs:=(intV [p]).toArray) (t:=3) (fr:=(0,0)) hg) (by simp [Value.oneCell']) (by unfold maxLen;omega) (by omega) hbase
 refine ⟨v',w',?_,by simpa [intV] using h2,h3,h5⟩
 unfold execOp
 simp only [ho,resolve,invoke,builtin,hs,hx,List.map_toArray,List.map_cons,List.map_nil,Sem.run_bind,h1,Result.andThen_ok,Sem.run_pure]
theorem exec_store1 {P:Program} {o:Oper} {a:Act} {w:World} (ty:TypeId) (x y:Operand) (ho:o.op=.store ty x y) (g k:Nat) (v:Value) (hx:a.eval x=.pointer (some ⟨g,k,none⟩)) (hy:a.eval y=v) (hi:(P.info? ty).map (·.size)=some 1)
   (hc:(w.cell? ⟨g,k,none⟩).isSome=true) (hf:w.frozen? ⟨g,k,none⟩=false) (h1:v.oneCell'=true):(execOp a.eval o).run P w=.ok .skip (w.setCell ⟨g,k,none⟩ v):=by
 have hs:(storeVar ty ⟨g,k,none⟩ v).run P w=.ok () (w.setCell ⟨g,k,none⟩ v):=by
   have:=run_storeCells_cells (P:=P) g k [v] 0 w (fun j hj=>by
     obtain rfl:j=0:=by simpa using hj
     simpa using hc) (fun j hj=>by
     obtain rfl:j=0:=by simpa using hj
     simpa using hf) (fun u hu=>by simp at hu;subst hu;exact h1)
   have hcs:v.cells=#[v]:=by cases v <;> first | rfl | cases h1
   cases hq:P.info? ty with
   | none=>simp [hq] at hi
   | some i =>
     have hs:i.size=1:=by simpa [hq] using hi
     simp only [Nat.add_zero,World.setCells] at this
     simp [storeVar,sizeOf,typeInfo,hq,hcs,hs,this]
 unfold execOp
 simp only [ho,hx,hy,Instr.storeAt,Instr.sureAddr,Sem.run_bind,Sem.run_pure,Result.andThen_ok,hs]
end Go.Proofs.YtppoiahhaclleaaDoor
namespace Go.Proofs.YtppoiahhaclleaaDoor
open Go.RowKit
set_option maxRecDepth 100000
def chkRow (regs:Int) (vb vo:Value) (m:List Bool) (vl:Value):List Value:=[.int .i64 regs,vb,vo]++(m.map Value.bool++[vl])
theorem setCell_row {w:World} {b ty:Nat} {row:List Value} (h:w.heap[b]? = some (.cells row.toArray ty (0,0))) (k:Nat) (v:Value):(w.setCell ⟨b,k,none⟩ v).heap[b]? = some (.cells (row.set k v).toArray ty (0,0)):=by
 rw [World.setCell]
 simp only [Array.getElem?_modify,if_pos,h,Option.map_some]
 simp
theorem cell_row {w:World} {b ty:Nat} {row:List Value} (h:w.heap[b]? = some (.cells row.toArray ty (0,0))) {k:Nat} {v:Value} (hv:row[k]? = some v):w.cell? ⟨b,k,none⟩=some v:=by
 simp only [World.cell?,h]
 simpa using hv
theorem frozen_row {w:World} {b ty:Nat} {row:List Value} (h:w.heap[b]? = some (.cells row.toArray ty (0,0))) (k:Nat):w.frozen? ⟨b,k,none⟩=false:=by simp [World.frozen?,h]
theorem chk_made {regs:Int} {vb vo vl:Value} {m:List Bool} {q:Nat} {x:Bool} (h:m[q]? = some x):(chkRow regs vb vo m vl)[3+q]? = some (.bool x):=by
 unfold chkRow
 have hq:=(List.getElem?_eq_some_iff.1 h).1
 rw [List.getElem?_append_right (by simp),List.getElem?_append_left (by simp;omega)]
 simp [h]
theorem chk_set {regs:Int} {vb vo vl:Value} {m:List Bool} {q:Nat} (is:Bool) (h:q < m.length):(chkRow regs vb vo m vl).set (3+q) (.bool is)=chkRow regs vb vo (m.set q is) vl:=by
 unfold chkRow
 rw [List.set_append_right _ _ (by simp),List.set_append_left _ _ (by simp;omega)]
 simp [List.map_set]
theorem chk_loops {regs:Int} {vb vo vl:Value} {m:List Bool} (hm:m.length=64):(chkRow regs vb vo m vl)[67]? = some vl:=by
 unfold chkRow
 rw [List.getElem?_append_right (by simp),List.getElem?_append_right (by simp;omega)]
 simp [hm]
theorem chk_setL {regs:Int} {vb vo vl:Value} {m:List Bool} (v:Value) (hm:m.length=64):(chkRow regs vb vo m vl).set 67 v=chkRow regs vb vo m v:=by
 unfold chkRow
 rw [List.set_append_right _ _ (by simp),List.set_append_right _ _ (by simp;omega)]
 simp [hm]
def putL (l:List Int) (m:List Bool) (is:Bool):List Bool:=l.foldl (fun m r=>putF m r is) m
theorem putL_len (l:List Int) (is:Bool):∀ m,(putL l m is).length=m.length:=by
 induction l with
 | nil=>intro m;rfl
 | cons r l ih=>intro m;show (putL l (putF m r is) is).length=_;rw [ih,put_len]
theorem putL_take {l:List Int} {k:Nat} {r:Int} (h:l[k]? = some r) (m:List Bool) (is:Bool):putL (l.take (k+1)) m is=putF (putL (l.take k) m is) r is:=by
 unfold putL
 rw [List.take_add_one,h,List.foldl_append]
 rfl
def ChkAt (w:World) (b:Nat) (regs:Int) (vb vo:Value) (m:List Bool) (vl:Value):Prop:=w.heap[b]? = some (.cells (chkRow regs vb vo m vl).toArray 95 (0,0))
set_option maxHeartbeats 1600000 in
theorem put_any (b:Nat) (is:Bool) (v:Value) (l:List Int) (m:List Bool) (regs:Int) (vb vo vl:Value) (w:World) (F:Nat→Prop) (hm:m.length=64) (hb:ChkAt w b regs vb vo m vl) (hl:NumsAt w F v l) (hF:∀ k,F k→k < w.heap.size∧k≠b)
   (hr:∀ r∈l,r < 64) (hn:l.length≤9223372036854775807) :
   Calls Tryd.prog 67 #[.pointer (some ⟨b,3,none⟩),.bool is,v] w fun e w'=>e=.returned (.tuple #[])∧Chg (fun k=>k=b) w w'∧ChkAt w' b regs vb vo (putL l m is) vl:=by
 obtain ⟨A,c,rfl,_⟩:=rows_form hl
 have HL:=Lh hl
 have HF:=Lh hF
 have HR:=Lh hr
 have HM:=Lh hm
 have HB:=Lh hb
 generalize hnl:l.length=n at *
 have HNL:=Lh hnl
 clear hl hF hr hm hb hnl
 go_enter Tryd.func67,Tryd.ntmps67
 go_wp2
 go_loopw [10] (fun i wr=>∃ k:Nat,k≤n∧i=.int .i64 k∧Chg (fun k=>k=b) w wr∧ChkAt wr b regs vb vo (putL (l.take k) m is) vl) (fun i _=>n - (intOf i).toNat)
 case atStart=>exact ⟨0,by omega,rfl,Chg.refl _ _,by simpa [putL] using HB.out⟩
 case round =>
   obtain ⟨k,hk,rfl,hch,hcb⟩:=hrel
   have HCH:=Lh hch
   have HCB:=Lh hcb
   clear hch hcb
   by_cases hlt:k < n
   · obtain ⟨r,hr⟩:∃ r,l[k]? = some r:=⟨_,List.getElem?_eq_getElem (by have:=HNL.out;omega)⟩
     obtain ⟨g,off,rfl,hFb,h0⟩:=HL.out.at_ hr
     have g0:wr.cell? ⟨g,off+k,none⟩=some (.int .i64 r):=(World.cell?_of_block (w:=w) (HCH.out.block g (HF.out g hFb).1 (HF.out g hFb).2)).trans h0
     have hr64:=HR.out r (List.mem_of_getElem? hr)
     have HT:=Lh (putL_take hr m is)
     have i0:(0:Int)≤(k:Int):=by omega
     have i1:(k:Int) < (n:Int):=by omega
     clear h0 hr hFb
     by_cases r0:0≤r
     · have d0:decide ((0:Int)≤r)=true:=decide_eq_true r0
       obtain ⟨q,rfl⟩:∃ q:Nat,r=q:=⟨r.toNat,by omega⟩
       have hlen:(putL (l.take k) m is).length=64:=by rw [putL_len];exact HM.out
       obtain ⟨x,hx⟩:∃ x,(putL (l.take k) m is)[q]? = some x:=⟨_,List.getElem?_eq_getElem (by omega)⟩
       have b0:wr.cell? ⟨b,3+q,none⟩=some (.bool x):=cell_row HCB.out (chk_made hx)
       have f0:wr.frozen? ⟨b,3+q,none⟩=false:=frozen_row HCB.out _
       have HN:=Lh (show ChkAt (wr.setCell ⟨b,3+q,none⟩ (.bool is)) b regs vb vo (putL (l.take (k+1)) m is) vl by
         have:=setCell_row HCB.out (3+q) (.bool is)
         rw [chk_set is (by omega)] at this
         rw [HT.out]
         unfold putF
         rw [if_pos (by omega),Int.toNat_natCast]
         exact this)
       have q0:(0:Int)≤(q:Int):=by omega
       have q1:(q:Int) < 64:=by omega
       clear hx hlen r0 hr64
       go_wp2
       go_roundw
       case rel=>exact ⟨k+1,by omega,by go_num,HCH.out.setCell (.inl rfl) _,HN.out⟩
       case measure=>simp [intOf];omega
     · have d0:decide ((0:Int)≤r)=false:=decide_eq_false r0
       have HN:=Lh (show ChkAt wr b regs vb vo (putL (l.take (k+1)) m is) vl by
         rw [HT.out]
         unfold putF
         rw [if_neg r0]
         exact HCB.out)
       clear r0
       go_wp2
       go_roundw
       case rel=>exact ⟨k+1,by omega,by go_num,HCH.out,HN.out⟩
       case measure=>simp [intOf];omega
   · go_wp2
     refine bodyPost_end (v:=.tuple #[]) (results_none rfl _ _ _) rfl ?_
     refine ⟨rfl,HCH.out,?_⟩
     have:=HCB.out
     rwa [List.take_of_length_le (by have:=HNL.out;omega)] at this
set_option maxHeartbeats 1600000 in
theorem lacks1_any (r:Int) (g o:Nat) (m:List Bool) (w:World) (hm:m.length=64) (hc:∀ (q:Nat) (x:Bool),m[q]? = some x→w.cell? ⟨g,o+q,none⟩=some (.bool x)) (hr:r < 64) :
   Calls Tryd.prog 81 #[.int .i64 r,.pointer (some ⟨g,o,none⟩)] w fun e w'=>e=.returned (.bool (lackF m r))∧Below w.heap.size w w':=by
 by_cases r0:0≤r
 · have d0:decide ((0:Int)≤r)=true:=decide_eq_true r0
   obtain ⟨q,rfl⟩:∃ q:Nat,r=q:=⟨r.toNat,by omega⟩
   obtain ⟨x,hx⟩:∃ x,m[q]? = some x:=⟨_,List.getElem?_eq_getElem (by omega)⟩
   have b0:=hc q x hx
   have hv:lackF m q=!x:=by
     unfold lackF madeF
     rw [decide_eq_true r0,Int.toNat_natCast,List.getD_eq_getElem?_getD,hx]
     rfl
   rw [hv]
   have q0:(0:Int)≤(q:Int):=by omega
   have q1:(q:Int) < 64:=by omega
   clear hx hc hv r0 hr hm
   cases x
   · go_enter Tryd.func81,Tryd.ntmps81
     go_wp2
     go_ret
     exact ⟨rfl,Below.refl _ _⟩
   · go_enter Tryd.func81,Tryd.ntmps81
     go_wp2
     go_ret
     exact ⟨rfl,Below.refl _ _⟩
 · have d0:decide ((0:Int)≤r)=false:=decide_eq_false r0
   have hv:lackF m r=false:=by unfold lackF;rw [d0];rfl
   rw [hv]
   clear hv r0 hr hm hc
   go_enter Tryd.func81,Tryd.ntmps81
   go_wp2
   go_ret
   exact ⟨rfl,Below.refl _ _⟩
set_option maxHeartbeats 1600000 in
theorem lacks_any (m:List Bool) (v:Value) (l:List Int) (w:World) (F:Nat→Prop) (hm:m.length=64) (hl:NumsAt w F v l) (hF:∀ k,F k→k < w.heap.size) (hr:∀ r∈l,r < 64) (hn:l.length≤9223372036854775807) :
   Calls Tryd.prog 69 #[.agg (m.map Value.bool).toArray,v] w fun e w'=>e=.returned (.bool (l.any (lackF m)))∧Below w.heap.size w w':=by
 obtain ⟨W,hW,hbW,hzW,hcW,hoW⟩:=boxed w (m.map Value.bool).toArray 93
 have HC:=Lh (ContainsFunc_Int v 81 #[.pointer (some ⟨w.heap.size,0,none⟩)] W F l (lackF m) hn (fun _ _=>rfl) (Rows.keep hl (SameOn.of_below hbW hF)) (fun k hk=>Nat.lt_of_lt_of_le (hF k hk) hbW.size)
   (fun r hr' wr hb=>lacks1_any r w.heap.size 0 m wr hm (fun q x hx=>by
     rw [hb.cell (p:=⟨w.heap.size,0+q,none⟩) (show w.heap.size < W.heap.size by omega)]
     rw [Nat.zero_add,hcW]
     simp [hx]) (hr r hr')))
 have HW:=Lh hW
 have HB:=Lh hbW
 clear hW hbW hzW hcW hoW hl hF hr hm hn
 obtain ⟨a,ha⟩:∃ a,(m.map Value.bool).toArray=a:=⟨_,rfl⟩
 rw [ha] at HW ⊢
 clear ha
 go_enter Tryd.func69,Tryd.ntmps69
 go_upto_region 1 with fail
 rw [←HW.out]
 go_wp2_with ((with_reducible refine (HC.out).mono ?_);rintro e w1 ⟨rfl,hb1⟩)
 go_ret
 exact ⟨rfl,HB.out.trans (hb1.mono HB.out.size)⟩
set_option maxHeartbeats 1600000 in
theorem in_any (b:Nat) (r:Int) (loops:List Int) (m:List Bool) (regs:Int) (vb vo vl:Value) (w:World) (F:Nat→Prop) (hm:m.length=64) (hC:ChkAt w b regs vb vo m vl) (hl:NumsAt w F vl loops) (hn:loops.length≤9223372036854775807) :
   Calls Tryd.prog 68 #[.pointer (some ⟨b,0,none⟩),.int .i64 r] w fun e w'=>e=.returned (.bool (inF loops r))∧w=w':=by
 have HI:=Lh (Contains_int vl r w F loops hn hl)
 obtain ⟨A,c,rfl,_⟩:=rows_form hl
 have b0:w.cell? ⟨b,67,none⟩=some (.slice A loops.length c):=cell_row hC (chk_loops hm)
 clear hm hC hl
 by_cases r0:0≤r
 · have d0:decide ((0:Int)≤r)=true:=decide_eq_true r0
   have hv:inF loops r=loops.contains r:=by unfold inF;rw [d0];rfl
   rw [hv]
   obtain ⟨q,hq⟩:∃ q,loops.contains r=q:=⟨_,rfl⟩
   rw [hq] at HI ⊢
   clear hv r0 hq
   go_enter Tryd.func68,Tryd.ntmps68
   go_wp2_with ((with_reducible refine (HI.out).mono ?_);rintro e w1 ⟨rfl,rfl⟩)
   go_ret
   exact ⟨rfl,rfl⟩
 · have d0:decide ((0:Int)≤r)=false:=decide_eq_false r0
   have hv:inF loops r=false:=by unfold inF;rw [d0];rfl
   rw [hv]
   clear hv r0
   go_enter Tryd.func68,Tryd.ntmps68
   go_wp2
   go_ret
   exact ⟨rfl,rfl⟩
end Go.Proofs.YtppoiahhaclleaaDoor
