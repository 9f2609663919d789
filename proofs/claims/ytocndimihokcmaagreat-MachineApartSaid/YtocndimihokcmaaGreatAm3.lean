/- Part 3 of a claim; what it proves stands in its last text. -/
import Derived.Test.YtocndimihokcmaaGreatAm1
import Derived.Shelf.Small.Bits
import Derived.Shelf.Strconv.Itoa0
import Derived.Test.YtocndimihokcmaaGreatProg
import Derived.Maps.AppendAt
namespace Go.Proofs.YtocndimihokcmaaGreat
open Go.RowKit
def firstAt (p:Nat→Bool) (n k:Nat):Int:=match (List.range' k (n - k)).find? p with | some i=>i | none=>-1
theorem firstAt_yes {p:Nat→Bool} {n k:Nat} (h:k < n) (hp:p k=true):firstAt p n k=k:=by
 have:n - k=(n - k - 1)+1:=by omega
 rw [firstAt,this,List.range'_succ,List.find?_cons,hp]
theorem firstAt_no {p:Nat→Bool} {n k:Nat} (h:k < n) (hp:p k=false):firstAt p n k=firstAt p n (k+1):=by
 have:n - k=(n - (k+1))+1:=by omega
 rw [firstAt,this,List.range'_succ,List.find?_cons,hp];rfl
theorem firstAt_end {p:Nat→Bool} {n:Nat}:firstAt p n n = -1:=by simp [firstAt]
theorem firstAt_any (p:Reg→Bool) (l:List Reg) (d:Reg):decide (0≤firstAt (fun k=>p (l.getD k d)) l.length 0)=l.any p:=by
 have key:∀ m k,m+k=l.length→decide (0≤firstAt (fun k=>p (l.getD k d)) l.length k)=(l.drop k).any p:=by
   intro m
   induction m with
   | zero => intro k h; obtain rfl : k = l.length := by omega
             simp [firstAt_end]
   | succ m ih =>
     intro k h
     have hk:k < l.length:=by omega
     rw [List.drop_eq_getElem_cons hk,List.any_cons]
     have hg:l.getD k d=l[k]:=by simp [List.getD,hk]
     cases hp:p l[k]
     · rw [firstAt_no hk (by simp only [hg,hp]),ih (k+1) (by omega)];simp
     · rw [firstAt_yes hk (by simp only [hg,hp])];simp
 simpa using key l.length 0 (by omega)
def regV (r:Reg) (A:Option Addr) (c:Nat):Value:=.agg #[.int .u64 r.base,.slice A r.bytes.length c,.bool r.write]
set_option maxHeartbeats 400000 in
theorem IndexFunc_any (A:Option Addr) (n c:Nat) (g:Nat) (cap:Array Value) (w:World) (F:Nat→Prop) (l:List Reg) (d:Reg) (p:Reg→Bool) (hn:n≤9223372036854775807)
   (hg:∀ args w,(callFunc g args).run Tryz.prog w=.ok (.enter g args) w) (hl:RegsAt w F (.slice A n c) l) (hF:∀ k,F k→k < w.heap.size)
   (hf:∀ r∈l,∀ wr,Below w.heap.size w wr→∀ A c,BytesAt w F (.slice A r.bytes.length c) r.bytes→Calls Tryz.prog g (#[regV r A c]++cap) wr fun e w'=>e=.returned (.bool (p r))∧Below wr.heap.size wr w') :
   Calls Tryz.prog 77 #[.slice A n c,.func (.func g) #[] cap] w fun e w'=>e=.returned (.int .i64 (firstAt (fun k=>p (l.getD k d)) n 0))∧Below w.heap.size w w':=by
 obtain ⟨hnl,hnc⟩:=hl.len
 have HNL:=Lh hnl;clear hnl
 generalize hpp:(fun k=>p (l.getD k d))=q
 have HPP:=Lh hpp;clear hpp
 have H:=Lh hf;clear hf
 have HL:=Lh hl;clear hl
 have HF:=Lh hF;clear hF
 go_enter Tryz.func77,Tryz.ntmps77
 go_wp2
 go_loopw [5,8] (fun _ i wr=>∃ k:Nat,k≤n∧i=.int .i64 k∧Below w.heap.size w wr∧firstAt q n 0=firstAt q n k) (fun _ i _=>n - (intOf i).toNat)
 case atStart=>exact ⟨0,by omega,rfl,Below.refl _ _,rfl⟩
 case round =>
   obtain ⟨k,hk,rfl,hbl,hfi⟩:=hrel
   have HFI:=Lh hfi;clear hfi
   by_cases hlt:k < n
   · obtain ⟨r,hr⟩:∃ r,l[k]? = some r:=⟨_,List.getElem?_eq_getElem (by have:=HNL.out;omega)⟩
     obtain ⟨b,off,A',c',rfl,hFb,h0,h1,h2,hby,_⟩:=HL.out.at_ hr
     have hb:=HF.out b hFb
     have g0:=(hbl.cell (p:=⟨b,off+k*3,none⟩) hb).trans h0
     have g1:=(hbl.cell (p:=⟨b,off+k*3+1,none⟩) hb).trans h1
     have g2:=(hbl.cell (p:=⟨b,off+k*3+2,none⟩) hb).trans h2
     have Hk:=Lh (H.out r (List.mem_of_getElem? hr) wr hbl A' c' hby)
     have hq:q k=p r:=by rw [←HPP.out];simp [List.getD,hr]
     clear h0 h1 h2 hby hr H
     simp only [regV] at Hk
     cases hp:p r
     · rw [hp] at Hk hq
       have HFN:=Lh ((HFI.out).trans (firstAt_no hlt hq));clear hp HFI hq
       go_wp2_with ((with_reducible refine (Hk.out).mono ?_);rintro e w1 ⟨rfl,hb1⟩)
       go_roundw
       case rel=>exact ⟨k+1,by omega,by go_num,hbl.trans (hb1.mono hbl.size),HFN.out⟩
       case measure=>simp [intOf];omega
     · rw [hp] at Hk hq
       have HFN:=Lh ((HFI.out).trans (firstAt_yes hlt hq));clear hp HFI hq
       go_wp2_with ((with_reducible refine (Hk.out).mono ?_);rintro e w1 ⟨rfl,hb1⟩)
       go_ret
       exact ⟨ret_int HFN.out.symm,hbl.trans (hb1.mono hbl.size)⟩
   · go_wp2
     go_ret
     exact ⟨ret_int (by rw [HFI.out,show k=n from by omega,firstAt_end]),hbl⟩
set_option maxHeartbeats 400000 in
theorem ContainsFunc_any (A:Option Addr) (n c:Nat) (g:Nat) (cap:Array Value) (w:World) (F:Nat→Prop) (l:List Reg) (p:Reg→Bool) (hn:n≤9223372036854775807)
   (hg:∀ args w,(callFunc g args).run Tryz.prog w=.ok (.enter g args) w) (hl:RegsAt w F (.slice A n c) l) (hF:∀ k,F k→k < w.heap.size)
   (hf:∀ r∈l,∀ wr,Below w.heap.size w wr→∀ A c,BytesAt w F (.slice A r.bytes.length c) r.bytes→Calls Tryz.prog g (#[regV r A c]++cap) wr fun e w'=>e=.returned (.bool (p r))∧Below wr.heap.size wr w') :
   Calls Tryz.prog 45 #[.slice A n c,.func (.func g) #[] cap] w fun e w'=>e=.returned (.bool (l.any p))∧Below w.heap.size w w':=by
 have HI:=Lh (IndexFunc_any A n c g cap w F l ⟨0,[],false⟩ p hn hg hl hF hf)
 have HA:=Lh (firstAt_any p l ⟨0,[],false⟩)
 obtain rfl:=hl.len.1
 clear hf hl hF hg
 go_enter Tryz.func45,Tryz.ntmps45
 go_wp2_with ((with_reducible refine (HI.out).mono ?_);rintro e w1 ⟨rfl,hb1⟩)
 go_ret
 exact ⟨ret_bool HA.out,hb1⟩
end Go.Proofs.YtocndimihokcmaaGreat
namespace Go.Proofs.YtocndimihokcmaaGreat
open Go.RowKit
set_option maxRecDepth 100000
theorem wrapU (x:Int):IntKind.u64.wrap x=x % 18446744073709551616:=by simp [IntKind.wrap,IntKind.bits,IntKind.signed]
def lastOf (r:Reg):Nat:=(r.base+r.bytes.length+18446744073709551615) % 18446744073709551616
theorem lastOf_wrap (r:Reg):IntKind.u64.wrap (IntKind.u64.wrap ((r.base:Int)+IntKind.u64.wrap (r.bytes.length:Int)) - 1)=(lastOf r:Int):=by
 simp only [wrapU,lastOf];omega
set_option maxHeartbeats 400000 in
theorem last_any (r:Reg) (w:World) (A:Option Addr) (c:Nat) :
   Calls Tryz.prog 47 #[.agg #[.int .u64 r.base,.slice A r.bytes.length c,.bool r.write]] w fun e w'=>e=.returned (.int .u64 (lastOf r))∧Below w.heap.size w w':=by
 go_enter Tryz.func47,Tryz.ntmps47
 go_wp2
 go_ret
 exact ⟨ret_int (lastOf_wrap r),(Below.refl _ _).alloc (Nat.le_refl _) _⟩
set_option maxHeartbeats 400000 in
theorem Check1_any (r:Reg) (w:World) (A:Option Addr) (c:Nat) :
   Calls Tryz.prog 46 #[.agg #[.int .u64 r.base,.slice A r.bytes.length c,.bool r.write]] w fun e w'=>e=.returned (.bool (decide (1048576 < r.bytes.length)))∧Below w.heap.size w w':=by
 go_enter Tryz.func46,Tryz.ntmps46
 go_wp2
 go_ret
 exact ⟨ret_bool (by simp;omega),(Below.refl _ _).alloc (Nat.le_refl _) _⟩
def meets (o r:Reg):Bool:=decide (o.base≤lastOf r∧r.base≤lastOf o)
set_option maxHeartbeats 400000 in
theorem Check2_any (o r:Reg) (w:World) (A A':Option Addr) (c c':Nat) (br:Nat) (hbr:br < w.heap.size)
   (h0:w.cell? ⟨br,0,none⟩=some (.int .u64 r.base)) (h1:w.cell? ⟨br,1,none⟩=some (.slice A' r.bytes.length c')) (h2:w.cell? ⟨br,2,none⟩=some (.bool r.write)) :
   Calls Tryz.prog 48 #[.agg #[.int .u64 o.base,.slice A o.bytes.length c,.bool o.write],.pointer (some ⟨br,0,none⟩)] w fun e w'=>e=.returned (.bool (meets o r))∧Below w.heap.size w w':=by
 have hd':decide ((o.base:Int)≤(lastOf r:Int))=decide (o.base≤lastOf r):=by simp
 have hm:meets o r=(decide (o.base≤lastOf r) && decide (r.base≤lastOf o)):=by simp [meets]
 have HM:=Lh hm;clear hm
 obtain ⟨W,hW,hbw,hsz,hnew,hold⟩:=boxed w #[.int .u64 o.base,.slice A o.bytes.length c,.bool o.write] 72
 have g0:=(hold br 0 hbr).trans h0
 have g1:=(hold br 1 hbr).trans h1
 have g2:=(hold br 2 hbr).trans h2
 have n0:=hnew 0
 have n1:=hnew 1
 have n2:=hnew 2
 have l0:w.heap.size < W.heap.size:=by omega
 have l1:br < W.heap.size:=by omega
 have HW:=Lh hW
 clear h0 h1 h2 hnew hold hsz hW
 by_cases hd:o.base≤lastOf r
 · rw [decide_eq_true hd] at hd'
   go_enter Tryz.func48,Tryz.ntmps48
   go_wp2
   rw [←HW.out]
   (refine wp_region_lines (Below W.heap.size W) (by kernel_rfl) (by kernel_rfl) (Below.refl _ _).drew ?_)
   have hS:=(Below.refl W.heap.size W).drew
   (try simp only [])
   repeat (first | (refine runL_no (by rfl) ?_;(try simp only [Act.put,List.setIfInBounds_toArray,List.set_cons_zero,List.set_cons_succ])) | (refine runL_val (v:=?_) (by rfl) ?_ ?_;rotate_left;(focus (intro w_ hw_;have hc_:=bcell hw_;go_simp;(try with_reducible rfl);done));(try simp only [Act.put,List.setIfInBounds_toArray,List.set_cons_zero,List.set_cons_succ])) | (refine runL_call (f:=?_) (args:=?_) (w1:=?_) (by rfl) (by rfl) ?_ ?_;rotate_left 3;(focus (go_simp;refine ⟨⟨?_,?_⟩,?_⟩ <;> with_reducible rfl));refine (last_any _ _ _ _).mono ?_;rintro e w1 ⟨rfl,hb1⟩;replace hS:=hS.trans (hb1.mono hS.size);refine ⟨_,rfl,.inr hS,?_⟩;clear hb1;(try simp only [Act.put,List.setIfInBounds_toArray,List.set_cons_zero,List.set_cons_succ])))
   (refine runL_nil ?_)
   go_wp2
   go_ret
   exact ⟨ret_bool (by rw [HM.out];simp [hd]),hbw.trans (hS.mono hbw.size)⟩
 · rw [decide_eq_false hd] at hd'
   go_enter Tryz.func48,Tryz.ntmps48
   go_wp2
   rw [←HW.out]
   (refine wp_region_lines (Below W.heap.size W) (by kernel_rfl) (by kernel_rfl) (Below.refl _ _).drew ?_)
   have hS:=(Below.refl W.heap.size W).drew
   (try simp only [])
   repeat (first | (refine runL_no (by rfl) ?_;(try simp only [Act.put,List.setIfInBounds_toArray,List.set_cons_zero,List.set_cons_succ])) | (refine runL_val (v:=?_) (by rfl) ?_ ?_;rotate_left;(focus (intro w_ hw_;have hc_:=bcell hw_;go_simp;(try with_reducible rfl);done));(try simp only [Act.put,List.setIfInBounds_toArray,List.set_cons_zero,List.set_cons_succ])) | (refine runL_call (f:=?_) (args:=?_) (w1:=?_) (by rfl) (by rfl) ?_ ?_;rotate_left 3;(focus (go_simp;refine ⟨⟨?_,?_⟩,?_⟩ <;> with_reducible rfl));refine (last_any _ _ _ _).mono ?_;rintro e w1 ⟨rfl,hb1⟩;replace hS:=hS.trans (hb1.mono hS.size);refine ⟨_,rfl,.inr hS,?_⟩;clear hb1;(try simp only [Act.put,List.setIfInBounds_toArray,List.set_cons_zero,List.set_cons_succ])))
   (refine runL_nil ?_)
   go_wp2
   go_ret
   exact ⟨ret_bool (by rw [HM.out];simp [hd]),hbw.trans (hS.mono hbw.size)⟩
def chkBad (l:List Reg) (k:Nat):Bool:=match l[k]? with
 | some r=>r.bytes.isEmpty || decide (lastOf r < r.base) || (l.take k).any fun o=>meets o r
 | none=>false
def checkF (l:List Reg):Int:=if 8 < l.length∨(l.any fun r=>decide (1048576 < r.bytes.length))=true then 3 else if (List.range l.length).any (chkBad l)=true then 2 else 0
theorem checkF_long {l:List Reg} (h:8 < l.length∨(l.any fun r=>decide (1048576 < r.bytes.length))=true):checkF l=3:=by rw [checkF,if_pos h]
theorem checkF_bad {l:List Reg} (h:¬ (8 < l.length∨(l.any fun r=>decide (1048576 < r.bytes.length))=true)) {k:Nat} (hk:k < l.length) (hb:chkBad l k=true):checkF l=2:=by
 rw [checkF,if_neg h,if_pos (List.any_eq_true.2 ⟨k,by simpa using hk,hb⟩)]
theorem checkF_ok {l:List Reg} (h:¬ (8 < l.length∨(l.any fun r=>decide (1048576 < r.bytes.length))=true)) (hb:∀ k < l.length,chkBad l k=false):checkF l=0:=by
 rw [checkF,if_neg h,if_neg]
 intro he
 obtain ⟨k,hk,h1⟩:=List.any_eq_true.1 he
 rw [hb k (by simpa using hk)] at h1
 cases h1
set_option maxHeartbeats 800000 in
theorem Check_any (v:Value) (w:World) (F:Nat→Prop) (l:List Reg) (hn:l.length≤9223372036854775807) (hl:RegsAt w F v l) (hF:∀ k,F k→k < w.heap.size) :
   Calls Tryz.prog 25 #[v] w fun e w'=>e=.returned (.int .i64 (checkF l))∧Below w.heap.size w w':=by
 obtain ⟨A,c,rfl,hc⟩:=hl.form
 have HC:=Lh (ContainsFunc_any A l.length c 46 #[] w F l (fun r=>decide (1048576 < r.bytes.length)) hn (fun _ _=>rfl) hl hF
   fun r _ wr _ A c _=>Check1_any r wr A c)
 have HL:=Lh hl;clear hl
 have HF:=Lh hF;clear hF
 have HLN:=Lh hc;clear hc
 generalize hln:l.length=n at *
 have HN:=Lh hln;clear hln
 by_cases h8:8 < n
 · go_enter Tryz.func25,Tryz.ntmps25
   go_wp2
   go_ret
   exact ⟨ret_int (checkF_long (.inl (by have:=HN.out;omega))).symm,Below.refl _ _⟩
 · cases hany:l.any (fun r=>decide (1048576 < r.bytes.length))
   · rw [hany] at HC
     have HLONG:Hid (¬ (8 < l.length∨(l.any fun r=>decide (1048576 < r.bytes.length))=true)):=by rw [hany,HN.out];show ¬ _;simpa using h8
     have h8':decide ((8:Int) < (n:Int))=false:=by simp;omega
     go_enter Tryz.func25,Tryz.ntmps25
     go_wp2_with ((with_reducible refine (HC.out).mono ?_);rintro e w1 ⟨rfl,hb1⟩)
     go_loopw [14] (fun i wr=>∃ k:Nat,k≤n∧i=.int .i64 k∧Below w.heap.size w wr∧∀ j < k,chkBad l j=false) (fun i _=>n - (intOf i).toNat)
     case atStart=>exact ⟨0,by omega,rfl,hb1,fun j hj=>absurd hj (by omega)⟩
     case round =>
       obtain ⟨k,hk,rfl,hbl,hall⟩:=hrel
       have HALL:=Lh hall;clear hall
       by_cases hlt:k < n
       · obtain ⟨r,hr⟩:∃ r,l[k]? = some r:=⟨_,List.getElem?_eq_getElem (by have:=HN.out;omega)⟩
         obtain ⟨b,off,A',c',rfl,hFb,h0,h1,h2,hby,hb64,hlen⟩:=HL.out.at_ hr
         have hb:=HF.out b hFb
         have g0:=(hbl.cell (p:=⟨b,off+k*3,none⟩) hb).trans h0
         have g1:=(hbl.cell (p:=⟨b,off+k*3+1,none⟩) hb).trans h1
         have g2:=(hbl.cell (p:=⟨b,off+k*3+2,none⟩) hb).trans h2
         have HR:=Lh hr
         clear h0 h1 h2 hby hr
         obtain ⟨W,hW,hbw,hsz,hnew,hold⟩:=boxed wr #[.int .u64 r.base,.slice A' r.bytes.length c',.bool r.write] 72
         have n0:=hnew 0
         have n1:=hnew 1
         have n2:=hnew 2
         have m0:wr.heap.size < W.heap.size:=by omega
         have HW:=Lh hW
         have hbl2:=hbl.trans (hbw.mono hbl.size)
         clear hnew hold hsz hW
         have bad:∀ v:Bool,v=(r.bytes.isEmpty || decide (lastOf r < r.base) || (l.take k).any fun o=>meets o r)→chkBad l k=v:=fun v hv=>by rw [hv];unfold chkBad;rw [HR.out]
         have HBAD:=Lh bad;clear bad
         have hemp:∀ b,decide (r.bytes.length=0)=b→(((r.bytes.length:Int)) == 0)=b:=fun b h=>by rw [←h,Bool.eq_iff_iff];simp
         by_cases he:r.bytes.length=0
         · have he':=hemp true (by simpa using he)
           clear hemp
           have hq:r.bytes.isEmpty=true:=by simpa using List.eq_nil_of_length_eq_zero he
           have HB2:=Lh (HBAD.out true (by rw [hq];rfl));clear HBAD hq
           have HE:=Lh he;clear he
           go_wp2
           rw [←HW.out]
           (refine wp_region_lines (Below W.heap.size W) (by kernel_rfl) (by kernel_rfl) (Below.refl _ _).drew ?_)
           have hS:=(Below.refl W.heap.size W).drew
           (try simp only [])
           repeat (first | (refine runL_no (by rfl) ?_;(try simp only [Act.put,List.setIfInBounds_toArray,List.set_cons_zero,List.set_cons_succ])) | (refine runL_val (v:=?_) (by rfl) ?_ ?_;rotate_left;(focus (intro w_ hw_;have hc_:=bcell hw_;go_simp;(try with_reducible rfl);done));(try simp only [Act.put,List.setIfInBounds_toArray,List.set_cons_zero,List.set_cons_succ])) | (refine runL_call (f:=?_) (args:=?_) (w1:=?_) (by rfl) (by rfl) ?_ ?_;rotate_left 3;(focus (go_simp;refine ⟨⟨?_,?_⟩,?_⟩ <;> with_reducible rfl));refine (last_any _ _ _ _).mono ?_;rintro e w1 ⟨rfl,hb1⟩;replace hS:=hS.trans (hb1.mono hS.size);refine ⟨_,rfl,.inr hS,?_⟩;clear hb1;(try simp only [Act.put,List.setIfInBounds_toArray,List.set_cons_zero,List.set_cons_succ])))
           (refine runL_nil ?_)
           go_wp2
           go_ret
           exact ⟨ret_int (checkF_bad HLONG.out (by have:=HN.out;omega) HB2.out).symm,hbl2.trans (hS.mono hbl2.size)⟩
         · have he':=hemp false (by simpa using he)
           clear hemp
           have hq:r.bytes.isEmpty=false:=by
             cases hx:r.bytes with
             | nil=>rw [hx] at he;exact absurd rfl he
             | cons=>rfl
           rw [hq] at HBAD
           clear hq
           have HE:=Lh he;clear he
           by_cases hlo:lastOf r < r.base
           · have hlo':decide (lastOf r < r.base)=true:=by simpa using hlo
             have HB2:=Lh (HBAD.out true (by simp [hlo]));clear HBAD
             go_wp2
             rw [←HW.out]
             (refine wp_region_lines (Below W.heap.size W) (by kernel_rfl) (by kernel_rfl) (Below.refl _ _).drew ?_)
             have hS:=(Below.refl W.heap.size W).drew
             (try simp only [])
             repeat (first | (refine runL_no (by rfl) ?_;(try simp only [Act.put,List.setIfInBounds_toArray,List.set_cons_zero,List.set_cons_succ])) | (refine runL_val (v:=?_) (by rfl) ?_ ?_;rotate_left;(focus (intro w_ hw_;have hc_:=bcell hw_;go_simp;(try with_reducible rfl);done));(try simp only [Act.put,List.setIfInBounds_toArray,List.set_cons_zero,List.set_cons_succ])) | (refine runL_call (f:=?_) (args:=?_) (w1:=?_) (by rfl) (by rfl) ?_ ?_;rotate_left 3;(focus (go_simp;refine ⟨⟨?_,?_⟩,?_⟩ <;> with_reducible rfl));refine (last_any _ _ _ _).mono ?_;rintro e w1 ⟨rfl,hb1⟩;replace hS:=hS.trans (hb1.mono hS.size);refine ⟨_,rfl,.inr hS,?_⟩;clear hb1;(try simp only [Act.put,List.setIfInBounds_toArray,List.set_cons_zero,List.set_cons_succ])))
             (refine runL_nil ?_)
             go_wp2
             go_ret
             exact ⟨ret_int (checkF_bad HLONG.out (by have:=HN.out;omega) HB2.out).symm,hbl2.trans (hS.mono hbl2.size)⟩
           · have hlo':decide (lastOf r < r.base)=false:=by simpa using hlo
             have HLO:=Lh hlo;clear hlo
             go_wp2
             rw [←HW.out]
             (refine wp_region_lines (Below W.heap.size W) (by kernel_rfl) (by kernel_rfl) (Below.refl _ _).drew ?_)
             have hS:=(Below.refl W.heap.size W).drew
             (try simp only [])
             repeat (first | (refine runL_no (by rfl) ?_;(try simp only [Act.put,List.setIfInBounds_toArray,List.set_cons_zero,List.set_cons_succ])) | (refine runL_val (v:=?_) (by rfl) ?_ ?_;rotate_left;(focus (intro w_ hw_;have hc_:=bcell hw_;go_simp;(try with_reducible rfl);done));(try simp only [Act.put,List.setIfInBounds_toArray,List.set_cons_zero,List.set_cons_succ])) | (refine runL_call (f:=?_) (args:=?_) (w1:=?_) (by rfl) (by rfl) ?_ ?_;rotate_left 3;(focus (go_simp;refine ⟨⟨?_,?_⟩,?_⟩ <;> with_reducible rfl));refine (last_any _ _ _ _).mono ?_;rintro e w1 ⟨rfl,hb1⟩;replace hS:=hS.trans (hb1.mono hS.size);refine ⟨_,rfl,.inr hS,?_⟩;clear hb1;(try simp only [Act.put,List.setIfInBounds_toArray,List.set_cons_zero,List.set_cons_succ])))
             (refine runL_nil ?_)
             have hb3:=hbl2.trans (hS.mono hbl2.size)
             have hkn:(k:Int)≤n:=by omega
             have hnc:=HLN.out
             have hlA:wr.heap.size < w1.heap.size:=by have:=hS.size;omega
             have c0:∀ wr',Below w1.heap.size w1 wr'→∀ i u,W.cell? ⟨wr.heap.size,i,none⟩=some u→wr'.cell? ⟨wr.heap.size,i,none⟩=some u:=fun wr' hb' i u hu =>
               (hb'.cell (p:=⟨wr.heap.size,i,none⟩) hlA).trans ((hS.cell (p:=⟨wr.heap.size,i,none⟩) m0).trans hu)
             have HCC:=Lh (ContainsFunc_any (some ⟨b,off,none⟩) k c 48 #[.pointer (some ⟨wr.heap.size,0,none⟩)] w1 F (l.take k) (fun o=>meets o r) (by omega) (fun _ _=>rfl)
               ((HL.out.take hk).below hb3 HF.out) (fun q hq=>by have:=HF.out q hq;have:=hb3.size;omega)
               fun o _ wr' hb' A c _=>Check2_any o r wr' A A' c c' wr.heap.size (by have:=hb'.size;omega) (c0 wr' hb' 0 _ n0) (c0 wr' hb' 1 _ n1) (c0 wr' hb' 2 _ n2))
             clear c0 hlA
             cases hm:(l.take k).any fun o=>meets o r
             · rw [hm] at HCC
               have HB2:=Lh (HBAD.out false (by simp [hm,HLO.out]));clear HBAD hm
               go_wp2_with ((with_reducible refine (HCC.out).mono ?_);rintro e w2 ⟨rfl,hb2⟩)
               go_roundw
               case rel=>exact ⟨k+1,by omega,by go_num,hb3.trans (hb2.mono hb3.size),fun j hj=>by
                 rcases Nat.lt_or_ge j k with h | h
                 · exact HALL.out j h
                 · rw [show j=k from by omega];exact HB2.out⟩
               case measure=>simp [intOf];omega
             · rw [hm] at HCC
               have HB2:=Lh (HBAD.out true (by simp [hm]));clear HBAD hm
               go_wp2_with ((with_reducible refine (HCC.out).mono ?_);rintro e w2 ⟨rfl,hb2⟩)
               go_ret
               exact ⟨ret_int (checkF_bad HLONG.out (by have:=HN.out;omega) HB2.out).symm,hb3.trans (hb2.mono hb3.size)⟩
       · go_wp2
         go_ret
         exact ⟨ret_int (checkF_ok HLONG.out (by have:=HN.out;have:=HALL.out;intro j hj;exact this j (by omega))).symm,hbl⟩
   · rw [hany] at HC
     go_enter Tryz.func25,Tryz.ntmps25
     go_wp2_with ((with_reducible refine (HC.out).mono ?_);rintro e w1 ⟨rfl,hb1⟩)
     go_ret
     exact ⟨ret_int (checkF_long (.inr hany)).symm,hb1⟩
end Go.Proofs.YtocndimihokcmaaGreat
namespace Go.Proofs.YtocndimihokcmaaGreat
def insBy {α:Type} (k:α→Nat):List α→α→List α
 | [],x=>[x]
 | p :: ps,x=>if k x < k p then p :: insBy k ps x else x :: p :: ps
def sortBy {α:Type} (k:α→Nat) (E:List α):List α:=(E.foldl (insBy k) []).reverse
theorem insBy_length {α:Type} (k:α→Nat) (l:List α) (x:α):(insBy k l x).length=l.length+1:=by
 induction l with
 | nil=>rfl
 | cons p ps ih=>unfold insBy;split <;> simp [ih]
theorem foldl_insBy_length {α:Type} (k:α→Nat) (E a:List α):(E.foldl (insBy k) a).length=a.length+E.length:=by
 induction E generalizing a with
 | nil=>rfl
 | cons x E ih=>rw [List.foldl_cons,ih,insBy_length];simp;omega
theorem insBy_map {α β:Type} (k:β→Nat) (f:α→β) (l:List α) (x:α):insBy k (l.map f) (f x)=(insBy (fun a=>k (f a)) l x).map f:=by
 induction l with
 | nil=>rfl
 | cons p ps ih =>
   simp only [List.map_cons,insBy]
   split
   · rw [ih];rfl
   · rfl
theorem foldl_insBy_map {α β:Type} (k:β→Nat) (f:α→β) (E a:List α):(E.map f).foldl (insBy k) (a.map f)=(E.foldl (insBy fun x=>k (f x)) a).map f:=by
 induction E generalizing a with
 | nil=>rfl
 | cons x E ih=>rw [List.map_cons,List.foldl_cons,List.foldl_cons,insBy_map,ih]
theorem sortBy_map {α β:Type} (k:β→Nat) (f:α→β) (E:List α):sortBy k (E.map f)=(sortBy (fun x=>k (f x)) E).map f:=by
 have:=foldl_insBy_map k f E []
 simp only [List.map_nil] at this
 rw [sortBy,this,sortBy,List.map_reverse]
theorem insBy_perm {α:Type} (k:α→Nat) (l:List α) (x:α):(insBy k l x).Perm (x :: l):=by
 induction l with
 | nil=>exact .refl _
 | cons p ps ih =>
   unfold insBy
   split
   · exact (ih.cons p).trans (.swap ..)
   · exact .refl _
theorem foldl_insBy_perm {α:Type} (k:α→Nat) (E a:List α):(E.foldl (insBy k) a).Perm (E++a):=by
 induction E generalizing a with
 | nil=>exact .refl _
 | cons x E ih=>exact (ih _).trans (((insBy_perm k a x).append_left E).trans List.perm_middle)
theorem sortBy_perm {α:Type} (k:α→Nat) (E:List α):(sortBy k E).Perm E:=by
 have:=foldl_insBy_perm k E []
 rw [List.append_nil] at this
 exact (List.reverse_perm _).trans this
theorem insBy_congr {α:Type} {k k':α→Nat} (l:List α) (x:α) (hx:k x=k' x) (hl:∀ p∈l,k p=k' p):insBy k l x=insBy k' l x:=by
 induction l with
 | nil=>rfl
 | cons p ps ih =>
   unfold insBy
   rw [hx,hl p (List.mem_cons_self ..),ih (fun q hq=>hl q (List.mem_cons_of_mem _ hq))]
theorem foldl_insBy_congr {α:Type} {k k':α→Nat} (E a:List α) (hE:∀ p∈E,k p=k' p) (ha:∀ p∈a,k p=k' p):E.foldl (insBy k) a=E.foldl (insBy k') a:=by
 induction E generalizing a with
 | nil=>rfl
 | cons x E ih =>
   have hx:=hE x (List.mem_cons_self ..)
   rw [List.foldl_cons,List.foldl_cons,insBy_congr a x hx ha]
   refine ih _ (fun p hp=>hE p (List.mem_cons_of_mem _ hp)) (fun p hp=>?_)
   rcases List.mem_cons.1 ((insBy_perm k' a x).mem_iff.1 hp) with rfl | hp
   · exact hx
   · exact ha p hp
theorem sortBy_congr {α:Type} {k k':α→Nat} (E:List α) (hE:∀ p∈E,k p=k' p):sortBy k E=sortBy k' E:=by
 rw [sortBy,sortBy,foldl_insBy_congr E [] hE (by simp)]
theorem sortBy_length {α:Type} (k:α→Nat) (E:List α):(sortBy k E).length=E.length:=(sortBy_perm k E).length_eq
theorem insBy_sorted {α:Type} (k:α→Nat) (l:List α) (x:α) (h:l.Pairwise fun a b=>k b≤k a):(insBy k l x).Pairwise fun a b=>k b≤k a:=by
 induction l with
 | nil=>simp [insBy]
 | cons p ps ih =>
   obtain ⟨h1,h2⟩:=List.pairwise_cons.1 h
   unfold insBy
   split
   · rename_i hlt
     refine List.pairwise_cons.2 ⟨fun b hb=>?_,ih h2⟩
     rcases List.mem_cons.1 ((insBy_perm k ps x).mem_iff.1 hb) with rfl | hb
     · omega
     · exact h1 b hb
   · rename_i hge
     refine List.pairwise_cons.2 ⟨fun b hb=>?_,h⟩
     rcases List.mem_cons.1 hb with rfl | hb
     · omega
     · have:=h1 b hb;omega
theorem sortBy_sorted {α:Type} (k:α→Nat) (E:List α):(sortBy k E).Pairwise fun a b=>k a≤k b:=by
 rw [sortBy,List.pairwise_reverse]
 have:∀ (E a:List α),a.Pairwise (fun a b=>k b≤k a)→(E.foldl (insBy k) a).Pairwise (fun a b=>k b≤k a):=by
   intro E
   induction E with
   | nil=>intro a h;exact h
   | cons x E ih=>intro a h;exact ih _ (insBy_sorted k a x h)
 exact this E [] .nil
end Go.Proofs.YtocndimihokcmaaGreat
namespace Go.Proofs.YtocndimihokcmaaGreat
structure Good (rs:List Reg):Prop where
 len:rs.length≤8
 bytes:∀ r∈rs,r.bytes≠[]∧r.bytes.length≤1048576
 end_:∀ r∈rs,r.base+r.bytes.length≤18446744073709551616
 gap:rs.Pairwise fun a b=>a.base+a.bytes.length≤b.base
theorem Good.base {rs:List Reg} (h:Good rs):∀ r∈rs,r.base < 18446744073709551616∧r.bytes.length≤9223372036854775807:=fun r hr=>by
 have h1:=h.end_ r hr
 have h2:=(h.bytes r hr)
 have:0 < r.bytes.length:=List.length_pos_iff.2 h2.1
 exact ⟨by omega,by omega⟩
theorem Good.pos {rs:List Reg} (h:Good rs):∀ r∈rs,0 < r.bytes.length:=fun r hr=>List.length_pos_iff.2 (h.bytes r hr).1
theorem Good.last {rs:List Reg} (h:Good rs):∀ r∈rs,lastOf r=r.base+r.bytes.length - 1:=fun r hr=>by
 have h1:=h.end_ r hr
 have:=h.pos r hr
 unfold lastOf
 omega
theorem good_of_check {l:List Reg} (h:checkF l=0) (hb:∀ r∈l,r.base < 18446744073709551616):Good (sortBy Reg.base l):=by
 unfold checkF at h
 split at h
 · cases h
 · rename_i h8
   split at h
   · cases h
   · rename_i hbad
     simp only [not_or,Nat.not_lt,Bool.not_eq_true] at h8
     have hbad':∀ k < l.length,chkBad l k=false:=fun k hk=>by
       cases hc:chkBad l k
       · rfl
       · exact absurd (List.any_eq_true.2 ⟨k,by simpa using hk,hc⟩) hbad
     have hr:∀ r∈l,r.bytes≠[]∧r.bytes.length≤1048576∧r.base+r.bytes.length≤18446744073709551616:=fun r hr=>by
       obtain ⟨k,hk⟩:=List.mem_iff_getElem?.1 hr
       have hkl:k < l.length:=(List.getElem?_eq_some_iff.1 hk).1
       have h1:=hbad' k hkl
       simp only [chkBad,hk,Bool.or_eq_false_iff,decide_eq_false_iff_not] at h1
       have h2:¬ 1048576 < r.bytes.length:=by
         have:=List.any_eq_false.1 h8.2 r hr
         simpa using this
       have h3:r.bytes≠[]:=by simpa using h1.1.1
       have h4:=h1.1.2
       have h5:=hb r hr
       have:0 < r.bytes.length:=List.length_pos_iff.2 h3
       unfold lastOf at h4
       exact ⟨h3,by omega,by omega⟩
     have hpair:l.Pairwise fun a b=>a.base+a.bytes.length≤b.base∨b.base+b.bytes.length≤a.base:=by
       rw [List.pairwise_iff_getElem]
       intro i j hi hj hij
       have h1:=hbad' j hj
       simp only [chkBad,List.getElem?_eq_getElem hj,Bool.or_eq_false_iff] at h1
       have h2:=List.any_eq_false.1 h1.2 l[i] (by
         rw [List.mem_iff_getElem]
         exact ⟨i,by simp;omega,by simp⟩)
       simp only [meets,decide_eq_true_eq] at h2
       obtain ⟨a1,a2,a3⟩:=hr l[i] (List.getElem_mem hi)
       obtain ⟨b1,b2,b3⟩:=hr l[j] (List.getElem_mem hj)
       have a4:0 < l[i].bytes.length:=List.length_pos_iff.2 a1
       have b4:0 < l[j].bytes.length:=List.length_pos_iff.2 b1
       unfold lastOf at h2
       omega
     have hperm:=sortBy_perm Reg.base l
     have hmem:∀ r∈sortBy Reg.base l,r∈l:=fun r hr=>hperm.mem_iff.1 hr
     refine ⟨by rw [sortBy_length];omega,fun r h=>⟨(hr r (hmem r h)).1,(hr r (hmem r h)).2.1⟩,fun r h=>(hr r (hmem r h)).2.2,?_⟩
     have hp2:(sortBy Reg.base l).Pairwise fun a b=>a.base+a.bytes.length≤b.base∨b.base+b.bytes.length≤a.base:=(hperm.pairwise_iff (fun h=>h.symm)).2 hpair
     have hp3:=sortBy_sorted Reg.base l
     have hp4:=hp2.and hp3
     refine List.Pairwise.imp_of_mem (fun {a b} ha hb' hab=>?_) hp4
     obtain ⟨b1,b2,b3⟩:=hr b (hmem b hb')
     have b4:0 < b.bytes.length:=List.length_pos_iff.2 b1
     omega
def findI (rs:List Reg) (at_:Nat):Nat:=rs.findIdx fun r=>decide (at_≤lastOf r)
def placeF (rs:List Reg) (at_ n:Nat):Option (Nat×Nat):=match rs[findI rs at_]? with
 | none=>none
 | some r=>if at_ < r.base then none else if r.bytes.length - (at_ - r.base) < n then none else some (findI rs at_,at_ - r.base)
theorem findI_eq {rs:List Reg} {at_ i:Nat} (hi:i≤rs.length) (h1:∀ (k:Nat) (r:Reg),k < i→rs[k]? = some r→lastOf r < at_) (h2:∀ r,rs[i]? = some r→at_≤lastOf r):findI rs at_=i:=by
 unfold findI
 rcases Nat.lt_or_ge i rs.length with h | h
 · rw [List.findIdx_eq h]
   refine ⟨by simpa using h2 rs[i] (List.getElem?_eq_getElem h),fun j hj=>?_⟩
   have:=h1 j rs[j] hj (List.getElem?_eq_getElem (by omega))
   simp;omega
 · obtain rfl:i=rs.length:=by omega
   rw [List.findIdx_eq_length]
   intro r hr
   obtain ⟨k,hk⟩:=List.mem_iff_getElem?.1 hr
   have:=h1 k r (List.getElem?_eq_some_iff.1 hk).1 hk
   simp;omega
theorem findI_le {rs:List Reg} {at_:Nat} {r:Reg} (h:rs[findI rs at_]? = some r):at_≤lastOf r:=by
 obtain ⟨hlt,rfl⟩:=List.getElem?_eq_some_iff.1 h
 have h3:=List.findIdx_getElem (p:=fun r=>decide (at_≤lastOf r)) (xs:=rs) (w:=hlt)
 exact of_decide_eq_true h3
theorem last_mono {rs:List Reg} (h:Good rs) {i j:Nat} {a b:Reg} (ha:rs[i]? = some a) (hb:rs[j]? = some b) (hij:i≤j):lastOf a≤lastOf b:=by
 rcases Nat.eq_or_lt_of_le hij with rfl | hlt
 · rw [ha] at hb;cases hb;exact Nat.le_refl _
 · obtain ⟨hi,rfl⟩:=List.getElem?_eq_some_iff.1 ha
   obtain ⟨hj,rfl⟩:=List.getElem?_eq_some_iff.1 hb
   have:=List.pairwise_iff_getElem.1 h.gap i j hi hj hlt
   rw [h.last _ (List.getElem_mem hi),h.last _ (List.getElem_mem hj)]
   have:=h.pos _ (List.getElem_mem hj)
   omega
end Go.Proofs.YtocndimihokcmaaGreat
namespace Go.Proofs.YtocndimihokcmaaGreat
open Go.Shelf
def Tryz.lays128_ren:Go.Shelf.Ren:=⟨fun | 128=>122 | n=>n,fun | 51=>188 | 3=>3 | 4=>4 | 46=>127 | 5=>5 | 9=>9 | n=>n,fun | n=>n⟩
theorem Tryz.lays128:Go.Proofs.Lays.n128 Tryz.prog Tryz.lays128_ren:={
 mixed:=by kernel_rfl
 f128:=Tryz.func122.trans (congrArg some (by kernel_rfl))
 t3:=Tryz.underlying3
 a3:=Tryz.isAgg3
 z3:=Tryz.sizeOf3
 v3:=Tryz.zeroValue3
 t4:=Tryz.underlying4
 a4:=Tryz.isAgg4
 z4:=Tryz.sizeOf4
 v4:=Tryz.zeroValue4
 t5:=Tryz.underlying5
 a5:=Tryz.isAgg5
 z5:=Tryz.sizeOf5
 v5:=Tryz.zeroValue5
 t9:=Tryz.underlying9
 a9:=Tryz.isAgg9
 z9:=Tryz.sizeOf9
 v9:=Tryz.zeroValue9
 t46:=Tryz.underlying127
 a46:=Tryz.isAgg127
 z46:=Tryz.sizeOf127
 v46:=Tryz.zeroValue127
 t51:=Tryz.underlying188
 a51:=Tryz.isAgg188
 z51:=Tryz.sizeOf188
 v51:=Tryz.zeroValue188 }
theorem Tryz.bits_Len32 (x:Int) (w:World) (h0:0≤x) (h1:x≤4294967295) :
   Calls Tryz.prog 122 #[.int .u32 x] w fun e w'=>e=.returned (.int .i64 (Lib.bitLen x.toNat))∧w'=w:=Any.bits_Len32 Tryz.lays128 x w h0 h1
def Tryz.lays125_ren:Go.Shelf.Ren:=⟨fun | 125=>79 | 128=>122 | 129=>123 | n=>n,fun | 46=>127 | 3=>3 | 51=>188 | 53=>23 | 4=>4 | 5=>5 | 9=>9 | n=>n,fun | n=>n⟩
theorem Tryz.lays125:Go.Proofs.Lays.n125 Tryz.prog Tryz.lays125_ren:={
 mixed:=by kernel_rfl
 f125:=Tryz.func79.trans (congrArg some (by kernel_rfl))
 f128:=Tryz.func122.trans (congrArg some (by kernel_rfl))
 f129:=Tryz.func123.trans (congrArg some (by kernel_rfl))
 t3:=Tryz.underlying3
 a3:=Tryz.isAgg3
 z3:=Tryz.sizeOf3
 v3:=Tryz.zeroValue3
 t4:=Tryz.underlying4
 a4:=Tryz.isAgg4
 z4:=Tryz.sizeOf4
 v4:=Tryz.zeroValue4
 t5:=Tryz.underlying5
 a5:=Tryz.isAgg5
 z5:=Tryz.sizeOf5
 v5:=Tryz.zeroValue5
 t9:=Tryz.underlying9
 a9:=Tryz.isAgg9
 z9:=Tryz.sizeOf9
 v9:=Tryz.zeroValue9
 t46:=Tryz.underlying127
 a46:=Tryz.isAgg127
 z46:=Tryz.sizeOf127
 v46:=Tryz.zeroValue127
 t51:=Tryz.underlying188
 a51:=Tryz.isAgg188
 z51:=Tryz.sizeOf188
 v51:=Tryz.zeroValue188
 t53:=Tryz.underlying23
 a53:=Tryz.isAgg23
 z53:=Tryz.sizeOf23
 v53:=Tryz.zeroValue23 }
theorem Tryz.bits_Len (x:Int) (w:World) (h0:0≤x) (h1:x≤18446744073709551615) :
   Calls Tryz.prog 79 #[.int .u64 x] w fun e w'=>e=.returned (.int .i64 (Lib.bitLen x.toNat))∧w'=w:=Any.bits_Len Tryz.lays125 x w h0 h1
def Tryz.lays129_ren:Go.Shelf.Ren:=⟨fun | 129=>123 | n=>n,fun | 53=>23 | 3=>3 | 4=>4 | 46=>127 | 5=>5 | 9=>9 | n=>n,fun | n=>n⟩
theorem Tryz.lays129:Go.Proofs.Lays.n129 Tryz.prog Tryz.lays129_ren:={
 mixed:=by kernel_rfl
 f129:=Tryz.func123.trans (congrArg some (by kernel_rfl))
 t3:=Tryz.underlying3
 a3:=Tryz.isAgg3
 z3:=Tryz.sizeOf3
 v3:=Tryz.zeroValue3
 t4:=Tryz.underlying4
 a4:=Tryz.isAgg4
 z4:=Tryz.sizeOf4
 v4:=Tryz.zeroValue4
 t5:=Tryz.underlying5
 a5:=Tryz.isAgg5
 z5:=Tryz.sizeOf5
 v5:=Tryz.zeroValue5
 t9:=Tryz.underlying9
 a9:=Tryz.isAgg9
 z9:=Tryz.sizeOf9
 v9:=Tryz.zeroValue9
 t46:=Tryz.underlying127
 a46:=Tryz.isAgg127
 z46:=Tryz.sizeOf127
 v46:=Tryz.zeroValue127
 t53:=Tryz.underlying23
 a53:=Tryz.isAgg23
 z53:=Tryz.sizeOf23
 v53:=Tryz.zeroValue23 }
theorem Tryz.bits_Len64 (x:Int) (w:World) (h0:0≤x) (h1:x≤18446744073709551615) :
   Calls Tryz.prog 123 #[.int .u64 x] w fun e w'=>e=.returned (.int .i64 (Lib.bitLen x.toNat))∧w'=w:=Any.bits_Len64 Tryz.lays129 x w h0 h1
end Go.Proofs.YtocndimihokcmaaGreat
namespace Go.Proofs.YtocndimihokcmaaGreat
open Go.RowKit
set_option maxRecDepth 100000
def cmpN (x y:Nat):Int:=if x < y then -1 else if y < x then 1 else 0
set_option maxHeartbeats 400000 in
theorem Compare_any (x y:Nat) (w:World):Calls Tryz.prog 53 #[.int .u64 x,.int .u64 y] w fun e w'=>e=.returned (.int .i64 (cmpN x y))∧w=w':=by
 have hb:∀ z:Nat,((z:Int) == z)=true:=fun z=>by simp
 have hn:∀ z:Nat,((z:Int) != z)=false:=fun z=>by simp
 by_cases h1:x < y
 · have hd:decide (x < y)=true:=by simpa using h1
   have hr:cmpN x y = -1:=by simp [cmpN,h1]
   have HR:=Lh hr;clear hr
   go_enter Tryz.func53,Tryz.ntmps53
   go_wp2
   go_ret
   exact ⟨ret_int HR.out.symm,rfl⟩
 · have hd:decide (x < y)=false:=by simpa using h1
   by_cases h2:y < x
   · have hd2:decide (y < x)=true:=by simpa using h2
     have hr:cmpN x y=1:=by simp [cmpN,h1,h2]
     have HR:=Lh hr;clear hr
     go_enter Tryz.func53,Tryz.ntmps53
     go_wp2
     go_ret
     exact ⟨ret_int HR.out.symm,rfl⟩
   · have hd2:decide (y < x)=false:=by simpa using h2
     have hr:cmpN x y=0:=by simp [cmpN,h1,h2]
     have HR:=Lh hr;clear hr
     go_enter Tryz.func53,Tryz.ntmps53
     go_wp2
     go_ret
     exact ⟨ret_int HR.out.symm,rfl⟩
set_option maxHeartbeats 400000 in
theorem own1_any (x y:Nat) (x1 x2 y1 y2:Value) (w:World) :
   Calls Tryz.prog 52 #[.agg #[.int .u64 x,x1,x2],.agg #[.int .u64 y,y1,y2]] w fun e w'=>e=.returned (.int .i64 (cmpN x y))∧Below w.heap.size w w':=by
 have hb:Below w.heap.size w ((w.alloc (.cells #[.int .u64 x,x1,x2] 72)).alloc (.cells #[.int .u64 y,y1,y2] 72)):=((Below.refl _ _).alloc (Nat.le_refl _) _).alloc (by simp) _
 have HB:=Lh hb;clear hb
 go_enter Tryz.func52,Tryz.ntmps52
 go_wp2_with (go_at_call 53;refine (Compare_any _ _ _).mono ?_;rintro e w' ⟨rfl,rfl⟩)
 go_ret
 exact ⟨rfl,HB.out⟩
def sortTo (E:List Ent) (k:Nat):List Ent:=((E.take k).foldl (insBy Ent.key) []).reverse++E.drop k
def sortEnts (E:List Ent):List Ent:=sortBy Ent.key E
theorem sortTo_start (E:List Ent):sortTo E 1=E:=by
 cases E with
 | nil=>rfl
 | cons x E=>simp [sortTo,insBy]
theorem sortTo_end (E:List Ent) {k:Nat} (h:E.length≤k):sortTo E k=sortEnts E:=by
 simp [sortTo,sortEnts,sortBy,List.take_of_length_le h,List.drop_eq_nil_of_le h]
theorem sortTo_step (E:List Ent) {k:Nat} (h:k < E.length):∃ A x B,sortTo E k=A++x :: B∧A.length=k∧sortTo E (k+1)=(insBy Ent.key A.reverse x).reverse++B:=by
 refine ⟨((E.take k).foldl (insBy Ent.key) []).reverse,E[k],E.drop (k+1),?_,?_,?_⟩
 · rw [sortTo,←List.drop_eq_getElem_cons h]
 · simp [foldl_insBy_length];omega
 · rw [sortTo,List.take_succ_eq_append_getElem h,List.foldl_append,List.reverse_reverse];rfl
theorem row_at (A:List Ent) (x:Ent) (B:List Ent):((A++x :: B).map entRow)[A.length]? = some (entRow x):=by
 rw [List.getElem?_map,List.getElem?_append_right (Nat.le_refl _)];simp
theorem swap_rows (A:List Ent) (p x:Ent) (B:List Ent) {q:Nat} (h:A.length=q) :
   (((A.concat p++x :: B).map entRow).set (q+1) (entRow p)).set q (entRow x)=(A++x :: p :: B).map entRow:=by
 subst h
 have:(A.concat p++x :: B).map entRow=A.map entRow++entRow p :: entRow x :: B.map entRow:=by simp
 rw [this,List.set_append_right _ _ (by simp),List.set_append_right _ _ (by simp)]
 simp
theorem insRev_step (A:List Ent) (p x:Ent) (B:List Ent) (h:x.key < p.key):(insBy Ent.key (A.concat p).reverse x).reverse++B=(insBy Ent.key A.reverse x).reverse++p :: B:=by
 simp [insBy,h]
theorem insRev_stop (A:List Ent) (x:Ent) (B:List Ent) (h:∀ (p:Ent) (A':List Ent),A=A'.concat p→¬ x.key < p.key):(insBy Ent.key A.reverse x).reverse++B=A++x :: B:=by
 rcases List.eq_nil_or_concat A with rfl | ⟨A',p,rfl⟩
 · rfl
 · have:=h p A' rfl
   simp [insBy,this]
set_option maxHeartbeats 1600000 in
theorem insertionSort_any (g cap n:Nat) (E:List Ent) (w:World) (hn:E.length=n) (hn2:n≤140737488351232) (hr:RowsBlk w g 72 3 (E.map entRow)) :
   Calls Tryz.prog 114 #[.slice (some ⟨g,0,none⟩) n cap,.int .i64 0,.int .i64 n,.func (.func 52) #[] #[]] w fun e w' =>
     e=.returned (.tuple #[])∧Chg (· = g) w w'∧RowsBlk w' g 72 3 ((sortEnts E).map entRow):=by
 have HR:=Lh hr
 have HN:=Lh hn
 clear hr hn
 go_enter Tryz.func114,Tryz.ntmps114
 go_wp2
 go_loopw [8] (fun i wr=>∃ k:Nat,1≤k∧k≤n+1∧i=.int .i64 k∧Chg (· = g) w wr∧RowsBlk wr g 72 3 ((sortTo E k).map entRow)) (fun i _=>n+1 - (intOf i).toNat)
 case atStart=>exact ⟨1,by omega,by omega,rfl,Chg.refl _ _,by rw [sortTo_start];exact HR.out⟩
 case round =>
   obtain ⟨k,hk1,hk,rfl,hch,hrow⟩:=hrel
   have HROW:=Lh hrow
   have HCH:=Lh hch
   clear hrow hch
   by_cases hlt:k < n
   · obtain ⟨A0,x,B0,hs0,hA0,hs1⟩:=sortTo_step E (k:=k) (by have:=HN.out;omega)
     have HS0:=Lh hs0
     have HS1:=Lh hs1
     have HA0:=Lh hA0
     clear hs0 hs1 hA0
     go_wp2
     obtain ⟨wo,rfl⟩:∃ wo:World,wo=wr:=⟨_,rfl⟩
     go_loopw [9] (fun j wr=>∃ (q:Nat) (A B:List Ent),A.length=q∧q≤k∧j=.int .i64 q∧Chg (· = g) w wr∧RowsBlk wr g 72 3 ((A++x :: B).map entRow)∧(insBy Ent.key A.reverse x).reverse++B=sortTo E (k+1)) (fun j _=>(intOf j).toNat)
     case atStart=>exact ⟨k,A0,B0,HA0.out,by omega,rfl,HCH.out,by rw [←HS0.out];exact HROW.out,HS1.out.symm⟩
     case round =>
       obtain ⟨q,A,B,hA,hq,rfl,hch,hrow,hfin⟩:=hrel
       have HFIN:=Lh hfin
       have HROW:=Lh hrow
       have HCH:=Lh hch
       have HA:=Lh hA
       clear hrow hfin hch hA
       rcases List.eq_nil_or_concat A with rfl | ⟨A',p,rfl⟩
       · obtain rfl:q=0:=by have:=HA.out;simp at this;omega
         clear HA
         go_wp2
         (refine wp_region_lines (Below wr.heap.size wr) (by kernel_rfl) (by kernel_rfl) (Below.refl _ _).drew ?_)
         have hS:=(Below.refl wr.heap.size wr).drew
         (try simp only [])
         repeat (first | (refine runL_no (by rfl) ?_;(try simp only [Act.put,List.setIfInBounds_toArray,List.set_cons_zero,List.set_cons_succ])) | (refine runL_val (v:=?_) (by rfl) ?_ ?_;rotate_left;(focus (intro w_ hw_;have hc_:=bcell hw_;go_simp;(try with_reducible rfl);done));(try simp only [Act.put,List.setIfInBounds_toArray,List.set_cons_zero,List.set_cons_succ])) | (refine runL_call (f:=?_) (args:=?_) (w1:=?_) (by rfl) (by rfl) ?_ ?_;rotate_left 3;(focus (go_simp;refine ⟨⟨?_,?_⟩,?_⟩ <;> with_reducible rfl));refine (own1_any _ _ _ _ _ _ _).mono ?_;rintro e w1 ⟨rfl,hb1⟩;replace hS:=hS.trans (hb1.mono hS.size);refine ⟨_,rfl,.inr hS,?_⟩;clear hb1;(try simp only [Act.put,List.setIfInBounds_toArray,List.set_cons_zero,List.set_cons_succ])))
         (refine runL_nil ?_)
         have hch1:Chg (· = g) w wr.drew:=HCH.out.drew
         have HCH1:=Lh hch1
         clear hch1 hS HCH
         go_wp2
         go_roundw
         case rel=>exact ⟨k+1,by omega,by omega,by go_num,HCH1.out,by rw [←HFIN.out];exact HROW.out⟩
         case measure=>simp [intOf];omega
       · obtain ⟨q',rfl⟩:∃ q',q=q'+1:=⟨A'.length,by have:=HA.out;simp at this;omega⟩
         have hA':A'.length=q':=by have:=HA.out;simp at this;omega
         have e1:(A'.concat p++x :: B).map entRow=(A'.concat p).map entRow++entRow x :: B.map entRow:=by simp
         have r1:((A'.concat p++x :: B).map entRow)[q'+1]? = some (entRow x):=by rw [←hA'];have:=row_at (A'.concat p) x B;rw [List.length_concat] at this;exact this
         have r0:((A'.concat p++x :: B).map entRow)[q']? = some (entRow p):=by rw [←hA'];have:=row_at A' p (x :: B);rw [List.concat_eq_append,List.append_assoc];exact this
         have c0:=HROW.out.cell r0 (j:=0) (by rfl)
         have c1:=HROW.out.cell r0 (j:=1) (by rfl)
         have c2:=HROW.out.cell r0 (j:=2) (by rfl)
         have d0:=HROW.out.cell r1 (j:=0) (by rfl)
         have d1:=HROW.out.cell r1 (j:=1) (by rfl)
         have d2:=HROW.out.cell r1 (j:=2) (by rfl)
         have hg:=HROW.out.lt
         simp only [Nat.add_zero] at c0 d0
         clear r0 r1 e1 hA'
         have i0:(0:Int)≤(q':Int)+1:=by omega
         have i1:(q':Int)+1 < (n:Int):=by omega
         have i2:(0:Int)≤(q':Int):=by omega
         have i3:(q':Int) < (n:Int):=by omega
         have i5:IntKind.i64.wrap (q':Int)=(q':Int):=IntWalk.i64_in _ (by omega)
         by_cases hc:x.key < p.key
         · have hd:decide (cmpN x.key p.key < 0)=true:=by simp [cmpN,hc]
           go_wp2
           (refine wp_region_lines (Below wr.heap.size wr) (by kernel_rfl) (by kernel_rfl) (Below.refl _ _).drew ?_)
           have hS:=(Below.refl wr.heap.size wr).drew
           (try simp only [])
           repeat (first | (refine runL_no (by rfl) ?_;(try simp only [Act.put,List.setIfInBounds_toArray,List.set_cons_zero,List.set_cons_succ])) | (refine runL_val (v:=?_) (by rfl) ?_ ?_;rotate_left;(focus (intro w_ hw_;have hc_:=bcell hw_;go_simp;(try with_reducible rfl);done));(try simp only [Act.put,List.setIfInBounds_toArray,List.set_cons_zero,List.set_cons_succ])) | (refine runL_call (f:=?_) (args:=?_) (w1:=?_) (by rfl) (by rfl) ?_ ?_;rotate_left 3;(focus (go_simp;refine ⟨⟨?_,?_⟩,?_⟩ <;> with_reducible rfl));refine (own1_any _ _ _ _ _ _ _).mono ?_;rintro e w1 ⟨rfl,hb1⟩;replace hS:=hS.trans (hb1.mono hS.size);refine ⟨_,rfl,.inr hS,?_⟩;clear hb1;(try simp only [Act.put,List.setIfInBounds_toArray,List.set_cons_zero,List.set_cons_succ])))
           (refine runL_nil ?_)
           have hrw:RowsBlk w1 g 72 3 ((A'.concat p++x :: B).map entRow):=HROW.out.keep (hS.block g hg)
           have hch1:Chg (· = g) w w1:=HCH.out.trans (.of_below hS)
           have HRW:=Lh hrw
           have HCH1:=Lh hch1
           have c0':=(hS.cell (p:=⟨g,q'*3,none⟩) hg).trans c0
           have c1':=(hS.cell (p:=⟨g,q'*3+1,none⟩) hg).trans c1
           have c2':=(hS.cell (p:=⟨g,q'*3+2,none⟩) hg).trans c2
           have d0':=(hS.cell (p:=⟨g,(q'+1)*3,none⟩) hg).trans d0
           have d1':=(hS.cell (p:=⟨g,(q'+1)*3+1,none⟩) hg).trans d1
           have d2':=(hS.cell (p:=⟨g,(q'+1)*3+2,none⟩) hg).trans d2
           have f0:=hrw.frozen
           have hlen:((A'.concat p++x :: B).map entRow).length=A'.length+2+B.length:=by simp;omega
           have hA':A'.length=q':=by have:=HA.out;simp at this;omega
           obtain ⟨_,⟨t1,k1⟩,⟨t2,k2⟩⟩:=hrw.mid3 (i:=q'+1) (by omega) (.int .u64 p.key) (.slice p.ad p.n p.c)
           have hr2:=hrw.set3 (i:=q'+1) (by omega) (.int .u64 p.key) (.slice p.ad p.n p.c) (.bool p.wr)
           obtain ⟨⟨t3,k3⟩,⟨t4,k4⟩,⟨t5,k5⟩⟩:=hr2.mid3 (i:=q') (by simp;omega) (.int .u64 x.key) (.slice x.ad x.n x.c)
           have hr3:=hr2.set3 (i:=q') (by simp;omega) (.int .u64 x.key) (.slice x.ad x.n x.c) (.bool x.wr)
           have HR3:=Lh hr3
           have HA':=Lh hA'
           clear hlen hA' hr2 hr3
           clear hrw hch1 c0 c1 c2 d0 d1 d2 hd hS HROW HCH
           go_wp2
           go_region
           go_wp2
           go_roundw
           case rel=>exact ⟨q',A',p :: B,HA'.out,by omega,by go_num,(((((((HCH1.out.setCell (.inl rfl) _).setCell (.inl rfl) _).setCell (.inl rfl) _).setCell (.inl rfl) _).setCell (.inl rfl) _).setCell (.inl rfl) _).drew),(by rw [←swap_rows A' p x B HA'.out];exact (RowsBlk.drew HR3.out)),by rw [←insRev_step A' p x B hc];exact HFIN.out⟩
           case measure=>simp [intOf]
         · have hd:decide (cmpN x.key p.key < 0)=false:=by simp only [cmpN,if_neg hc];split <;> decide
           go_wp2
           (refine wp_region_lines (Below wr.heap.size wr) (by kernel_rfl) (by kernel_rfl) (Below.refl _ _).drew ?_)
           have hS:=(Below.refl wr.heap.size wr).drew
           (try simp only [])
           repeat (first | (refine runL_no (by rfl) ?_;(try simp only [Act.put,List.setIfInBounds_toArray,List.set_cons_zero,List.set_cons_succ])) | (refine runL_val (v:=?_) (by rfl) ?_ ?_;rotate_left;(focus (intro w_ hw_;have hc_:=bcell hw_;go_simp;(try with_reducible rfl);done));(try simp only [Act.put,List.setIfInBounds_toArray,List.set_cons_zero,List.set_cons_succ])) | (refine runL_call (f:=?_) (args:=?_) (w1:=?_) (by rfl) (by rfl) ?_ ?_;rotate_left 3;(focus (go_simp;refine ⟨⟨?_,?_⟩,?_⟩ <;> with_reducible rfl));refine (own1_any _ _ _ _ _ _ _).mono ?_;rintro e w1 ⟨rfl,hb1⟩;replace hS:=hS.trans (hb1.mono hS.size);refine ⟨_,rfl,.inr hS,?_⟩;clear hb1;(try simp only [Act.put,List.setIfInBounds_toArray,List.set_cons_zero,List.set_cons_succ])))
           (refine runL_nil ?_)
           have hrw:RowsBlk w1 g 72 3 ((A'.concat p++x :: B).map entRow):=HROW.out.keep (hS.block g hg)
           have hch1:Chg (· = g) w w1:=HCH.out.trans (.of_below hS)
           have HRW:=Lh hrw
           have HCH1:=Lh hch1
           clear hrw hch1 c0 c1 c2 d0 d1 d2 hd hS HROW HCH
           go_wp2
           go_roundw
           case rel=>exact ⟨k+1,by omega,by omega,by go_num,HCH1.out,by
             rw [←HFIN.out,insRev_stop _ _ _ (fun p' A'' he=>by rw [List.concat_eq_append,List.concat_eq_append] at he;obtain ⟨_,h2⟩:=List.append_inj' he rfl;cases h2;exact hc)]
             exact HRW.out⟩
           case measure=>simp [intOf];omega
   · go_wp2
     go_end0
     exact ⟨rfl,HCH.out,by rw [←sortTo_end E (k:=k) (by have:=HN.out;omega)];exact HROW.out⟩
end Go.Proofs.YtocndimihokcmaaGreat
namespace Go.Proofs.YtocndimihokcmaaGreat
open Go.RowKit
set_option maxRecDepth 100000
set_option maxHeartbeats 400000 in
theorem insertionSort_zero (A:Option Addr) (cap:Nat) (f:Value) (w:World) :
   Calls Tryz.prog 114 #[.slice A 0 cap,.int .i64 0,.int .i64 0,f] w fun e w'=>e=.returned (.tuple #[])∧w=w':=by
 go_enter Tryz.func114,Tryz.ntmps114
 go_wp2
 refine wp_loop_rounds 1 ?_
 rw [rounds_succ]
 go_wp2
 go_end0
 exact ⟨rfl,rfl⟩
set_option maxHeartbeats 400000 in
theorem pdqsort_any (g cap n:Nat) (E:List Ent) (lim:Int) (w:World) (hn:E.length=n) (hn2:n≤12) (hr:RowsBlk w g 72 3 (E.map entRow)) :
   Calls Tryz.prog 78 #[.slice (some ⟨g,0,none⟩) n cap,.int .i64 0,.int .i64 n,.int .i64 lim,.func (.func 52) #[] #[]] w fun e w' =>
     e=.returned (.tuple #[])∧Chg (· = g) w w'∧RowsBlk w' g 72 3 ((sortEnts E).map entRow):=by
 have H:=Lh (insertionSort_any g cap n E w hn (by omega) hr)
 have h12:(n:Int)≤12:=by omega
 clear hn hr
 go_enter Tryz.func78,Tryz.ntmps78
 go_wp2
 refine wp_loop_rounds 1 ?_
 rw [rounds_succ]
 go_wp2_with ((with_reducible refine (H.out).mono ?_);rintro e w1 ⟨rfl,hch,hrow⟩)
 refine bodyPost_ret (v:=.tuple #[]) (results_none rfl _ _ _) rfl ?_
 exact ⟨rfl,hch,hrow⟩
set_option maxHeartbeats 400000 in
theorem pdqsort_zero (A:Option Addr) (cap:Nat) (lim:Int) (f:Value) (w:World) :
   Calls Tryz.prog 78 #[.slice A 0 cap,.int .i64 0,.int .i64 0,.int .i64 lim,f] w fun e w'=>e=.returned (.tuple #[])∧w=w':=by
 have H:=Lh (insertionSort_zero A cap f w)
 go_enter Tryz.func78,Tryz.ntmps78
 go_wp2
 refine wp_loop_rounds 1 ?_
 rw [rounds_succ]
 go_wp2_with ((with_reducible refine (H.out).mono ?_);rintro e w1 ⟨rfl,rfl⟩)
 refine bodyPost_ret (v:=.tuple #[]) (results_none rfl _ _ _) rfl ?_
 exact ⟨rfl,rfl⟩
set_option maxHeartbeats 400000 in
theorem SortFunc_any (g cap n:Nat) (E:List Ent) (w:World) (hn:E.length=n) (hn2:n≤12) (hr:RowsBlk w g 72 3 (E.map entRow)) :
   Calls Tryz.prog 51 #[.slice (some ⟨g,0,none⟩) n cap,.func (.func 52) #[] #[]] w fun e w' =>
     e=.returned (.tuple #[])∧Chg (· = g) w w'∧RowsBlk w' g 72 3 ((sortEnts E).map entRow):=by
 have H:=fun lim=>pdqsort_any g cap n E lim w hn hn2 hr
 have H:=Lh H
 have h0:(0:Int)≤n:=by omega
 have h1:(n:Int)≤18446744073709551615:=by omega
 clear hn hr
 go_enter Tryz.func51,Tryz.ntmps51
 go_wp2_with (first | (go_at_call 79;(refine (Tryz.bits_Len _ _ (by omega) (by omega)).mono ?_);rintro e w1 ⟨rfl,rfl⟩) | ((with_reducible refine (H.out _).mono ?_);rintro e w1 ⟨rfl,hch,hrow⟩))
 go_end0
 exact ⟨rfl,hch,hrow⟩
set_option maxHeartbeats 400000 in
theorem SortFunc_zero (A:Option Addr) (cap:Nat) (f:Value) (w:World) :
   Calls Tryz.prog 51 #[.slice A 0 cap,f] w fun e w'=>e=.returned (.tuple #[])∧w=w':=by
 have H:=fun lim=>pdqsort_zero A cap lim f w
 have H:=Lh H
 go_enter Tryz.func51,Tryz.ntmps51
 go_wp2_with (first | (go_at_call 79;(refine (Tryz.bits_Len _ _ (by omega) (by omega)).mono ?_);rintro e w1 ⟨rfl,rfl⟩) | ((with_reducible refine (H.out _).mono ?_);rintro e w1 ⟨rfl,rfl⟩))
 go_end0
 exact ⟨rfl,rfl⟩
end Go.Proofs.YtocndimihokcmaaGreat
namespace Go.Proofs.YtocndimihokcmaaGreat
open Go.RowKit
theorem infoU8:(Tryz.prog.info? 5).map (fun i=>(i.zero,i.size,i.bytes))=some (some (.int .u8 0),1,1):=by kernel_rfl
theorem infoReg:(Tryz.prog.info? 72).map (fun i=>(i.zero,i.size,i.bytes))=some (some (.agg #[.int .u64 0,.slice none 0 0,.bool false]),3,40):=by kernel_rfl
theorem own_zero (w:World) (e sz:Nat):(w.alloc (.cells #[] e)).ownsRow w.heap.size e sz (.slice (some ⟨w.heap.size,0,none⟩) 0 0) 0 [] :=
 ⟨by simp,.inr ⟨w.heap.size,0,#[],rfl,Nat.le_refl _,heap_alloc_new w _,Nat.le_refl _,by decide,by simp,by simp⟩⟩
set_option maxHeartbeats 400000 in
theorem CloneB_nil (c:Nat) (w:World) :
   Calls Tryz.prog 50 #[.slice none 0 c] w fun e w'=>e=.returned (.slice none 0 0)∧Below w.heap.size w w':=by
 go_enter Tryz.func50,Tryz.ntmps50
 have h0:=fun (w:World)=>Lib.run_eql_slice_nil (P:=Tryz.prog) w 70 5 none 0 c 0 0 Tryz.underlying70
 go_wp2
 go_ret
 exact ⟨rfl,Below.refl _ _⟩
set_option maxHeartbeats 400000 in
theorem CloneB_some (ad:Addr) (n c:Nat) (w:World) (news:List Value) (hl:news.length=n*1) (hc:∀ (j:Nat) (u:Value),news[j]? = some u→w.cell? (ad.add j)=some u) (h1:∀ u∈news,u.oneCell'=true) (hn:n≤140737488351232) :
   Calls Tryz.prog 50 #[.slice (some ad) n c] w fun e w'=>∃ v,e=.returned v∧w'.ownsRow w.heap.size 5 1 v n news∧Below w.heap.size w w':=by
 obtain ⟨i0,hi,hz0,hz1,hz2⟩:=info_parts infoU8
 have h0:=fun (w:World)=>Lib.run_eql_slice_nil (P:=Tryz.prog) w 70 5 (some ad) n c 0 0 Tryz.underlying70
 have hc2:∀ (j:Nat) (u:Value),news[j]? = some u→(w.alloc (.cells #[] 5)).cell? (ad.add j)=some u:=fun j u hu=>by
   have:=hc j u hu
   rw [World.cell?_alloc_lt _ _ _ (World.block_lt_of_cell? w _ this)];exact this
 have HC:=Lh hc2
 have HL:=Lh hl
 have H1:=Lh h1
 clear hc hc2 hl h1
 go_enter Tryz.func50,Tryz.ntmps50
 go_wp2_with ((at_builtin;refine wpList_append_own_at _ rfl _ _ 70 rfl w.heap.size 5 i0 (.int .u8 0) 1 1 Tryz.underlying70 hi hz0 hz1 hz2 rfl (by decide) _ 0 [] rfl (own_zero w _ _) ad n c news rfl HL.out HC.out H1.out (by unfold maxLen;omega) (by omega) (by simp) ?_);intro v w1 hown hg _ _)
 go_ret
 exact ⟨v,rfl,by simpa using hown,((Below.refl _ _).alloc (Nat.le_refl _) _).grown hg (by simp) (fun k hk=>Nat.le_of_eq (Option.some.inj hk))⟩
theorem CloneB_rows (v:Value) (w:World) (F:Nat→Prop) (rows:List (List Value)) (hr:Rows w F 1 v rows) (h1:∀ u∈rows.flatten,u.oneCell'=true) (hn:rows.length≤3518437208000) :
   Calls Tryz.prog 50 #[v] w fun e w'=>∃ v,e=.returned v∧w'.ownsRow w.heap.size 5 1 v rows.length rows.flatten∧Below w.heap.size w w':=by
 have hr':=hr
 obtain ⟨A,c,rfl,hc,hl,hne⟩:=hr'
 cases A with
 | none =>
   have h0:rows=[]:=by
     rcases rows with _ | ⟨r,rs⟩
     · rfl
     · obtain ⟨b,off,hA,_⟩:=hne (by simp);cases hA
   subst h0
   refine (CloneB_nil c w).mono ?_
   rintro e w' ⟨rfl,hb⟩
   exact ⟨_,rfl,⟨by simp,.inl ⟨rfl,rfl⟩⟩,hb⟩
 | some ad =>
   obtain ⟨hfl,hfc⟩:=hr.flat (by decide)
   exact CloneB_some ad rows.length c w rows.flatten hfl hfc h1 (by omega)
set_option maxHeartbeats 400000 in
theorem CloneR_nil (c:Nat) (w:World) :
   Calls Tryz.prog 49 #[.slice none 0 c] w fun e w'=>e=.returned (.slice none 0 0)∧Below w.heap.size w w':=by
 go_enter Tryz.func49,Tryz.ntmps49
 have h0:=fun (w:World)=>Lib.run_eql_slice_nil (P:=Tryz.prog) w 43 72 none 0 c 0 0 Tryz.underlying43
 go_wp2
 go_ret
 exact ⟨rfl,Below.refl _ _⟩
set_option maxHeartbeats 400000 in
theorem CloneR_some (ad:Addr) (n c:Nat) (w:World) (news:List Value) (hl:news.length=n*3) (hc:∀ (j:Nat) (u:Value),news[j]? = some u→w.cell? (ad.add j)=some u) (h1:∀ u∈news,u.oneCell'=true) (hn:n≤3518437208000) :
   Calls Tryz.prog 49 #[.slice (some ad) n c] w fun e w'=>∃ v,e=.returned v∧w'.ownsRow w.heap.size 72 3 v n news∧Below w.heap.size w w':=by
 obtain ⟨i0,hi,hz0,hz1,hz2⟩:=info_parts infoReg
 have h0:=fun (w:World)=>Lib.run_eql_slice_nil (P:=Tryz.prog) w 43 72 (some ad) n c 0 0 Tryz.underlying43
 have hc2:∀ (j:Nat) (u:Value),news[j]? = some u→(w.alloc (.cells #[] 72)).cell? (ad.add j)=some u:=fun j u hu=>by
   have:=hc j u hu
   rw [World.cell?_alloc_lt _ _ _ (World.block_lt_of_cell? w _ this)];exact this
 have HC:=Lh hc2
 have HL:=Lh hl
 have H1:=Lh h1
 clear hc hc2 hl h1
 go_enter Tryz.func49,Tryz.ntmps49
 go_wp2_with ((at_builtin;refine wpList_append_own_at _ rfl _ _ 43 rfl w.heap.size 72 i0 (.agg #[.int .u64 0,.slice none 0 0,.bool false]) 3 40 Tryz.underlying43 hi hz0 hz1 hz2 rfl (by decide) _ 0 [] rfl (own_zero w _ _) ad n c news rfl HL.out HC.out H1.out (by unfold maxLen;omega) (by omega) (by simp) ?_);intro v w1 hown hg _ _)
 go_ret
 exact ⟨v,rfl,by simpa using hown,((Below.refl _ _).alloc (Nat.le_refl _) _).grown hg (by simp) (fun k hk=>Nat.le_of_eq (Option.some.inj hk))⟩
theorem CloneR_rows (v:Value) (w:World) (F:Nat→Prop) (rows:List (List Value)) (hr:Rows w F 3 v rows) (h1:∀ u∈rows.flatten,u.oneCell'=true) (hn:rows.length≤3518437208000) :
   Calls Tryz.prog 49 #[v] w fun e w'=>∃ v,e=.returned v∧w'.ownsRow w.heap.size 72 3 v rows.length rows.flatten∧Below w.heap.size w w':=by
 have hr':=hr
 obtain ⟨A,c,rfl,hc,hl,hne⟩:=hr'
 cases A with
 | none =>
   have h0:rows=[]:=by
     rcases rows with _ | ⟨r,rs⟩
     · rfl
     · obtain ⟨b,off,hA,_⟩:=hne (by simp);cases hA
   subst h0
   refine (CloneR_nil c w).mono ?_
   rintro e w' ⟨rfl,hb⟩
   exact ⟨_,rfl,⟨by simp,.inl ⟨rfl,rfl⟩⟩,hb⟩
 | some ad =>
   obtain ⟨hfl,hfc⟩:=hr.flat (by decide)
   exact CloneR_some ad rows.length c w rows.flatten hfl hfc h1 (by omega)
end Go.Proofs.YtocndimihokcmaaGreat
