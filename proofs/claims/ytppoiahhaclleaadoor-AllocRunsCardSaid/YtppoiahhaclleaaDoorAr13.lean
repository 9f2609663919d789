/- Part 13 of a claim; what it proves stands in its last text. -/
import Derived.Test.YtppoiahhaclleaaDoorAr1
import Derived.Test.YtppoiahhaclleaaDoorAr12
import Derived.Shelf.SlSortCmp.WholeK
import Derived.Ground.SlsfProg
import Derived.Test.YtppoiahhaclleaaDoorProg
namespace Go.Proofs.YtppoiahhaclleaaDoor
open Go.RowKit
def Picked (m:Nat) (w:World) (e:Ending) (w':World):Prop:=∃ p:Nat,p < m∧e=.returned (.int .i64 p)∧w=w'
theorem tmod_range (a:Int) (m:Nat) (hm:1≤m):-(m:Int) < a.tmod m∧a.tmod m < m:=by
 have e1:=Int.emod_nonneg a (b:=m) (by omega)
 have e2:=Int.emod_lt_of_pos a (b:=m) (by omega)
 have e3:=Int.emod_nonneg (-a) (b:=m) (by omega)
 have e4:=Int.emod_lt_of_pos (-a) (b:=m) (by omega)
 rcases Int.le_total 0 a with h | h
 · rw [Int.tmod_eq_emod_of_nonneg h];omega
 · have h:=Int.tmod_eq_emod_of_nonneg (a:=-a) (b:=m) (by omega)
   rw [Int.neg_tmod] at h;omega
set_option maxHeartbeats 400000 in
theorem Pick_any (a:Int) (m:Nat) (hm:1≤m) (hm2:m≤4096) (w:World) :
   Calls Tryd.prog 12 #[.int .i64 a,.int .i64 m] w (Picked m w):=by
 have d1:decide ((m:Int) < 1)=false:=by simp;omega
 have d2:((m:Int) == 0)=false:=beq_eq_false_iff_ne.2 (by omega)
 have d3:((m:Int) == -1)=false:=beq_eq_false_iff_ne.2 (by omega)
 obtain ⟨hlo,hhi⟩:=tmod_range a m hm
 generalize ht:a.tmod m=t at *
 by_cases hn:t < 0
 · have d4:decide (t < 0)=true:=by simp;omega
   go_enter Tryd.func12,Tryd.ntmps12
   go_wp2
   go_ret
   exact ⟨(t+m).toNat,by omega,ret_int (by omega),rfl⟩
 · have d4:decide (t < 0)=false:=by simp;omega
   go_enter Tryd.func12,Tryd.ntmps12
   go_wp2
   go_ret
   exact ⟨t.toNat,by omega,ret_int (by omega),rfl⟩
end Go.Proofs.YtppoiahhaclleaaDoor
namespace Go.Proofs.YtppoiahhaclleaaDoor
open Go.RowKit
set_option maxRecDepth 100000
def spanRow (s:Int×Int):List Value:=[.int .i64 s.1,.int .i64 s.2]
theorem rows_own {w:World} {base e sz:Nat} {v:Value} {rows:List (List Value)} (h:w.ownsRow base e sz v rows.length rows.flatten) (hsz:∀ r∈rows,r.length=sz):Rows w (fun k=>v.ownBlock=some k) sz v rows:=by
 rcases Nat.eq_zero_or_pos rows.length with h0 | hpos
 · obtain rfl:=List.eq_nil_of_length_eq_zero h0
   rcases h.2 with ⟨rfl,_⟩ | ⟨g,cap,cur,rfl,_,_,hnc,_⟩
   · exact ⟨none,0,rfl,by simp,by simp,fun h=>absurd rfl h⟩
   · exact ⟨_,cap,rfl,by simp,by simp,fun h=>absurd rfl h⟩
 · obtain ⟨g,cap,rfl,hg,hnc,hrow⟩:=rowsBlk_of_own h hsz hpos
   refine ⟨_,cap,by simp,by simpa using hnc,hsz,fun _=>⟨g,0,rfl,rfl,fun i j r u hr hu=>?_⟩⟩
   rw [Nat.zero_add]
   exact hrow.cell hr hu
theorem spV_append (a b:List (Int×Int)):spV (a++b)=spV a++spV b:=by simp [spV]
theorem info2:(Tryd.prog.info? 43).map (fun i=>(i.zero,i.size,i.bytes))=some (some (.agg #[.int .i64 0,.int .i64 0]),2,16):=by kernel_rfl
set_option maxHeartbeats 4000000 in
theorem Live_ok (p:LP) (Ab Ao:Option Addr) (nb cb no co n:Nat) (w:World) (hp:ProgAt w (fun k=>k < w.heap.size) [.int .i64 p.regs,.slice Ab nb cb,.slice Ao no co] p) (h0:(checkF p 64).2=0) (hn:p.regs=n) :
   Calls Tryd.prog 20 #[.agg #[.int .i64 p.regs,.slice Ab nb cb,.slice Ao no co]] w fun e w'=>∃ A c,e=.returned (.slice A n c)∧Below w.heap.size w w'∧Rows w' (New w w') 2 (.slice A n c) ((spansF p).map spanRow):=by
 obtain ⟨W,hW,hbW,hzW,hl_,hr_⟩:=boxed w #[.int .i64 p.regs,.slice Ab nb cb,.slice Ao no co] 25
 have c0:W.cell? ⟨w.heap.size,0,none⟩=some (.int .i64 p.regs):=by rw [hl_];rfl
 have c1:W.cell? ⟨w.heap.size,1,none⟩=some (.slice Ab nb cb):=by rw [hl_];rfl
 have c2:W.cell? ⟨w.heap.size,2,none⟩=some (.slice Ao no co):=by rw [hl_];rfl
 have hp1:=prog_next hp hbW
 have HC:=Lh (check_any p Ab Ao nb cb no co W hp1)
 have HSP:=Lh (fun wr (hb:Below W.heap.size W wr)=>spans_any p Ab Ao nb cb no co n wr (prog_next hp1 hb) h0 hn)
 have HW:=Lh hW
 have HB:=Lh hbW
 have hn64:n≤64:=by have:=(head_ok (check_run h0).1).1;omega
 have HLEN:=Lh (show (spansF p).length=n by rw [spans_len,hn];rfl)
 obtain ⟨x,hx⟩:∃ x,(checkF p 64).1=x:=⟨_,rfl⟩
 rw [hx,h0] at HC
 have hlt:w.heap.size < W.heap.size:=by omega
 clear hW hbW hzW hl_ hr_ hp hp1 hx h0 hn
 go_enter Tryd.func20,Tryd.ntmps20
 go_upto_region 1 with fail
 rw [←HW.out]
 go_upto_region 5 with ((with_reducible refine (HC.out).mono ?_);rintro e w1 ⟨rfl,hb1⟩)
 have HSP1:=Lh (HSP.out w1 hb1)
 have e0:=(hb1.cell (p:=⟨w.heap.size,0,none⟩) hlt).trans c0
 have e1:=(hb1.cell (p:=⟨w.heap.size,1,none⟩) hlt).trans c1
 have e2:=(hb1.cell (p:=⟨w.heap.size,2,none⟩) hlt).trans c2
 have HB1:=Lh hb1
 clear c0 c1 c2 hb1
 go_wp2_with ((with_reducible refine (HSP1.out).mono ?_);rintro e w2 ⟨gs,rfl,hgs,hsp,hb2⟩;have HS0:=Lh hsp;have HGS:=Lh hgs;have HB2:=Lh hb2;clear hsp hgs hb2 e0 e1 e2)
 have HBW:=Lh (show Below w.heap.size w w2 from HB.out.trans ((HB1.out.trans (HB2.out.mono HB1.out.size)).mono HB.out.size))
 obtain ⟨j0,hie,hy0,hy1,hy2⟩:=info_parts info2
 go_loopw [5,18] (fun v i wr=>∃ (k:Nat) (A:Option Addr) (c:Nat),k≤n∧i=.int .i64 k∧v=.slice A k c∧wr.ownsRow w.heap.size 43 2 (.slice A k c) k (spV ((spansF p).take k))∧(Value.slice A k c).ownBlock≠some gs∧SpansAt wr gs (spansF p)∧Below w.heap.size w wr) (fun _ i _=>n - (intOf i).toNat)
 case atStart=>exact ⟨0,none,0,by omega,rfl,rfl,World.ownsRow_nil _ _ _ _,(fun e=>by cases e),HS0.out,HBW.out⟩
 case round =>
   obtain ⟨k,A,c,hk,rfl,rfl,hown,hne,hsp,hbl⟩:=hrel
   have HOWN:=Lh hown
   have HNE:=Lh hne
   have HS:=Lh hsp
   have HBL:=Lh hbl
   clear hown hne hsp hbl
   by_cases hlt2:k < n
   · obtain ⟨s,hs⟩:∃ s,(spansF p)[k]? = some s:=⟨_,List.getElem?_eq_getElem (by rw [HLEN.out];exact hlt2)⟩
     have y0:=(HS.out.cells hs).1
     have y1:=(HS.out.cells hs).2
     have HTK:=Lh (show spV ((spansF p).take (k+1))=spV ((spansF p).take k)++[Value.int .i64 s.1,Value.int .i64 s.2] by rw [List.take_add_one,hs,spV_append];rfl)
     obtain ⟨W5,hW5⟩:∃ q,q=wr.alloc (.cells #[.int .i64 s.1,.int .i64 s.2] 68):=⟨_,rfl⟩
     have hb5:Below wr.heap.size wr W5:=by rw [hW5];exact (Below.refl _ _).alloc (Nat.le_refl _) _
     have h5:W5.heap[wr.heap.size]? = some (.cells #[.int .i64 s.1,.int .i64 s.2] 68 (0,0)):=by rw [hW5];exact heap_alloc_new wr _
     have z0:W5.cell? ⟨wr.heap.size,0,none⟩=some (.int .i64 s.1):=by simp only [World.cell?,h5];rfl
     have z1:W5.cell? ⟨wr.heap.size,1,none⟩=some (.int .i64 s.2):=by simp only [World.cell?,h5];rfl
     have HB5:=Lh (HBL.out.trans (hb5.mono HBL.out.size))
     have HOWN5:=Lh (row_keep (fun g hg=>hb5.block g (own_lt HOWN.out g hg).1) HOWN.out)
     have HS5:=Lh (HS.out.next hb5)
     have HW5:=Lh hW5
     have i0:(0:Int)≤(k:Int):=by omega
     have i1:(k:Int) < (n:Int):=by omega
     clear hs hW5 hb5 h5
     go_upto_region 8 with fail
     rw [←HW5.out]
     clear y0 y1
     go_wp2_with ((at_builtin;refine wpList_append_own_at _ rfl _ _ 39 rfl w.heap.size 43 j0 (.agg #[.int .i64 0,.int .i64 0]) 2 16 Tryd.underlying39 hie hy0 hy1 hy2 rfl (by decide) _ k _ rfl (HOWN5.out.alloc _) ⟨W5.heap.size,0,none⟩ 1 1 [.int .i64 s.1,.int .i64 s.2] rfl (by simp) (World.news_of_block (cs:=#[.int .i64 s.1,.int .i64 s.2]) (t:=43) (fr:=(0,0)) (heap_alloc_new W5 _)) (by simp [Value.oneCell']) (by unfold maxLen;omega) (by omega) (by have:=HB5.out.size;simp;omega) ?_);intro v w6 hown6 hg6 _ hwh6;have HOWN6:=Lh hown6;have HG6:=Lh hg6;have HWH6:=Lh hwh6;clear hown6 hg6 hwh6)
     obtain ⟨A6,c6,rfl⟩:=own_form HOWN6.out
     have hb6:Below W5.heap.size W5 (W5.alloc (.cells #[.int .i64 s.1,.int .i64 s.2] 43)):=(Below.refl _ _).alloc (Nat.le_refl _) _
     have hz6:(W5.alloc (.cells #[.int .i64 s.1,.int .i64 s.2] 43)).heap.size=W5.heap.size+1:=by simp
     have hgl:=lt_of_block HS5.out
     have hne6:(Value.slice A6 (k+1) c6).ownBlock≠some gs:=fun e=>by
       rcases HWH6.out with h | h
       · exact HNE.out (h▸e)
       · rw [e] at h
         have h2:=Option.some.inj h
         omega
     have hsp6:SpansAt w6 gs (spansF p):=by
       show w6.heap[gs]? = _
       rw [HG6.out.block gs (by omega) (fun e=>HNE.out e.symm),hb6.block gs hgl]
       exact HS5.out
     have hbel6:Below w.heap.size w w6:=(HB5.out.trans (hb6.mono HB5.out.size)).grown HG6.out (by have:=HB5.out.size;omega) (fun k hk=>(own_lt HOWN5.out k hk).2)
     have hown6:=HOWN6.out
     rw [←HTK.out] at hown6
     go_roundw
     case rel=>exact ⟨k+1,A6,c6,by omega,by go_num,rfl,hown6,hne6,hsp6,hbel6⟩
     case measure=>simp [intOf];omega
   · have hkn:k=n:=by omega
     have hown:=HOWN.out
     rw [List.take_of_length_le (by rw [HLEN.out];omega),hkn] at hown
     have hr:=rows_own (rows:=(spansF p).map spanRow) (by rw [List.length_map,HLEN.out];exact hown) (by intro r hr;obtain ⟨x,_,rfl⟩:=List.mem_map.1 hr;rfl)
     have HR:=Lh (hr.mono (G:=New w wr) fun j hj=>⟨(own_lt hown j hj).2,(own_lt hown j hj).1⟩)
     clear hown hr hkn
     go_wp2
     go_ret
     exact ⟨A,c,by rw [show k=n by omega];rfl,HBL.out,HR.out⟩
def Tells (w:World) (e:Ending) (w':World):Prop:=∃ b:Bool,e=.returned (.bool b)∧Below w.heap.size w w'
theorem tells_of {w w':World} (b:Bool) (h:Below w.heap.size w w'):Tells w (.returned (.bool b)) w':=⟨b,rfl,h⟩
set_option maxHeartbeats 4000000 in
theorem LightProg_any (p:LP) (Ab Ao:Option Addr) (nb cb no co:Nat) (most:Int) (w:World) (hp:ProgAt w (fun k=>k < w.heap.size) [.int .i64 p.regs,.slice Ab nb cb,.slice Ao no co] p) :
   Calls Tryd.prog 9 #[.agg #[.int .i64 p.regs,.slice Ab nb cb,.slice Ao no co],.int .i64 most] w (Tells w):=by
 obtain ⟨W,hW,hbW,hzW,hl_,hr_⟩:=boxed w #[.int .i64 p.regs,.slice Ab nb cb,.slice Ao no co] 25
 have c0:W.cell? ⟨w.heap.size,0,none⟩=some (.int .i64 p.regs):=by rw [hl_];rfl
 have c1:W.cell? ⟨w.heap.size,1,none⟩=some (.slice Ab nb cb):=by rw [hl_];rfl
 have c2:W.cell? ⟨w.heap.size,2,none⟩=some (.slice Ao no co):=by rw [hl_];rfl
 have hBuf:BufsAt W (fun k=>k < W.heap.size) (.slice Ab nb cb) p.bufs:=by
   obtain ⟨vb,vo,h,h1,h2⟩:=(prog_next hp hbW).row
   simp only [List.cons.injEq] at h
   rw [h.2.1];exact h1
 have hnb:p.bufs.length=nb:=by obtain ⟨A,c,hv,_⟩:=rows_form hBuf;cases hv;rfl
 have HNB:=Lh hnb
 have HBUF:=Lh hBuf
 have HW:=Lh hW
 have HB:=Lh hbW
 obtain ⟨r,hr⟩:∃ r,p.regs=r:=⟨_,rfl⟩
 rw [hr] at c0 HW
 rw [hr]
 clear hW hbW hzW hl_ hr_ hp hr hBuf hnb
 go_enter Tryd.func9,Tryd.ntmps9
 go_upto_region 1 with fail
 rw [←HW.out]
 go_wp2
 go_loop [5,6] (fun z i=>∃ (y:Int) (k:Nat),k≤nb∧k≤41∧z=.int .i64 y∧i=.int .i64 k) (fun _ i=>41 - (intOf i).toNat)
 case atStart=>exact ⟨0,0,by omega,by omega,rfl,rfl⟩
 case round =>
   obtain ⟨y,k,hk,hk41,rfl,rfl⟩:=hrel
   have i0:(0:Int)≤(k:Int):=by omega
   by_cases hlt:k < nb∧k≤40
   · obtain ⟨h1,h2⟩:=hlt
     obtain ⟨x,hx⟩:∃ x,p.bufs[k]? = some x:=⟨_,List.getElem?_eq_getElem (by rw [HNB.out];exact h1)⟩
     obtain ⟨b,o,rfl,_,y0,_⟩:=HBUF.out.at_ hx
     obtain ⟨sz,hsz⟩:∃ q,x.size=q:=⟨_,rfl⟩
     rw [hsz] at y0
     have i1:(k:Int) < (nb:Int):=by omega
     have d1:decide (k < nb)=true:=decide_eq_true h1
     have d2:decide ((k:Int)≤40)=true:=decide_eq_true (by omega)
     clear hx hsz
     cases d3:decide ((0:Int) < sz)
     · go_wp2
       go_round
       case rel=>exact ⟨y,k+1,by omega,by omega,rfl,by go_num⟩
       case measure=>simp [intOf];omega
     · cases d4:decide (sz≤(65536:Int))
       · go_wp2
         go_round
         case rel=>exact ⟨y,k+1,by omega,by omega,rfl,by go_num⟩
         case measure=>simp [intOf];omega
       · go_wp2
         go_round
         case rel=>exact ⟨_,k+1,by omega,by omega,rfl,by go_num⟩
         case measure=>simp [intOf];omega
   · have hex:(decide (k < nb) && decide ((k:Int)≤40))=false:=by
       rw [Bool.and_eq_false_iff,decide_eq_false_iff_not,decide_eq_false_iff_not];omega
     cases e1:decide (k < nb)
     · clear hex hlt
       cases d1:decide (r≤(100:Int))
       · go_wp2
         go_ret
         exact tells_of _ HB.out
       cases d2:decide ((nb:Int)≤40)
       · go_wp2
         go_ret
         exact tells_of _ HB.out
       cases d3:decide ((no:Int)≤most)
       · go_wp2
         go_ret
         exact tells_of _ HB.out
       cases d4:decide (y≤(600:Int))
       · go_wp2
         go_ret
         exact tells_of _ HB.out
       · go_wp2
         go_ret
         exact tells_of _ HB.out
     · rw [e1] at hex
       have e2:decide ((k:Int)≤40)=false:=by simpa using hex
       clear hex hlt
       cases d1:decide (r≤(100:Int))
       · go_wp2
         go_ret
         exact tells_of _ HB.out
       cases d2:decide ((nb:Int)≤40)
       · go_wp2
         go_ret
         exact tells_of _ HB.out
       cases d3:decide ((no:Int)≤most)
       · go_wp2
         go_ret
         exact tells_of _ HB.out
       cases d4:decide (y≤(600:Int))
       · go_wp2
         go_ret
         exact tells_of _ HB.out
       · go_wp2
         go_ret
         exact tells_of _ HB.out
end Go.Proofs.YtppoiahhaclleaaDoor
namespace Go.Proofs.YtppoiahhaclleaaDoor
open Go.RowKit
set_option maxRecDepth 100000
def KeepAt (w:World) (k pool slots:Nat) (v:Value):Prop:=w.heap[k]? = some (.cells [Value.int .u64 pool,.int .u64 slots,v].toArray 73 (0,0))
theorem KeepAt.cells {w:World} {k pool slots:Nat} {v:Value} (h:KeepAt w k pool slots v):w.cell? ⟨k,0,none⟩=some (.int .u64 pool)∧w.cell? ⟨k,1,none⟩=some (.int .u64 slots)∧w.cell? ⟨k,2,none⟩=some v :=
 ⟨cell_row h rfl,cell_row h rfl,cell_row h rfl⟩
theorem KeepAt.drew {w:World} {k pool slots:Nat} {v:Value} (h:KeepAt w k pool slots v):KeepAt w.drew k pool slots v:=h
theorem KeepAt.next {w w':World} {k pool slots:Nat} {v:Value} (h:KeepAt w k pool slots v) (hb:Below w.heap.size w w'):KeepAt w' k pool slots v:=(hb.block k (lt_of_block h)).trans h
theorem KeepAt.grown {w w':World} {k pool slots:Nat} {v:Value} {r:Option Nat} (h:KeepAt w k pool slots v) (hb:w.grownBy w' r) (hr:some k≠r):KeepAt w' k pool slots v:=(hb.block k (lt_of_block h) hr).trans h
theorem KeepAt.set0 {w:World} {k pool slots:Nat} {v:Value} (h:KeepAt w k pool slots v) (p:Nat):KeepAt (w.setCell ⟨k,0,none⟩ (.int .u64 p)) k p slots v:=setCell_row h 0 _
theorem KeepAt.set1 {w:World} {k pool slots:Nat} {v:Value} (h:KeepAt w k pool slots v) (p:Nat):KeepAt (w.setCell ⟨k,1,none⟩ (.int .u64 p)) k pool p v:=setCell_row h 1 _
theorem KeepAt.set2 {w:World} {k pool slots:Nat} {v:Value} (h:KeepAt w k pool slots v) (u:Value):KeepAt (w.setCell ⟨k,2,none⟩ u) k pool slots u:=setCell_row h 2 _
theorem infoS:(Tryd.prog.info? 101).map (fun i=>(i.zero,i.size,i.bytes))=some (some (.agg #[.int .i64 0,.int .i64 0]),2,16):=by kernel_rfl
set_option maxHeartbeats 4000000 in
theorem free_zero {k pool slots c:Nat} {A:Option Addr} (now:Int) (w:World) (hk:KeepAt w k pool slots (.slice A 0 c)) :
   Calls Tryd.prog 37 #[.pointer (some ⟨k,0,none⟩),.int .i64 now] w fun e w'=>e=.returned (.tuple #[])∧Below w.heap.size w w':=by
 have H:=Lh (fun f=>SortS_one A c 0 f w (by omega))
 have f2:=hk.cells.2.2
 clear hk
 go_enter Tryd.func37,Tryd.ntmps37
 go_wp2_with ((with_reducible refine (H.out _).mono ?_);rintro e w1 ⟨rfl,rfl⟩)
 refine wp_loop_rounds 1 ?_
 rw [rounds_succ]
 go_wp2
 refine bodyPost_end (v:=.tuple #[]) (results_none rfl _ _ _) rfl ?_
 exact ⟨rfl,Below.refl _ _⟩
set_option maxHeartbeats 4000000 in
theorem free_one {k pool slots g c:Nat} (now un:Int) (w:World) (hk:KeepAt w k pool slots (.slice (some ⟨g,0,none⟩) 1 c)) (hg:w.cell? ⟨g,1,none⟩=some (.int .i64 un)) (hu:¬ un < now) :
   Calls Tryd.prog 37 #[.pointer (some ⟨k,0,none⟩),.int .i64 now] w fun e w'=>e=.returned (.tuple #[])∧Below w.heap.size w w':=by
 have H:=Lh (fun f=>SortS_one (some ⟨g,0,none⟩) c 1 f w (by omega))
 have f2:=hk.cells.2.2
 have hd:decide (un < now)=false:=decide_eq_false hu
 clear hk hu
 go_enter Tryd.func37,Tryd.ntmps37
 go_wp2_with ((with_reducible refine (H.out _).mono ?_);rintro e w1 ⟨rfl,rfl⟩)
 refine wp_loop_rounds 1 ?_
 rw [rounds_succ]
 go_wp2
 refine bodyPost_end (v:=.tuple #[]) (results_none rfl _ _ _) rfl ?_
 exact ⟨rfl,Below.refl _ _⟩
theorem chg_grown {F:Nat→Prop} {w w':World} {r:Option Nat} (h:w.grownBy w' r) (hr:∀ j,r=some j→F j):Chg F w w':=⟨h.os,h.tape,h.output,h.size,fun j hj hF=>h.block j hj fun e=>hF (hr j e.symm)⟩
theorem ctz_le (x:Nat) (h:x < 18446744073709551616):Lib.ctz 64 x≤64:=by
 by_cases h0:x=0
 · rw [h0];decide
 · exact Nat.le_of_lt (Lib.lowest_bit 64 x h0 h).2
def andV (p:Nat):Int:=bits BinOp.and IntKind.u64 (p:Int) (IntKind.u64.wrap ((p:Int) - 1))
structure Taken (base k pool slots n:Nat) (v:Value) (l:List (Int×Int)) (place un:Int) (w:World) (e:Ending) (w':World):Prop where
 is:e=.returned (.int .i64 place)
 held:∃ A c,KeepAt w' k pool slots (.slice A (n+1) c)∧w'.ownsRow base 101 2 (.slice A (n+1) c) (n+1) (spV (l++[(place,un)]))∧(Value.slice A (n+1) c).ownBlock≠some k
 chg:Chg (fun j=>j=k∨v.ownBlock=some j) w w'
set_option maxHeartbeats 4000000 in
theorem take_reg {base k pool slots n c p':Nat} {A:Option Addr} {l:List (Int×Int)} (un:Int) (w:World) (hk:KeepAt w k pool slots (.slice A n c)) (hown:w.ownsRow base 101 2 (.slice A n c) n (spV l)) (hne:(Value.slice A n c).ownBlock≠some k)
   (hT:TzAt w) (hp:pool≠0) (hp64:pool < 18446744073709551616) (hn:n≤1000) (hl:l.length=n) (hb:base≤w.heap.size) (hp':andV pool=(p':Int)) :
   Calls Tryd.prog 38 #[.pointer (some ⟨k,0,none⟩),.int .i64 un] w fun e w'=>Taken base k p' slots n (.slice A n c) l (Lib.ctz 64 pool:Nat) un w e w':=by
 have H:=Lh (tz_any pool hp64 w hT)
 have HKP:=Lh hk
 have HNE:=Lh hne
 obtain ⟨j0,hie,hy0,hy1,hy2⟩:=info_parts infoS
 have f0:=hk.cells.1
 have d0:((pool:Int) != 0)=true:=by simp;omega
 obtain ⟨pl,hpl⟩:∃ x,(Lib.ctz 64 pool:Nat)=x:=⟨_,rfl⟩
 rw [hpl] at H ⊢
 have HP:=Lh hp'
 unfold andV at hp'
 obtain ⟨W3,hW3⟩:∃ q,q=w.drew.setCell ⟨k,0,none⟩ (.int .u64 (p':Nat)):=⟨_,rfl⟩
 have hck:Chg (fun j=>j=k∨(Value.slice A n c).ownBlock=some j) w W3:=by rw [hW3];exact (Chg.refl _ w).drew.setCell (.inl (.inl rfl)) _
 have HC3:=Lh hck
 have HKP3:=Lh (show KeepAt W3 k p' slots (.slice A n c) by rw [hW3];exact hk.drew.set0 p')
 have HOWN3:=Lh (show W3.ownsRow base 101 2 (.slice A n c) n (spV l) from row_keep (fun g hg=>by
   rw [hW3];exact Below.heap_setCell _ _ _ _ (fun e=>hne (hg.trans (congrArg some e)))) hown)
 have HBZ:=Lh (show base≤W3.heap.size from Nat.le_trans hb hck.size)
 have HW3:=Lh hW3
 have HL:=Lh hl
 clear hk hown hne hT hp hp64 hl hb hW3 hck hpl
 go_enter Tryd.func38,Tryd.ntmps38
 go_wp2_with ((with_reducible refine (H.out).mono ?_);rintro e w1 ⟨rfl,rfl⟩)
 clear f0
 (refine wp_region_lines (fun w_=>KeepAt w_ k pool slots (.slice A n c)) (by kernel_rfl) (by kernel_rfl) HKP.out.drew ?_)
 (try simp only [])
 repeat (first | (refine runL_no (by rfl) ?_;(try simp only [Act.put,List.setIfInBounds_toArray,List.set_cons_zero,List.set_cons_succ])) | (refine runL_val (v:=?_) (by rfl) ?_ ?_;rotate_left;(focus (intro w_ hw_;have f0_:=hw_.cells.1;have f1_:=hw_.cells.2.1;go_simp;(try with_reducible rfl);done));(try simp only [Act.put,List.setIfInBounds_toArray,List.set_cons_zero,List.set_cons_succ])) | (refine runL_skip (w1:=w1.drew.setCell ⟨k,0,none⟩ (.int .u64 (p':Nat))) (by rfl) (by rfl) (exec_store1 45 _ _ rfl k 0 _ rfl rfl (by kernel_rfl) (by show (World.cell? w1 _).isSome=true;rw [HKP.out.cells.1];rfl) (frozen_row (row:=[_,_,_]) HKP.out _) rfl) (.inl ⟨rfl,by kernel_rfl⟩) ?_;(try simp only [Act.put])))
 (refine runL_nil ?_)
 have f2:=HKP3.out.cells.2.2
 rw [←HW3.out]
 go_wp2_with ((at_builtin;refine wpList_append_own_at _ rfl _ _ 71 rfl base 101 j0 (.agg #[.int .i64 0,.int .i64 0]) 2 16 Tryd.underlying71 hie hy0 hy1 hy2 rfl (by decide) _ n _ rfl (HOWN3.out.alloc _) ⟨W3.heap.size,0,none⟩ 1 1 [.int .i64 (pl:Nat),.int .i64 un] rfl (by simp) (World.news_of_block (cs:=#[.int .i64 (pl:Nat),.int .i64 un]) (t:=101) (fr:=(0,0)) (heap_alloc_new W3 _)) (by simp [Value.oneCell']) (by unfold maxLen;omega) (by omega) (by have:=HBZ.out;simp;omega) ?_);intro pP w6 hown6 hg6 _ hwh6;obtain ⟨A6,c6,rfl⟩:=own_form hown6;have HOWN6:=Lh hown6;have HG6:=Lh hg6;have HWH6:=Lh hwh6;clear hown6 hg6 hwh6;have HK6:=Lh ((HKP3.out.next ((Below.refl _ _).alloc (Nat.le_refl _) _)).grown HG6.out (fun e=>HNE.out e.symm));have s2:=HK6.out.cells.2.2;have s3:=frozen_row (row:=[_,_,_]) HK6.out 2)
 go_wp2
 go_ret
 have hkz:=lt_of_block HKP3.out
 have hne6:(Value.slice A6 (n+1) c6).ownBlock≠some k:=fun e=>by
   rcases HWH6.out with h | h
   · exact HNE.out (h▸e)
   · rw [e] at h
     have h2:=Option.some.inj h
     simp at h2
     omega
 refine ⟨rfl,⟨A6,c6,HK6.out.set2 _,?_,hne6⟩,?_⟩
 · rw [spV_append]
   exact row_keep (fun g hg=>Below.heap_setCell _ _ _ _ (fun e=>hne6 (hg.trans (congrArg some e)))) HOWN6.out
 · exact ((HC3.out.alloc _).trans (chg_grown HG6.out fun j hj=>.inr hj)).setCell (.inl (.inl rfl)) _
set_option maxHeartbeats 4000000 in
theorem take_slot {base k pool slots n c p':Nat} {A:Option Addr} {l:List (Int×Int)} (un:Int) (w:World) (hk:KeepAt w k pool slots (.slice A n c)) (hown:w.ownsRow base 101 2 (.slice A n c) n (spV l)) (hne:(Value.slice A n c).ownBlock≠some k)
   (hT:TzAt w) (hp:pool=0) (hp64:slots < 18446744073709551616) (hn:n≤1000) (hl:l.length=n) (hb:base≤w.heap.size) (hp':andV slots=(p':Int)) :
   Calls Tryd.prog 38 #[.pointer (some ⟨k,0,none⟩),.int .i64 un] w fun e w'=>Taken base k pool p' n (.slice A n c) l (-1 - (Lib.ctz 64 slots:Nat)) un w e w':=by
 have H:=Lh (tz_any slots hp64 w hT)
 have HKP:=Lh hk
 have HNE:=Lh hne
 obtain ⟨j0,hie,hy0,hy1,hy2⟩:=info_parts infoS
 have f0:=hk.cells.1
 have f1:=hk.cells.2.1
 have d0:((pool:Int) != 0)=false:=by subst hp;rfl
 have hz:=ctz_le slots hp64
 obtain ⟨pl,hpl⟩:∃ x,(Lib.ctz 64 slots:Nat)=x:=⟨_,rfl⟩
 rw [hpl] at H hz ⊢
 have hw:IntKind.i64.wrap (-1 - (pl:Int)) = -1 - pl:=by rw [IntKind.wrap_i64];omega
 have HP:=Lh hp'
 unfold andV at hp'
 obtain ⟨W3,hW3⟩:∃ q,q=w.drew.setCell ⟨k,1,none⟩ (.int .u64 (p':Nat)):=⟨_,rfl⟩
 have hck:Chg (fun j=>j=k∨(Value.slice A n c).ownBlock=some j) w W3:=by rw [hW3];exact (Chg.refl _ w).drew.setCell (.inl (.inl rfl)) _
 have HC3:=Lh hck
 have HKP3:=Lh (show KeepAt W3 k pool p' (.slice A n c) by rw [hW3];exact hk.drew.set1 p')
 have HOWN3:=Lh (show W3.ownsRow base 101 2 (.slice A n c) n (spV l) from row_keep (fun g hg=>by
   rw [hW3];exact Below.heap_setCell _ _ _ _ (fun e=>hne (hg.trans (congrArg some e)))) hown)
 have HBZ:=Lh (show base≤W3.heap.size from Nat.le_trans hb hck.size)
 have HW3:=Lh hW3
 have HL:=Lh hl
 clear hk hown hne hT hp hp64 hl hb hW3 hck hpl
 go_enter Tryd.func38,Tryd.ntmps38
 go_wp2_with ((with_reducible refine (H.out).mono ?_);rintro e w1 ⟨rfl,rfl⟩)
 clear f0 f1
 (refine wp_region_lines (fun w_=>KeepAt w_ k pool slots (.slice A n c)) (by kernel_rfl) (by kernel_rfl) HKP.out.drew ?_)
 (try simp only [])
 repeat (first | (refine runL_no (by rfl) ?_;(try simp only [Act.put,List.setIfInBounds_toArray,List.set_cons_zero,List.set_cons_succ])) | (refine runL_val (v:=?_) (by rfl) ?_ ?_;rotate_left;(focus (intro w_ hw_;have f0_:=hw_.cells.1;have f1_:=hw_.cells.2.1;go_simp;(try with_reducible rfl);done));(try simp only [Act.put,List.setIfInBounds_toArray,List.set_cons_zero,List.set_cons_succ])) | (refine runL_skip (w1:=w1.drew.setCell ⟨k,1,none⟩ (.int .u64 (p':Nat))) (by rfl) (by rfl) (exec_store1 45 _ _ rfl k 1 _ rfl rfl (by kernel_rfl) (by show (World.cell? w1 _).isSome=true;rw [HKP.out.cells.2.1];rfl) (frozen_row (row:=[_,_,_]) HKP.out _) rfl) (.inl ⟨rfl,by kernel_rfl⟩) ?_;(try simp only [Act.put])))
 (refine runL_nil ?_)
 have f2:=HKP3.out.cells.2.2
 rw [←HW3.out]
 go_wp2_with ((at_builtin;refine wpList_append_own_at _ rfl _ _ 71 rfl base 101 j0 (.agg #[.int .i64 0,.int .i64 0]) 2 16 Tryd.underlying71 hie hy0 hy1 hy2 rfl (by decide) _ n _ rfl (HOWN3.out.alloc _) ⟨W3.heap.size,0,none⟩ 1 1 [.int .i64 (-1 - (pl:Nat)),.int .i64 un] rfl (by simp) (World.news_of_block (cs:=#[.int .i64 (-1 - (pl:Nat)),.int .i64 un]) (t:=101) (fr:=(0,0)) (heap_alloc_new W3 _)) (by simp [Value.oneCell']) (by unfold maxLen;omega) (by omega) (by have:=HBZ.out;simp;omega) ?_);intro pP w6 hown6 hg6 _ hwh6;obtain ⟨A6,c6,rfl⟩:=own_form hown6;have HOWN6:=Lh hown6;have HG6:=Lh hg6;have HWH6:=Lh hwh6;clear hown6 hg6 hwh6;have HK6:=Lh ((HKP3.out.next ((Below.refl _ _).alloc (Nat.le_refl _) _)).grown HG6.out (fun e=>HNE.out e.symm));have s2:=HK6.out.cells.2.2;have s3:=frozen_row (row:=[_,_,_]) HK6.out 2)
 go_wp2
 go_ret
 have hkz:=lt_of_block HKP3.out
 have hne6:(Value.slice A6 (n+1) c6).ownBlock≠some k:=fun e=>by
   rcases HWH6.out with h | h
   · exact HNE.out (h▸e)
   · rw [e] at h
     have h2:=Option.some.inj h
     simp at h2
     omega
 refine ⟨rfl,⟨A6,c6,HK6.out.set2 _,?_,hne6⟩,?_⟩
 · rw [spV_append]
   exact row_keep (fun g hg=>Below.heap_setCell _ _ _ _ (fun e=>hne6 (hg.trans (congrArg some e)))) HOWN6.out
 · exact ((HC3.out.alloc _).trans (chg_grown HG6.out fun j hj=>.inr hj)).setCell (.inl (.inl rfl)) _
end Go.Proofs.YtppoiahhaclleaaDoor
namespace Go.Proofs.YtppoiahhaclleaaDoor
open Go.RowKit
set_option maxRecDepth 100000
variable {aB aA kV kW aC aD kX kY lB lC aE aG aH aI aJ aK aL aM aN aO aP aQ aR aS aT aU aV aW aX aY aZ a8 bA bB bC bD bE bF bG bH bI bJ bK bL bM bN bO bP bQ bS bT bU bV bW bX bY bZ cC cD cE cF cG cH cI cJ cK cL cM cN cO cP cQ cR cT cU cV cW cX cY : Value}
theorem EndsAt.chg {P:Nat→Prop} {w w':World} {g:Nat} {E:List Int} (h:EndsAt w g E) (hb:Chg P w w') (h1:¬ P g):EndsAt w' g E:=(hb.block g (lt_of_block h) h1).trans h
theorem OrdAt.chg {P:Nat→Prop} {w w':World} {g:Nat} {E:List Int} {r:List Value} (h:OrdAt w g E r) (hb:Chg P w w') (h1:¬ P g):OrdAt w' g E r:=(hb.block g (lt_of_block h) h1).trans h
theorem EndsAt.set {w:World} {g:Nat} {l:List Int} (h:EndsAt w g l) (k:Nat) (x:Int):EndsAt (w.setCell ⟨g,k,none⟩ (.int .i64 x)) g (l.set k x):=by
 have:=setCell_row h k (.int .i64 x)
 unfold EndsAt
 rw [this]
 unfold intV
 rw [List.map_set]
theorem KeysAt.cell2 {w:World} {gb gs n:Nat} {sp:List (Int×Int)} (h:KeysAt w gb gs n sp) {x:Nat} {s:Int×Int} (hs:sp[x]? = some s):w.cell? ⟨gs,x*2,none⟩=some (.int .i64 s.1)∧w.cell? ⟨gs,x*2+1,none⟩=some (.int .i64 s.2):=h.row.cells hs
set_option maxHeartbeats 4000000 in
theorem build_l2 {g n c gb gs m go kb B:Nat} {sp:List (Int×Int)} {ord:List Int} {rest:List Value} {O:Nat→List Int} {pl:Nat→Int} {St:Nat→World→Prop} (w:World) (Q:Exit→Act→World→Prop) (hk:KeysAt w gb gs m sp) (ho:OrdAt w g ord rest) (he:EndsAt w go (O 0)) (hl:ord.length=n∧n≤1000∧m≤1000) (hmem:∀ x∈ord,0≤x∧x < (m:Int)) (hs:St 0 w)
   (hfree:∀ (k q:Nat) (s:Int×Int),ord[k]? = some (q:Int)→sp[q]? = some s→∀ wr,St k wr→Calls Tryd.prog 37 #[.pointer (some ⟨kb,0,none⟩),.int .i64 s.1] wr fun e w'=>e=.returned (.tuple #[])∧St k w'∧Chg (fun j=>B≤j∧j≠gs∧j≠g∧j≠gb∧j≠go) wr w')
   (htake:∀ (k q:Nat) (s:Int×Int),ord[k]? = some (q:Int)→sp[q]? = some s→∀ wr,St k wr→Calls Tryd.prog 38 #[.pointer (some ⟨kb,0,none⟩),.int .i64 s.2] wr fun e w'=>e=.returned (.int .i64 (pl k))∧St (k+1) w'∧Chg (fun j=>B≤j∧j≠gs∧j≠g∧j≠gb∧j≠go) wr w')
   (hO:∀ k:Nat,(O k).length=m∧∀ q:Nat,ord[k]? = some (q:Int)→O (k+1)=(O k).set q (pl k)) (hg:B≤go∧go≠gs∧go≠g∧go≠gb) (hst:∀ k wr x v,St k wr→St k (wr.setCell ⟨go,x,none⟩ v))
   (k1:∀ (pQ l7 l8 l9 mA mB mC mD mE mF mG mH mI mJ mY iS iT iU iV iW iX iY iZ:Value) (w':World),Chg (fun j=>B≤j∧j≠gs∧j≠g∧j≠gb) w w'∧EndsAt w' go (O n)∧St n w'→Q (.exit 2) ⟨#[aB,aA,kV,kW,aC,aD,kX,kY,.pointer (some ⟨gb,0,none⟩),.slice (some ⟨go,0,none⟩) m m,lB,lC,aE,.pointer (some ⟨kb,0,none⟩),aG,pQ,aI,aJ,aK,aL,aM,aN,aO,aP,aQ,aR,aS,aT,aU,aV,aW,aX,aY,aZ,a8,bA,bB,bC,bD,bE,bF,bG,bH,bI,bJ,bK,bL,bM,bN,bO,bP,bQ,bS,bT,bU,bV,bW,bX,bY,bZ,.slice (some ⟨g,0,none⟩) n c,.int .i64 (n:Nat),l7,l8,l9,mA,mB,mC,mD,mE,mF,mG,mH,mI,mJ,mY,iS,iT,iU,iV,iW,iX,iY,iZ,cY],[]⟩ w'):(partL Tryd.f13 2).wp Tryd.prog Q ⟨#[aB,aA,kV,kW,aC,aD,kX,kY,.pointer (some ⟨gb,0,none⟩),.slice (some ⟨go,0,none⟩) m m,lB,lC,aE,.pointer (some ⟨kb,0,none⟩),aG,aH,aI,aJ,aK,aL,aM,aN,aO,aP,aQ,aR,aS,aT,aU,aV,aW,aX,aY,aZ,a8,bA,bB,bC,bD,bE,bF,bG,bH,bI,bJ,bK,bL,bM,bN,bO,bP,bQ,bS,bT,bU,bV,bW,bX,bY,bZ,.slice (some ⟨g,0,none⟩) n c,.int .i64 (n:Nat),.int .i64 0,cC,cD,cE,cF,cG,cH,cI,cJ,cK,cL,cM,cN,cO,cP,cQ,cR,cT,cU,cV,cW,cX,cY],[]⟩ w:=by
 have hn1:=hl.2.1
 have hm1:=hl.2.2
 have HK:=Lh hk
 have HO:=Lh ho
 have HE:=Lh he
 have HL:=Lh hl
 have HM:=Lh hmem
 have HS:=Lh hs
 have HFR:=Lh hfree
 have HTK:=Lh htake
 have HOO:=Lh hO
 have HG:=Lh hg
 have HST:=Lh hst
 have K1:=Lh k1
 clear hk ho he hl hmem hs hfree htake hO hg hst k1
 conv=>arg 2;whnf
 go_wp2
 go_loopw [62] (fun j wr=>∃ k:Nat,k≤n∧j=.int .i64 k∧Hid (Chg (fun j=>B≤j∧j≠gs∧j≠g∧j≠gb) w wr∧EndsAt wr go (O k)∧St k wr)) (fun j _=>n - (intOf j).toNat)
 case atStart=>exact ⟨0,by omega,rfl,Lh ⟨Chg.refl _ _,HE.out,HS.out⟩⟩
 case round =>
   clear HE HS
   obtain ⟨k,hk,rfl,HJ⟩:=hrel
   by_cases hlt:k < n
   · obtain ⟨x,hx⟩:∃ s,ord[k]? = some s:=⟨_,List.getElem?_eq_getElem (by have:=HL.out.1;omega)⟩
     have mx:=HM.out x (List.mem_of_getElem? hx)
     obtain ⟨q,hq⟩:∃ q:Nat,q=x.toNat:=⟨_,rfl⟩
     obtain rfl:x=(q:Int):=by omega
     obtain ⟨s,hs⟩:∃ s,sp[q]? = some s:=⟨_,List.getElem?_eq_getElem (by have:=HK.out.len;omega)⟩
     have HC:=Lh (And.intro (HFR.out k q s hx hs) (HTK.out k q s hx hs))
     have HKr:=Lh (KeysAt.chg HK.out HJ.out.1 (by have:=HG.out;intro h;exact h.2.2.2 rfl) (by intro h;exact h.2.1 rfl))
     have hc0:=(OrdAt.chg HO.out HJ.out.1 (by intro h;exact h.2.2.1 rfl)).cell hx
     have hb0:=HKr.out.box
     have hb1:=(HKr.out.cell2 hs).1
     have HXS:=Lh (And.intro hx hs)
     have HC1:=Lh (HC.out.1 wr HJ.out.2.2)
     obtain ⟨s0,h0⟩:∃ x,s.1=x:=⟨_,rfl⟩
     obtain ⟨s1,h1⟩:∃ x,s.2=x:=⟨_,rfl⟩
     rw [h0] at HC1 hb1
     have HSS:=Lh (And.intro h0 h1)
     have i0:(0:Int)≤(k:Int):=by omega
     have i1:(k:Int) < (n:Int):=by omega
     have j0:(0:Int)≤(q:Int):=by omega
     have j1:(q:Int) < (m:Int):=by omega
     have HQ:=Lh hq
     clear hx hs mx hq h0 h1
     go_upto_region 21 with ((with_reducible refine (HC1.out).mono ?_);rintro e w1 ⟨rfl,hst1,hch1⟩;have H1:=Lh (And.intro hst1 hch1);clear hst1 hch1)
     clear hc0 hb0 hb1
     have HK1:=Lh (KeysAt.chg HKr.out H1.out.2 (by intro h;exact h.2.2.2.1 rfl) (by intro h;exact h.2.1 rfl))
     have HC2:=HC.out.2 w1 H1.out.1
     rw [HSS.out.2] at HC2
     have HC3:=Lh HC2
     clear HC2
     have hb0:=HK1.out.box
     have hb2:=(HK1.out.cell2 HXS.out.2).2
     rw [HSS.out.2] at hb2
     obtain ⟨pv,hpv⟩:∃ x,pl k=x:=⟨_,rfl⟩
     rw [hpv] at HC3
     have HPV:=Lh hpv
     clear hpv
     go_wp2_with ((with_reducible refine (HC3.out).mono ?_);rintro e w2 ⟨rfl,hst2,hch2⟩;have H2:=Lh (And.intro hst2 hch2);clear hst2 hch2;have HE2:=Lh (EndsAt.chg (EndsAt.chg HJ.out.2.1 H1.out.2 (by intro h;exact h.2.2.2.2 rfl)) H2.out.2 (by intro h;exact h.2.2.2.2 rfl));have hlo:q < (O k).length:=(by rw [(HOO.out k).1];omega);have c9:w2.cell? ⟨go,q,none⟩=some (.int .i64 ((O k)[q])):=HE2.out.cell (List.getElem?_eq_getElem hlo);have f9:=frozen_row HE2.out q)
     go_roundw
     case rel =>
       have hok:=(HOO.out k).2 q HXS.out.1
       refine ⟨k+1,by omega,by go_num,Lh ⟨?_,?_,HST.out _ _ _ _ H2.out.1⟩⟩
       · exact ((HJ.out.1.trans (H1.out.2.mono fun j _ h=>⟨h.1,h.2.1,h.2.2.1,h.2.2.2.1⟩)).trans (H2.out.2.mono fun j _ h=>⟨h.1,h.2.1,h.2.2.1,h.2.2.2.1⟩)).setCell (.inl HG.out) _
       · rw [hok,HPV.out]
         exact HE2.out.set q pv
     case measure=>simp [intOf];omega
   · have hkn:k=n:=by omega
     subst hkn
     go_wp2
     exact K1.out _ _ _ _ _ _ _ _ _ _ _ _ _ _ _ _ _ _ _ _ _ _ _ _ ⟨HJ.out.1,HJ.out.2.1,HJ.out.2.2⟩
end Go.Proofs.YtppoiahhaclleaaDoor
namespace Go.Proofs.YtppoiahhaclleaaDoor
open Go.RowKit
set_option maxRecDepth 100000
variable {aB aA kV kW aC aD kX kY kZ lA lC aE aF aG aH aI aJ aK aL aM aN aO aP aQ aR aS aT aU aV aW aX aY aZ a8 bA bB bC bG bH bI bJ bK bL bM bN bO bP bQ bS bT bU bV bW bX bY bZ b4 b6 cA cC cD cE cF cG cH cI cJ cK cL cM cN cO cP cQ cR cT cU cV cW cX cY : Value}
def ordTo (sp:List (Int×Int)) (k:Nat):List Int:=((List.range k).filter fun r=>decide (0≤(sp.getD r (-1,-1)).1)).map fun r:Nat=>(r:Int)
theorem ord_yes {sp:List (Int×Int)} {k:Nat} {s:Int×Int} (h:sp[k]? = some s) (h0:0≤s.1):ordTo sp (k+1)=ordTo sp k++[(k:Int)]:=by
 unfold ordTo
 rw [List.range_succ,List.filter_append,List.map_append]
 congr 1
 simp [List.getD_eq_getElem?_getD,h,h0]
theorem ord_no {sp:List (Int×Int)} {k:Nat} {s:Int×Int} (h:sp[k]? = some s) (h0:¬ 0≤s.1):ordTo sp (k+1)=ordTo sp k:=by
 unfold ordTo
 rw [List.range_succ,List.filter_append,List.map_append]
 have:([k].filter fun r=>decide (0≤(sp.getD r (-1,-1)).1))=[]:=by simp [List.getD_eq_getElem?_getD,h];omega
 rw [this];simp
theorem ord_len (sp:List (Int×Int)) (k:Nat):(ordTo sp k).length≤k:=by
 unfold ordTo
 rw [List.length_map]
 exact Nat.le_trans (List.length_filter_le _ _) (by simp)
theorem ord_mem {sp:List (Int×Int)} {k:Nat}:∀ x∈ordTo sp k,0≤x∧x < (k:Int):=by
 intro x hx
 unfold ordTo at hx
 obtain ⟨r,hr,rfl⟩:=List.mem_map.1 hx
 have:=List.mem_range.1 (List.mem_filter.1 hr).1
 exact ⟨by omega,by omega⟩
theorem own_ord {w:World} {base g n c:Nat} {l:List Int} (h:w.ownsRow base 3 1 (.slice (some ⟨g,0,none⟩) n c) n (intV l)):∃ rest,OrdAt w g l rest∧base≤g:=by
 rcases h.2 with ⟨h1,_⟩ | ⟨g',cap,cur,hv,hg,hh,hnc,hcm,hcs,htk⟩
 · cases h1
 · cases hv
   refine ⟨cur.toList.drop (n*1),?_,hg⟩
   unfold OrdAt
   rw [hh,←htk,List.take_append_drop]
theorem own_some {w:World} {base e sz n:Nat} {v:Value} {xs:List Value} (h:w.ownsRow base e sz v n xs) (hv:v.ownBlock≠none):∃ g c,v=.slice (some ⟨g,0,none⟩) n c:=by
 rcases h.2 with ⟨rfl,_⟩ | ⟨g',cap,cur,hv,hg,hh,hnc,hcm,hcs,htk⟩
 · exact absurd rfl hv
 · exact ⟨g',cap,hv⟩
set_option maxHeartbeats 4000000 in
theorem build_l0 {gs n base g0 c0:Nat} {sp:List (Int×Int)} (w:World) (Q:Exit→Act→World→Prop) (hsp:SpansAt w gs sp) (hn:sp.length=n∧n≤1000) (hb:gs < base∧base≤w.heap.size) (hown:w.ownsRow base 3 1 (.slice (some ⟨g0,0,none⟩) 0 c0) 0 (intV (ordTo sp 0)))
   (k1:∀ (g c:Nat),∀ (mO mP lG lH lI lJ lK lL lM lN lO lP lQ lR:Value) (w':World),Below base w w'→w'.ownsRow base 3 1 (.slice (some ⟨g,0,none⟩) (ordTo sp n).length c) (ordTo sp n).length (intV (ordTo sp n)) →Q (.exit 0) ⟨#[aB,aA,kV,kW,aC,aD,kX,kY,kZ,lA,.slice (some ⟨g,0,none⟩) (ordTo sp n).length c,mO,mP,aF,aG,aH,aI,aJ,aK,aL,aM,aN,aO,aP,aQ,aR,aS,aT,aU,aV,aW,aX,aY,aZ,a8,bA,bB,bC,.slice (some ⟨gs,0,none⟩) n n,.int .i64 (n:Nat),lG,lH,lI,lJ,lK,lL,lM,lN,lO,lP,lQ,lR,bS,bT,bU,bV,bW,bX,bY,bZ,b4,b6,cA,cC,cD,cE,cF,cG,cH,cI,cJ,cK,cL,cM,cN,cO,cP,cQ,cR,cT,cU,cV,cW,cX,cY],[]⟩ w'):(partL Tryd.f13 0).wp Tryd.prog Q ⟨#[aB,aA,kV,kW,aC,aD,kX,kY,kZ,lA,.slice (some ⟨g0,0,none⟩) 0 c0,lC,aE,aF,aG,aH,aI,aJ,aK,aL,aM,aN,aO,aP,aQ,aR,aS,aT,aU,aV,aW,aX,aY,aZ,a8,bA,bB,bC,.slice (some ⟨gs,0,none⟩) n n,.int .i64 (n:Nat),.int .i64 0,bG,bH,bI,bJ,bK,bL,bM,bN,bO,bP,bQ,bS,bT,bU,bV,bW,bX,bY,bZ,b4,b6,cA,cC,cD,cE,cF,cG,cH,cI,cJ,cK,cL,cM,cN,cO,cP,cQ,cR,cT,cU,cV,cW,cX,cY],[]⟩ w:=by
 have hn1:=hn.2
 have HSP:=Lh hsp
 have HN:=Lh hn
 have HB:=Lh hb
 have K1:=Lh k1
 have HOW:=Lh hown
 clear hsp hn hb hown k1
 obtain ⟨j0,hie,hy0,hy1,hy2⟩:=info_parts infoI
 conv=>arg 2;whnf
 go_wp2
 go_loopw [10,40] (fun v j wr=>∃ (k g c ln:Nat),k≤n∧j=.int .i64 k∧v=.slice (some ⟨g,0,none⟩) ln c∧Hid (ln=(ordTo sp k).length∧Below base w wr∧wr.ownsRow base 3 1 (.slice (some ⟨g,0,none⟩) ln c) ln (intV (ordTo sp k)))) (fun _ j _=>n - (intOf j).toNat)
 case atStart=>exact ⟨0,g0,c0,0,by omega,rfl,rfl,Lh ⟨rfl,Below.refl _ _,HOW.out⟩⟩
 case round =>
   clear HOW
   obtain ⟨k,g,c,ln,hk,rfl,rfl,HJ⟩:=hrel
   by_cases hlt:k < n
   · obtain ⟨s,hs⟩:∃ s,sp[k]? = some s:=⟨_,List.getElem?_eq_getElem (by have:=HN.out.1;omega)⟩
     have HSr:=Lh (show SpansAt wr gs sp from (HJ.out.2.1.block gs HB.out.1).trans HSP.out)
     have hc:=HSr.out.cells hs
     obtain ⟨W5,hW5⟩:∃ q,q=wr.alloc (.cells #[.int .i64 s.1,.int .i64 s.2] 68):=⟨_,rfl⟩
     have hb5:Below wr.heap.size wr W5:=by rw [hW5];exact (Below.refl _ _).alloc (Nat.le_refl _) _
     have h5:W5.heap[wr.heap.size]? = some (.cells #[.int .i64 s.1,.int .i64 s.2] 68 (0,0)):=by rw [hW5];exact heap_alloc_new wr _
     have z0:W5.cell? ⟨wr.heap.size,0,none⟩=some (.int .i64 s.1):=by simp only [World.cell?,h5];rfl
     have z1:W5.cell? ⟨wr.heap.size,1,none⟩=some (.int .i64 s.2):=by simp only [World.cell?,h5];rfl
     have HB5:=Lh hb5
     have HW5:=Lh hW5
     have hlv:=live_any s W5
     obtain ⟨s0,h0⟩:∃ x,s.1=x:=⟨_,rfl⟩
     obtain ⟨s1,h1⟩:∃ x,s.2=x:=⟨_,rfl⟩
     rw [h0,h1] at hc hlv HW5
     rw [h0] at z0
     rw [h1] at z1
     have HLV:=Lh hlv
     have HS:=Lh (And.intro hs (And.intro h0 h1))
     have hc0:=hc.1
     have hc1:=hc.2
     have hln:ln≤1000:=by have:=ord_len sp k;have:=HJ.out.1;have:=HN.out.2;omega
     have hwr:base≤wr.heap.size:=Nat.le_trans HB.out.2 (HJ.out.2.1.size)
     have i0:(0:Int)≤(k:Int):=by omega
     have i1:(k:Int) < (n:Int):=by omega
     clear hs h0 h1 hc hW5 hb5 h5 hlv
     go_upto_region 12 with fail
     rw [←HW5.out]
     clear hc0 hc1
     cases d0:decide (0≤s0)
     · rw [d0] at HLV
       have HD:=Lh d0
       clear d0
       go_wp2_with ((with_reducible refine (HLV.out).mono ?_);rintro e w1 ⟨rfl,hb1⟩;have HB1:=Lh (HB5.out.trans (hb1.mono HB5.out.size));clear hb1)
       go_roundw
       case rel =>
         have ho:ordTo sp (k+1)=ordTo sp k:=ord_no HS.out.1 (by rw [HS.out.2.1];exact of_decide_eq_false HD.out)
         exact ⟨k+1,g,c,ln,by omega,by go_num,rfl,Lh ⟨by rw [ho];exact HJ.out.1,HJ.out.2.1.trans (HB1.out.mono hwr),by rw [ho];exact row_keep (fun q hq=>HB1.out.block q (own_lt HJ.out.2.2 q hq).1) HJ.out.2.2⟩⟩
       case measure=>simp [intOf];omega
     · rw [d0] at HLV
       have HD:=Lh d0
       clear d0
       go_upto_region 13 with ((with_reducible refine (HLV.out).mono ?_);rintro e w1 ⟨rfl,hb1⟩;have HB1:=Lh (HB5.out.trans (hb1.mono HB5.out.size));have HO1:=Lh (show w1.ownsRow base 3 1 (.slice (some ⟨g,0,none⟩) ln c) ln (intV (ordTo sp k)) from row_keep (fun q hq=>HB1.out.block q (own_lt HJ.out.2.2 q hq).1) HJ.out.2.2);clear hb1)
       have hw1:base≤w1.heap.size:=Nat.le_trans hwr HB1.out.size
       clear z0 z1
       go_wp2_with ((at_builtin;refine wpList_append_own_at _ rfl _ _ 35 rfl base 3 j0 (.int .i64 0) 1 8 Tryd.underlying35 hie hy0 hy1 hy2 rfl (by decide) _ ln _ rfl (HO1.out.alloc _) ⟨w1.heap.size,0,none⟩ 1 1 [.int .i64 (k:Nat)] rfl (by simp) (World.news_of_block (cs:=#[.int .i64 (k:Nat)]) (t:=3) (fr:=(0,0)) (heap_alloc_new w1 _)) (by simp [Value.oneCell']) (by unfold maxLen;omega) (by omega) (by simp;omega) ?_);intro pP w6 hown6 hg6 _ hwh6;obtain ⟨g6,c6,rfl⟩:=own_some hown6 (by rcases hwh6 with h | h <;> rw [h] <;> first | exact Option.some_ne_none g | exact Option.some_ne_none _);have HOWN6:=Lh hown6;have HG6:=Lh hg6;have HWH6:=Lh hwh6;clear hown6 hg6 hwh6)
       go_roundw
       case rel =>
         have ho:ordTo sp (k+1)=ordTo sp k++[(k:Int)]:=ord_yes HS.out.1 (by rw [HS.out.2.1];exact of_decide_eq_true HD.out)
         have hb6:Below base w1 (w1.alloc (.cells #[.int .i64 (k:Nat)] 3)):=(Below.refl _ _).alloc hw1 _
         refine ⟨k+1,g6,c6,ln+1,by omega,by go_num,rfl,Lh ⟨by rw [ho,List.length_append,←HJ.out.1];rfl,?_,?_⟩⟩
         · exact (HJ.out.2.1.trans ((HB1.out.mono hwr).trans hb6)).grown HG6.out (Nat.le_trans hw1 hb6.size) (fun q hq=>(own_lt HO1.out q hq).2)
         · rw [ho]
           have:=HOWN6.out
           unfold intV at this ⊢
           rw [List.map_append]
           exact this
       case measure=>simp [intOf];omega
   · have hkn:k=n:=by omega
     subst hkn
     have HL:=HJ.out.1
     subst HL
     go_wp2
     exact K1.out g c _ _ _ _ _ _ _ _ _ _ _ _ _ _ _ HJ.out.2.1 HJ.out.2.2
end Go.Proofs.YtppoiahhaclleaaDoor
namespace Go.Proofs.YtppoiahhaclleaaDoor
open Go.RowKit
set_option maxRecDepth 100000
variable {aB kV kW aC aD kX kY kZ lA lB lC aE aF aG aH aI aJ aK aL aM aN aO aP aQ aR aS aT aU aV aW aX aY aZ a8 bA bB bC bD bE bF bG bH bI bJ bK bL bM bN bO bP bQ bS bT bU bV bW bX bY bZ b4 b6 cA cC cD cE cF cG cH cI cJ cK cL cM cN cO cP cQ cR cT cU cV cW cX cY : Value}
def OF (ord:List Int) (pl:Nat→Int) (m:Nat):Nat→List Int
 | 0=>List.replicate m 0
 | k+1=>(OF ord pl m k).set (ord.getD k 0).toNat (pl k)
theorem OF_len {ord:List Int} {pl:Nat→Int} {m k:Nat}:(OF ord pl m k).length=m:=by
 induction k with
 | zero=>simp [OF]
 | succ k ih=>simp [OF,ih]
def Keeps (sp:List (Int×Int)) (ord:List Int) (pool:Nat) (pl:Nat→Int):Prop :=
 ∀ (w:World) (kb gs g gb go B:Nat),KeepAt w kb (2 ^ pool - 1) 18446744073709551615 (.slice none 0 0)→TzAt w→0 < B→B≤w.heap.size→B≤kb→(kb≠gs∧kb≠g∧kb≠gb∧kb≠go)→(gs < w.heap.size∧g < w.heap.size∧gb < w.heap.size∧go < w.heap.size∧B≤go) →
   ∃ St:Nat→World→Prop,St 0 w ∧
   (∀ (k q:Nat) (s:Int×Int),ord[k]? = some (q:Int)→sp[q]? = some s→∀ wr,St k wr→Calls Tryd.prog 37 #[.pointer (some ⟨kb,0,none⟩),.int .i64 s.1] wr fun e w'=>e=.returned (.tuple #[])∧St k w'∧Chg (fun j=>B≤j∧j≠gs∧j≠g∧j≠gb∧j≠go) wr w') ∧
   (∀ (k q:Nat) (s:Int×Int),ord[k]? = some (q:Int)→sp[q]? = some s→∀ wr,St k wr→Calls Tryd.prog 38 #[.pointer (some ⟨kb,0,none⟩),.int .i64 s.2] wr fun e w'=>e=.returned (.int .i64 (pl k))∧St (k+1) w'∧Chg (fun j=>B≤j∧j≠gs∧j≠g∧j≠gb∧j≠go) wr w') ∧
   (∀ k wr x v,St k wr→St k (wr.setCell ⟨go,x,none⟩ v))
theorem make_none (n:Nat) (hn:n≤65536) (w:World):(Instr.makeSlice 35 (.int .i64 0) (.int .i64 n)).run Tryd.prog w=.ok (.slice (some ⟨w.heap.size,0,none⟩) 0 n) (w.alloc (.cells (intV (List.replicate n 0)).toArray 3)):=by
 obtain ⟨i0,hi,hz0,hz1,hz2⟩:=info_parts infoI
 have h:=run_make (P:=Tryd.prog) w 35 3 i0 (.int .i64 0) Tryd.underlying35 hi hz0 .i64 .i64 (0:Nat) n (by omega) (by omega) (by rw [hz2];omega) (by omega)
 rw [hz1] at h
 have e:(Value.int .i64 0).cells=#[.int .i64 0]:=rfl
 have e2:madeCells #[.int .i64 0] n=(intV (List.replicate n 0)).toArray:=by
   refine Array.ext (by simp [size_madeCells,intV]) fun i h1 h2=>?_
   simp [madeCells,Nat.mod_one,intV]
 rw [e] at h
 simp only [Int.toNat_natCast,Nat.mul_one,e2] at h
 exact h
set_option maxHeartbeats 4000000 in
theorem build_r16 {pool:Nat} (w:World) (Q:Exit→Act→World→Prop) (hp:pool≤16)
   (k:∀ (lV lW lX lY lZ:Value) (w':World),w'=w.alloc (.cells #[.int .u64 ((2 ^ pool - 1:Nat):Int),.int .u64 18446744073709551615,.slice none 0 0] 73)→Q .normal ⟨#[aB,.int .i64 (pool:Nat),kV,kW,aC,aD,kX,kY,kZ,lA,lB,lC,aE,.pointer (some ⟨w.heap.size,0,none⟩),aG,aH,aI,aJ,aK,aL,aM,aN,aO,aP,aQ,aR,aS,aT,aU,aV,aW,aX,aY,aZ,a8,bA,bB,bC,bD,bE,bF,bG,bH,bI,bJ,bK,bL,bM,bN,bO,bP,bQ,bS,bT,bU,lV,lW,lX,lY,lZ,b4,b6,cA,cC,cD,cE,cF,cG,cH,cI,cJ,cK,cL,cM,cN,cO,cP,cQ,cR,cT,cU,cV,cW,cX,cY],[]⟩ w'):(partR Tryd.f13 16).wp Tryd.prog Q ⟨#[aB,.int .i64 (pool:Nat),kV,kW,aC,aD,kX,kY,kZ,lA,lB,lC,aE,aF,aG,aH,aI,aJ,aK,aL,aM,aN,aO,aP,aQ,aR,aS,aT,aU,aV,aW,aX,aY,aZ,a8,bA,bB,bC,bD,bE,bF,bG,bH,bI,bJ,bK,bL,bM,bN,bO,bP,bQ,bS,bT,bU,bV,bW,bX,bY,bZ,b4,b6,cA,cC,cD,cE,cF,cG,cH,cI,cJ,cK,cL,cM,cN,cO,cP,cQ,cR,cT,cU,cV,cW,cX,cY],[]⟩ w:=by
 obtain rfl | rfl | rfl | rfl | rfl | rfl | rfl | rfl | rfl | rfl | rfl | rfl | rfl | rfl | rfl | rfl | rfl:pool=0∨pool=1∨pool=2∨pool=3∨pool=4∨pool=5∨pool=6∨pool=7∨pool=8∨pool=9∨pool=10∨pool=11∨pool=12∨pool=13∨pool=14∨pool=15∨pool=16:=by omega
 all_goals
   have HK:=Lh k
   clear k
   conv=>arg 2;whnf
   go_wp2
   exact HK.out _ _ _ _ _ _ rfl
end Go.Proofs.YtppoiahhaclleaaDoor
namespace Go.Proofs.YtppoiahhaclleaaDoor
open Go.RowKit
set_option maxRecDepth 100000
theorem own_none (w:World) (g n:Nat) (xs:List Value) (hx:xs.length=n) (hn:n≤65536) (h:w.heap[g]? = some (.cells xs.toArray 3 (0,0))):w.ownsRow g 3 1 (.slice (some ⟨g,0,none⟩) 0 n) 0 [] :=
 ⟨rfl,.inr ⟨g,n,xs.toArray,rfl,Nat.le_refl _,h,Nat.zero_le _,by unfold maxLen;omega,by simp [hx],rfl⟩⟩
set_option maxHeartbeats 8000000 in
theorem Build_any (p:LP) (Ab Ao:Option Addr) (nb cb no co n pool:Nat) (pl:Nat→Int) (w:World) (hp:ProgAt w (fun k=>k < w.heap.size) [.int .i64 p.regs,.slice Ab nb cb,.slice Ao no co] p) (h0:(checkF p 64).2=0) (hn:p.regs=n) (hpl:pool≤16)
   (hT:TzAt w) (hlen:(ordTo (spansF p) n).length < 20)
   (hkeep:Keeps (spansF p) (insF (keyF (spansF p)) 0 ((ordTo (spansF p) n).length - 1) 1 (ordTo (spansF p) n)) pool pl) :
   Calls Tryd.prog 13 #[.agg #[.int .i64 p.regs,.slice Ab nb cb,.slice Ao no co],.int .i64 (pool:Nat)] w fun e w'=>∃ go,e=.returned (.tuple #[.slice (some ⟨go,0,none⟩) n n,.int .i64 0])∧w.heap.size≤go ∧
     EndsAt w' go (OF (insF (keyF (spansF p)) 0 ((ordTo (spansF p) n).length - 1) 1 (ordTo (spansF p) n)) pl n (ordTo (spansF p) n).length)∧Below w.heap.size w w':=by
 obtain ⟨W,hW,hbW,hzW,hl_,hr_⟩:=boxed w #[.int .i64 p.regs,.slice Ab nb cb,.slice Ao no co] 25
 have c0:W.cell? ⟨w.heap.size,0,none⟩=some (.int .i64 p.regs):=by rw [hl_];rfl
 have c1:W.cell? ⟨w.heap.size,1,none⟩=some (.slice Ab nb cb):=by rw [hl_];rfl
 have c2:W.cell? ⟨w.heap.size,2,none⟩=some (.slice Ao no co):=by rw [hl_];rfl
 have hp1:=prog_next hp hbW
 have HC:=Lh (check_any p Ab Ao nb cb no co W hp1)
 have HSP:=Lh (fun wr (hb:Below W.heap.size W wr)=>spans_any p Ab Ao nb cb no co n wr (prog_next hp1 hb) h0 hn)
 have HW:=Lh hW
 have HB:=Lh hbW
 have hn64:n≤64:=by have:=(head_ok (check_run h0).1);omega
 have HLEN:=Lh (show (spansF p).length=n by rw [spans_len,hn];rfl)
 have HKEEP:=Lh hkeep
 have HT:=Lh hT
 have HW0:=Lh (show 0 < w.heap.size from by
   have:=hT 0 (by decide)
   have:=lt_cell this
   exact this)
 have HRG:=Lh hn
 obtain ⟨sp,hsp⟩:∃ sp,spansF p=sp:=⟨_,rfl⟩
 rw [hsp] at HSP HLEN HKEEP hlen ⊢
 obtain ⟨x,hx⟩:∃ x,(checkF p 64).1=x:=⟨_,rfl⟩
 rw [hx,h0] at HC
 rw [hn] at c0 HC
 simp only [hn] at HSP
 have d1:decide ((pool:Int) < 0)=false:=decide_eq_false (by omega)
 have d2:decide ((16:Int) < (pool:Int))=false:=decide_eq_false (by omega)
 have d3:¬ 16 < pool:=by omega
 have hlt:w.heap.size < W.heap.size:=by omega
 have HLT:=Lh hlt
 clear hW hbW hzW hl_ hr_ hp hp1 hx h0 hn hkeep hT hlt hsp
 go_enter Tryd.func13,Tryd.ntmps13
 go_upto_region 1 with fail
 rw [←HW.out]
 go_upto_region 6 with ((with_reducible refine (HC.out).mono ?_);rintro e w1 ⟨rfl,hb1⟩;have HB1:=Lh hb1;clear hb1)
 have HSP1:=Lh (HSP.out w1 HB1.out)
 have e0:=(HB1.out.cell (p:=⟨w.heap.size,0,none⟩) HLT.out).trans c0
 have e1:=(HB1.out.cell (p:=⟨w.heap.size,1,none⟩) HLT.out).trans c1
 have e2:=(HB1.out.cell (p:=⟨w.heap.size,2,none⟩) HLT.out).trans c2
 have HE0:=Lh e0
 clear c0 c1 c2
 go_upto_region 7 with ((with_reducible refine (HSP1.out).mono ?_);rintro e w2 ⟨gs,rfl,hgs,hsp,hb2⟩;have HS2:=Lh (And.intro hgs (And.intro hsp hb2));clear hgs hsp hb2 e0 e1 e2)
 obtain ⟨gb,hgb⟩:∃ q,w2.heap.size=q:=⟨_,rfl⟩
 obtain ⟨W3,hW3⟩:∃ q,q=w2.alloc (.cells #[.slice (some ⟨gs,0,none⟩) n n] 66):=⟨_,rfl⟩
 rw [←hW3,hgb]
 have hb3:Below w2.heap.size w2 W3:=by rw [hW3];exact (Below.refl _ _).alloc (Nat.le_refl _) _
 have hz3:W3.heap.size=gb+1:=by rw [hW3,←hgb];simp
 have h3:W3.heap[gb]? = some (.cells #[.slice (some ⟨gs,0,none⟩) n n] 66 (0,0)):=by rw [hW3,←hgb];exact heap_alloc_new w2 _
 have HK3:=Lh (show KeysAt W3 gb gs n sp from ⟨by simp only [World.cell?,h3];rfl,HS2.out.2.1.next hb3,HLEN.out⟩)
 have HGS:=Lh (show w1.heap.size≤gs∧gs < gb from ⟨HS2.out.1,by have:=lt_of_block HS2.out.2.1;omega⟩)
 have HBW3:=Lh (show Below w.heap.size w W3 from HB.out.trans ((HB1.out.trans ((HS2.out.2.2.trans (hb3.mono HS2.out.2.2.size)).mono HB1.out.size)).mono HB.out.size))
 have HW1:=Lh (show w.heap.size < w1.heap.size from Nat.lt_of_lt_of_le HLT.out HB1.out.size)
 have e3:W3.cell? ⟨w.heap.size,0,none⟩=some (.int .i64 n):=by
   rw [((HS2.out.2.2.trans (hb3.mono HS2.out.2.2.size)).cell (p:=⟨w.heap.size,0,none⟩) HW1.out)]
   exact HE0.out
 obtain ⟨go,hgo⟩:∃ q,W3.heap.size=q:=⟨_,rfl⟩
 have hmk:=make_ints n (by omega) W3
 obtain ⟨W4,hW4⟩:∃ q,q=W3.alloc (.cells (intV (List.replicate n 0)).toArray 3):=⟨_,rfl⟩
 have hb4:Below W3.heap.size W3 W4:=by rw [hW4];exact (Below.refl _ _).alloc (Nat.le_refl _) _
 have h4:W4.heap[go]? = some (.cells (intV (List.replicate n 0)).toArray 3 (0,0)):=by rw [hW4,←hgo];exact heap_alloc_new W3 _
 have hz4:W4.heap.size=go+1:=by rw [hW4,←hgo];simp
 rw [←hW4,hgo] at hmk
 have e4:W4.cell? ⟨w.heap.size,0,none⟩=some (.int .i64 n):=(hb4.cell (p:=⟨w.heap.size,0,none⟩) (by have:=HGS.out;have:=HW1.out;simp only [];omega)).trans e3
 obtain ⟨g0,hg0⟩:∃ q,W4.heap.size=q:=⟨_,rfl⟩
 have hmk2:=make_none n (by omega) W4
 obtain ⟨W5,hW5⟩:∃ q,q=W4.alloc (.cells (intV (List.replicate n 0)).toArray 3):=⟨_,rfl⟩
 have hb5:Below W4.heap.size W4 W5:=by rw [hW5];exact (Below.refl _ _).alloc (Nat.le_refl _) _
 have h5:W5.heap[g0]? = some (.cells (intV (List.replicate n 0)).toArray 3 (0,0)):=by rw [hW5,←hg0];exact heap_alloc_new W4 _
 have hz5:W5.heap.size=g0+1:=by rw [hW5,←hg0];simp
 rw [←hW5,hg0] at hmk2
 have HZ:=Lh (show gb+1=go∧go+1=g0∧W5.heap.size=g0+1∧W3.heap.size=go∧W4.heap.size=g0 from ⟨by omega,by omega,hz5,hgo,hg0⟩)
 have HK5:=Lh (show KeysAt W5 gb gs n sp from (HK3.out.next hb4).next hb5)
 have HEO:=Lh (show EndsAt W5 go (List.replicate n 0) from (hb5.block go (lt_of_block h4)).trans h4)
 have HOWN:=Lh (own_none W5 g0 n (intV (List.replicate n 0)) (by simp [intV]) (by omega) h5)
 have HBW5:=Lh (show Below w.heap.size w W5 from HBW3.out.trans ((hb4.trans (hb5.mono hb4.size)).mono HBW3.out.size))
 have b5:=HK5.out.box
 clear hW3 hb3 hz3 h3 hb4 h4 hz4 hW4 hb5 h5 hz5 hW5 hg0 hgo hgb
 go_upto_region 8 with fail
 clear hmk e3
 go_upto_region 9 with fail
 clear hmk2 e4
 go_wp2
 refine wp_code (c:=partL Tryd.f13 0) (by kernel_rfl) ?_
 refine build_l0 (gs:=gs) (base:=g0) (sp:=sp) _ _ HK5.out.row ⟨HLEN.out,by omega⟩ ⟨by have:=HGS.out;have:=HZ.out;omega,by have:=HZ.out;omega⟩ HOWN.out ?_
 intro g c mO mP lG lH lI lJ lK lL lM lN lO lP lQ lR w6 hb6 hown6
 clear b5
 obtain ⟨rest,hor,hgg⟩:=own_ord hown6
 have HGG:=Lh hgg
 have HOR:=Lh hor
 have HB6:=Lh hb6
 have HK6:=Lh (show KeysAt w6 gb gs n sp from KeysAt.chg HK5.out (F:=fun j=>g0≤j) ⟨hb6.os,hb6.tape,hb6.output,hb6.size,fun j _ hj=>hb6.block j (Nat.lt_of_not_le hj)⟩ (show ¬ g0≤gb by have:=HGS.out;have:=HZ.out;omega) (show ¬ g0≤gs by have:=HGS.out;have:=HZ.out;omega))
 obtain ⟨ln,hln⟩:∃ q,(ordTo sp n).length=q:=⟨_,rfl⟩
 rw [hln] at hlen HKEEP ⊢
 have hln1:ln≤1000:=by omega
 have HSO:=Lh (SortStable_any (n:=ln) (c:=c) (l:=ordTo sp n) w6 HOR.out hln HK6.out (by omega) (by omega) (fun x hx=>ord_mem x hx) ⟨by have:=HGS.out;have:=HZ.out;omega,by have:=HGS.out;have:=HZ.out;omega⟩ hlen)
 obtain ⟨ord,hord⟩:∃ q,insF (keyF sp) 0 (ln - 1) 1 (ordTo sp n)=q:=⟨_,rfl⟩
 have hol:ord.length=ln:=by rw [←hord,insF_len,hln]
 have hpm:ord.Perm (ordTo sp n):=by
   rw [←hord]
   rcases Nat.eq_zero_or_pos ln with h | h
   · rw [h];exact List.Perm.refl _
   · exact insF_perm (by rw [hln];omega)
 have hom:∀ x∈ord,0≤x∧x < (n:Int):=fun x hx=>ord_mem x (hpm.mem_iff.1 hx)
 rw [hord] at HSO HKEEP
 have HORD:=Lh hord
 have HLN:=Lh hln
 have HOL:=Lh (And.intro hol hom)
 clear hb6 hown6 hor hgg hln hord hol hom hpm
 go_upto_region 16 with ((with_reducible refine (HSO.out).mono ?_);rintro e w7 ⟨rfl,h1,h2⟩;have H7:=Lh (And.intro h1 h2);clear h1 h2)
 refine wp_code (c:=partR Tryd.f13 16) (by kernel_rfl) ?_
 refine build_r16 (pool:=pool) _ _ hpl ?_
 intro lV lW lX lY lZ w8 hw8
 have h7g:g < w7.heap.size:=lt_of_block H7.out.1
 have hb8:Below w7.heap.size w7 w8:=by rw [hw8];exact (Below.refl _ _).alloc (Nat.le_refl _) _
 have hk8:KeepAt w8 w7.heap.size (2 ^ pool - 1) 18446744073709551615 (.slice none 0 0):=by rw [hw8];exact heap_alloc_new w7 _
 obtain ⟨kb,hkb⟩:∃ q,w7.heap.size=q:=⟨_,rfl⟩
 have hz8:w8.heap.size=kb+1:=by rw [hw8,←hkb];simp
 have hsz:W5.heap.size≤w6.heap.size∧w6.heap.size≤w7.heap.size:=⟨HB6.out.size,H7.out.2.size⟩
 have hall:w.heap.size < w1.heap.size∧w1.heap.size≤gs∧gs < gb∧gb < go∧go < g0∧g0≤g∧g < kb∧g0 < kb:=by
   have:=HZ.out;have:=HGS.out;have:=HGG.out;have:=HW1.out
   omega
 have HALL:=Lh hall
 have HBW7:=Lh (show Below w.heap.size w w7 from (HBW5.out.trans (HB6.out.mono (by omega))).trans (H7.out.2.below (B:=w.heap.size) (fun j hj (e:j=g)=>by omega) (Nat.le_trans HBW5.out.size hsz.1)))
 have HBW8:=Lh (show Below w.heap.size w w8 from HBW7.out.trans (hb8.mono HBW7.out.size))
 have HK8:=Lh (show KeysAt w8 gb gs n sp from (KeysAt.chg HK6.out H7.out.2 (by omega) (by omega)).next hb8)
 have HO8:=Lh (show OrdAt w8 g ord rest from H7.out.1.next hb8)
 have HE8:=Lh (show EndsAt w8 go (List.replicate n 0) from by
   have h6:EndsAt w6 go (List.replicate n 0):=(HB6.out.block go (by omega)).trans HEO.out
   exact (hb8.block go (by omega)).trans (EndsAt.chg h6 H7.out.2 (by omega)))
 rw [hkb] at hk8 ⊢
 obtain ⟨St,hs0,hfr,htk,hst⟩:=HKEEP.out w8 kb gs g gb go w.heap.size hk8 (HT.out.next HBW8.out HW0.out) HW0.out HBW8.out.size (by omega) ⟨by omega,by omega,by omega,by omega⟩ ⟨by omega,by omega,by omega,by omega,by omega⟩
 have HST:=Lh (And.intro hs0 (And.intro hfr (And.intro htk hst)))
 clear hs0 hfr htk hst hall hsz hz8 hkb hk8 hb8 hw8 h7g
 go_wp2
 refine wp_code (c:=partL Tryd.f13 2) (by kernel_rfl) ?_
 refine build_l2 (gs:=gs) (m:=n) (B:=w.heap.size) (sp:=sp) (ord:=ord) (rest:=rest) (O:=OF ord pl n) (pl:=pl) (St:=St) _ _ HK8.out HO8.out HE8.out ⟨HOL.out.1,hln1,by omega⟩ HOL.out.2 HST.out.1 HST.out.2.1 HST.out.2.2.1 (fun k=>⟨OF_len,fun q hq=>by rw [OF,List.getD_eq_getElem?_getD,hq];rfl⟩) ⟨by have:=HALL.out;omega,by have:=HALL.out;omega,by have:=HALL.out;omega,by have:=HALL.out;omega⟩ HST.out.2.2.2 ?_
 intro pQ l7 l8 l9 mA mB mC mD mE mF mG mH mI mJ mY iS iT iU iV iW iX iY iZ w9 h9
 have H9:=Lh h9
 clear h9
 go_wp2
 go_ret2
 refine ⟨go,rfl,by have:=HALL.out;omega,by rw [HLN.out,HORD.out];exact H9.out.2.1,HBW8.out.trans (H9.out.1.below (B:=w.heap.size) (fun j hj e=>by have:=e.1;omega) HBW8.out.size)⟩
end Go.Proofs.YtppoiahhaclleaaDoor
namespace Go.Proofs.YtppoiahhaclleaaDoor
open Go.Shelf
def Tryd.sortS_ren:Go.Shelf.Ren:=⟨fun | 6=>55 | 15=>75 | 14=>74 | 28=>94 | 29=>95 | 20=>86 | 21=>87 | 22=>88 | 23=>89 | 24=>90 | 25=>91 | 26=>92 | 27=>93 | 46=>99 | 47=>100 | 48=>101 | 49=>102 | 50=>103 | 57=>104 | n=>n,fun | 22=>71 | 24=>101 | 25=>102 | 3=>3 | 39=>114 | 0=>0 | 53=>128 | 55=>45 | 4=>4 | 46=>134 | 45=>133 | 50=>44 | 5=>5 | 9=>9 | 66=>141 | 70=>145 | 76=>147 | 77=>148 | n=>n,fun | n=>n⟩
theorem Tryd.sortS:Go.Proofs.SlLaysF0.n6 Tryd.prog Tryd.sortS_ren:={
 mixed:=by kernel_rfl
 f6:=⟨Tryd.f55.name,by decide,Tryd.func55.trans (congrArg some (by kernel_rfl))⟩
 f14:=⟨Tryd.f74.name,by decide,Tryd.func74.trans (congrArg some (by kernel_rfl))⟩
 f15:=Tryd.func75.trans (congrArg some (by kernel_rfl))
 f20:=⟨Tryd.f86.name,by decide,Tryd.func86.trans (congrArg some (by kernel_rfl))⟩
 f21:=⟨Tryd.f87.name,by decide,Tryd.func87.trans (congrArg some (by kernel_rfl))⟩
 f22:=⟨Tryd.f88.name,by decide,Tryd.func88.trans (congrArg some (by kernel_rfl))⟩
 f23:=⟨Tryd.f89.name,by decide,Tryd.func89.trans (congrArg some (by kernel_rfl))⟩
 f24:=⟨Tryd.f90.name,by decide,Tryd.func90.trans (congrArg some (by kernel_rfl))⟩
 f25:=⟨Tryd.f91.name,by decide,Tryd.func91.trans (congrArg some (by kernel_rfl))⟩
 f26:=⟨Tryd.f92.name,by decide,Tryd.func92.trans (congrArg some (by kernel_rfl))⟩
 f27:=⟨Tryd.f93.name,by decide,Tryd.func93.trans (congrArg some (by kernel_rfl))⟩
 f28:=Tryd.func94.trans (congrArg some (by kernel_rfl))
 f29:=Tryd.func95.trans (congrArg some (by kernel_rfl))
 f46:=⟨Tryd.f99.name,by decide,Tryd.func99.trans (congrArg some (by kernel_rfl))⟩
 f47:=Tryd.func100.trans (congrArg some (by kernel_rfl))
 f48:=Tryd.func101.trans (congrArg some (by kernel_rfl))
 f49:=⟨Tryd.f102.name,by decide,Tryd.func102.trans (congrArg some (by kernel_rfl))⟩
 f50:=⟨Tryd.f103.name,by decide,Tryd.func103.trans (congrArg some (by kernel_rfl))⟩
 f57:=⟨Tryd.f104.name,by decide,Tryd.func104.trans (congrArg some (by kernel_rfl))⟩
 t0:=Tryd.underlying0
 a0:=Tryd.isAgg0
 z0:=Tryd.sizeOf0
 v0:=Tryd.zeroValue0
 t3:=Tryd.underlying3
 a3:=Tryd.isAgg3
 z3:=Tryd.sizeOf3
 v3:=Tryd.zeroValue3
 t4:=Tryd.underlying4
 a4:=Tryd.isAgg4
 z4:=Tryd.sizeOf4
 v4:=Tryd.zeroValue4
 t5:=Tryd.underlying5
 a5:=Tryd.isAgg5
 z5:=Tryd.sizeOf5
 v5:=Tryd.zeroValue5
 t9:=Tryd.underlying9
 a9:=Tryd.isAgg9
 z9:=Tryd.sizeOf9
 v9:=Tryd.zeroValue9
 t22:=Tryd.underlying71
 a22:=Tryd.isAgg71
 z22:=Tryd.sizeOf71
 v22:=Tryd.zeroValue71
 t25:=Tryd.underlying102
 a25:=Tryd.isAgg102
 z25:=Tryd.sizeOf102
 v25:=Tryd.zeroValue102
 t39:=Tryd.underlying114
 a39:=Tryd.isAgg114
 z39:=Tryd.sizeOf114
 v39:=Tryd.zeroValue114
 t45:=Tryd.underlying133
 a45:=Tryd.isAgg133
 z45:=Tryd.sizeOf133
 v45:=Tryd.zeroValue133
 t46:=Tryd.underlying134
 a46:=Tryd.isAgg134
 z46:=Tryd.sizeOf134
 v46:=Tryd.zeroValue134
 t50:=Tryd.underlying44
 a50:=Tryd.isAgg44
 z50:=Tryd.sizeOf44
 v50:=Tryd.zeroValue44
 t53:=Tryd.underlying128
 a53:=Tryd.isAgg128
 z53:=Tryd.sizeOf128
 v53:=Tryd.zeroValue128
 t55:=Tryd.underlying45
 a55:=Tryd.isAgg45
 z55:=Tryd.sizeOf45
 v55:=Tryd.zeroValue45
 t66:=Tryd.underlying141
 a66:=Tryd.isAgg141
 z66:=Tryd.sizeOf141
 v66:=Tryd.zeroValue141
 t70:=Tryd.underlying145
 a70:=Tryd.isAgg145
 z70:=Tryd.sizeOf145
 v70:=Tryd.zeroValue145
 t76:=Tryd.underlying147
 a76:=Tryd.isAgg147
 z76:=Tryd.sizeOf147
 v76:=Tryd.zeroValue147
 t77:=Tryd.underlying148
 a77:=Tryd.isAgg148
 z77:=Tryd.sizeOf148
 v77:=Tryd.zeroValue148 }
end Go.Proofs.YtppoiahhaclleaaDoor
