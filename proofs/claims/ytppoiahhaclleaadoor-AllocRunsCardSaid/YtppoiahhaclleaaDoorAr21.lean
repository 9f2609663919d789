/- Part 21 of a claim; what it proves stands in its last text. -/
import Derived.Test.YtppoiahhaclleaaDoorAr20
import Derived.Test.YtppoiahhaclleaaDoorAr4
import Derived.Test.YtppoiahhaclleaaDoorAr19
namespace Go.Proofs.YtppoiahhaclleaaDoor
open Go.RowKit
theorem infoBf:(Tryd.prog.info? 60).map (fun i=>(i.zero,i.size,i.bytes))=some (some (.agg #[.int .i64 0,.int .i64 0,.bool false]),3,24):=by kernel_rfl
theorem infoOp:(Tryd.prog.info? 47).map (fun i=>(i.zero,i.size,i.bytes))=some (some (.agg #[.int .i64 0,.int .i64 0,.int .i64 0,.int .i64 0,.int .i64 0,.int .i64 0,.int .i64 0,.int .u64 0]),8,64):=by kernel_rfl
theorem own_zero (w:World) (e sz:Nat):(w.alloc (.cells #[] e)).ownsRow w.heap.size e sz (.slice (some ⟨w.heap.size,0,none⟩) 0 0) 0 [] :=
 ⟨by simp,.inr ⟨w.heap.size,0,#[],rfl,Nat.le_refl _,heap_alloc_new w _,Nat.le_refl _,by decide,by simp,by simp⟩⟩
theorem append_none {P:Program} (w:World) (t ty e:TypeId) (i:TypeInfo) (ht:P.underlying t=some (.slice e)) (hi:P.info? e=some i) (a:Addr) (c:Nat) :
   (Builtin.append_ #[t,t] ty #[.slice (some a) 0 0,.slice none 0 c]).run P w=.ok (.slice (some a) 0 0) w:=by
 simp [Builtin.append_,run_underlying ht,sizeOf,typeInfo,hi,Builtin.lenOf,Builtin.firstCells,storeCells]
theorem rowsBlk_of_own0 {w:World} {base e sz n:Nat} {v:Value} {rows:List (List Value)} (h:w.ownsRow base e sz v n rows.flatten) (hsz:∀ r∈rows,r.length=sz) (hv:v≠.slice none 0 0) :
   ∃ g cap,v=.slice (some ⟨g,0,none⟩) n cap∧base≤g∧n≤cap∧RowsBlk w g e sz rows:=by
 rcases Nat.eq_zero_or_pos rows.length with h0 | hpos
 · obtain rfl:=List.eq_nil_of_length_eq_zero h0
   rcases h.2 with ⟨h1,_⟩ | ⟨g,cap,cur,hv,hg,hh,hnc,hcm,hcs,htk⟩
   · exact absurd h1 hv
   · exact ⟨g,cap,hv,hg,hnc,cur,hh,fun i j r u h=>by simp at h,fun r h=>by simp at h⟩
 · rcases Nat.eq_zero_or_pos n with hn | hn
   · rcases h.2 with ⟨h1,_⟩ | ⟨g,cap,cur,hv,hg,hh,hnc,hcm,hcs,htk⟩
     · exact absurd h1 hv
     · have hl:=h.1
       subst hn
       refine ⟨g,cap,hv,hg,hnc,cur,hh,fun i j r u hr hu=>?_,hsz⟩
       have:r∈rows:=List.mem_of_getElem? hr
       have h0:rows.flatten=[]:=List.eq_nil_of_length_eq_zero (by simpa using hl)
       rw [List.flatten_eq_nil_iff] at h0
       rw [h0 r this] at hu
       simp at hu
   · exact rowsBlk_of_own h hsz hn
set_option maxHeartbeats 400000 in
theorem OwnBf_nil (c:Nat) (w:World) :
   Calls Tryd.prog 40 #[.slice none 0 c] w fun e w'=>e=.returned (.slice (some ⟨w.heap.size,0,none⟩) 0 0)∧w'=w.alloc (.cells #[] 60):=by
 obtain ⟨i0,hi,hz0,hz1,hz2⟩:=info_parts infoBf
 have h0:=fun (w:World) (a:Addr)=>append_none (P:=Tryd.prog) w 22 22 60 i0 Tryd.underlying22 hi a c
 clear hz0 hz1 hz2
 go_enter Tryd.func40,Tryd.ntmps40
 go_wp2
 go_ret
 exact ⟨rfl,rfl⟩
set_option maxHeartbeats 400000 in
theorem OwnBf_some (ad:Addr) (n c:Nat) (w:World) (news:List Value) (hl:news.length=n*3) (hc:∀ (j:Nat) (u:Value),news[j]? = some u→w.cell? (ad.add j)=some u) (h1:∀ u∈news,u.oneCell'=true) (hn:n≤3518437208000) :
   Calls Tryd.prog 40 #[.slice (some ad) n c] w fun e w'=>∃ v,e=.returned v∧w'.ownsRow w.heap.size 60 3 v n news∧v≠.slice none 0 0∧Below w.heap.size w w':=by
 obtain ⟨i0,hi,hz0,hz1,hz2⟩:=info_parts infoBf
 have hc2:∀ (j:Nat) (u:Value),news[j]? = some u→(w.alloc (.cells #[] 60)).cell? (ad.add j)=some u:=fun j u hu=>by
   have:=hc j u hu
   rw [World.cell?_alloc_lt _ _ _ (World.block_lt_of_cell? w _ this)];exact this
 have HC:=Lh hc2
 have HL:=Lh hl
 have H1:=Lh h1
 clear hc hc2 hl h1
 go_enter Tryd.func40,Tryd.ntmps40
 go_wp2_with ((at_builtin;refine wpList_append_own_at _ rfl _ _ 22 rfl w.heap.size 60 i0 (.agg #[.int .i64 0,.int .i64 0,.bool false]) 3 24 Tryd.underlying22 hi hz0 hz1 hz2 rfl (by decide) _ 0 [] rfl (own_zero w _ _) ad n c news rfl HL.out HC.out H1.out (by unfold maxLen;omega) (by omega) (by simp) ?_);intro v w1 hown hg hnn _;have HNN:=Lh hnn;clear hnn)
 go_ret
 exact ⟨v,rfl,by simpa using hown,fun e=>(nomatch ((HNN.out.1 e).1)),((Below.refl _ _).alloc (Nat.le_refl _) _).grown hg (by simp) (fun k hk=>Nat.le_of_eq (Option.some.inj hk))⟩
theorem OwnBf_blk (v:Value) (w:World) (F:Nat→Prop) (rows:List (List Value)) (hr:Rows w F 3 v rows) (h1:∀ u∈rows.flatten,u.oneCell'=true) (hn:rows.length≤1000000) :
   Calls Tryd.prog 40 #[v] w fun e w'=>∃ g cap,e=.returned (.slice (some ⟨g,0,none⟩) rows.length cap)∧w.heap.size≤g∧rows.length≤cap∧RowsBlk w' g 60 3 rows∧Below w.heap.size w w':=by
 have hr':=hr
 obtain ⟨A,c,rfl,hc,hl,hne⟩:=hr'
 cases A with
 | none =>
   have h0:rows=[]:=by
     rcases rows with _ | ⟨r,rs⟩
     · rfl
     · obtain ⟨b,off,hA,_⟩:=hne (by simp);cases hA
   subst h0
   refine (OwnBf_nil c w).mono ?_
   rintro e w' ⟨rfl,rfl⟩
   exact ⟨_,0,rfl,Nat.le_refl _,Nat.le_refl _,⟨#[],heap_alloc_new w _,fun i j r u h=>by simp at h,fun r h=>by simp at h⟩,(Below.refl _ _).alloc (Nat.le_refl _) _⟩
 | some ad =>
   obtain ⟨hfl,hfc⟩:=hr.flat (by decide)
   refine (OwnBf_some ad rows.length c w rows.flatten hfl hfc h1 (by omega)).mono ?_
   rintro e w' ⟨v,rfl,hown,hnn,hb⟩
   obtain ⟨g,cap,rfl,hg,hcap,hrow⟩:=rowsBlk_of_own0 hown hl hnn
   exact ⟨g,cap,rfl,hg,hcap,hrow,hb⟩
set_option maxHeartbeats 400000 in
theorem OwnOp_nil (c:Nat) (w:World) :
   Calls Tryd.prog 41 #[.slice none 0 c] w fun e w'=>e=.returned (.slice (some ⟨w.heap.size,0,none⟩) 0 0)∧w'=w.alloc (.cells #[] 47):=by
 obtain ⟨i0,hi,hz0,hz1,hz2⟩:=info_parts infoOp
 have h0:=fun (w:World) (a:Addr)=>append_none (P:=Tryd.prog) w 23 23 47 i0 Tryd.underlying23 hi a c
 clear hz0 hz1 hz2
 go_enter Tryd.func41,Tryd.ntmps41
 go_wp2
 go_ret
 exact ⟨rfl,rfl⟩
set_option maxHeartbeats 400000 in
theorem OwnOp_some (ad:Addr) (n c:Nat) (w:World) (news:List Value) (hl:news.length=n*8) (hc:∀ (j:Nat) (u:Value),news[j]? = some u→w.cell? (ad.add j)=some u) (h1:∀ u∈news,u.oneCell'=true) (hn:n≤1000000) :
   Calls Tryd.prog 41 #[.slice (some ad) n c] w fun e w'=>∃ v,e=.returned v∧w'.ownsRow w.heap.size 47 8 v n news∧v≠.slice none 0 0∧Below w.heap.size w w':=by
 obtain ⟨i0,hi,hz0,hz1,hz2⟩:=info_parts infoOp
 have hc2:∀ (j:Nat) (u:Value),news[j]? = some u→(w.alloc (.cells #[] 47)).cell? (ad.add j)=some u:=fun j u hu=>by
   have:=hc j u hu
   rw [World.cell?_alloc_lt _ _ _ (World.block_lt_of_cell? w _ this)];exact this
 have HC:=Lh hc2
 have HL:=Lh hl
 have H1:=Lh h1
 clear hc hc2 hl h1
 go_enter Tryd.func41,Tryd.ntmps41
 go_wp2_with ((at_builtin;refine wpList_append_own_at _ rfl _ _ 23 rfl w.heap.size 47 i0 (.agg #[.int .i64 0,.int .i64 0,.int .i64 0,.int .i64 0,.int .i64 0,.int .i64 0,.int .i64 0,.int .u64 0]) 8 64 Tryd.underlying23 hi hz0 hz1 hz2 rfl (by decide) _ 0 [] rfl (own_zero w _ _) ad n c news rfl HL.out HC.out H1.out (by unfold maxLen;omega) (by omega) (by simp) ?_);intro v w1 hown hg hnn _;have HNN:=Lh hnn;clear hnn)
 go_ret
 exact ⟨v,rfl,by simpa using hown,fun e=>(nomatch ((HNN.out.1 e).1)),((Below.refl _ _).alloc (Nat.le_refl _) _).grown hg (by simp) (fun k hk=>Nat.le_of_eq (Option.some.inj hk))⟩
theorem OwnOp_blk (v:Value) (w:World) (F:Nat→Prop) (rows:List (List Value)) (hr:Rows w F 8 v rows) (h1:∀ u∈rows.flatten,u.oneCell'=true) (hn:rows.length≤1000000) :
   Calls Tryd.prog 41 #[v] w fun e w'=>∃ g cap,e=.returned (.slice (some ⟨g,0,none⟩) rows.length cap)∧w.heap.size≤g∧rows.length≤cap∧RowsBlk w' g 47 8 rows∧Below w.heap.size w w':=by
 have hr':=hr
 obtain ⟨A,c,rfl,hc,hl,hne⟩:=hr'
 cases A with
 | none =>
   have h0:rows=[]:=by
     rcases rows with _ | ⟨r,rs⟩
     · rfl
     · obtain ⟨b,off,hA,_⟩:=hne (by simp);cases hA
   subst h0
   refine (OwnOp_nil c w).mono ?_
   rintro e w' ⟨rfl,rfl⟩
   exact ⟨_,0,rfl,Nat.le_refl _,Nat.le_refl _,⟨#[],heap_alloc_new w _,fun i j r u h=>by simp at h,fun r h=>by simp at h⟩,(Below.refl _ _).alloc (Nat.le_refl _) _⟩
 | some ad =>
   obtain ⟨hfl,hfc⟩:=hr.flat (by decide)
   refine (OwnOp_some ad rows.length c w rows.flatten hfl hfc h1 (by omega)).mono ?_
   rintro e w' ⟨v,rfl,hown,hnn,hb⟩
   obtain ⟨g,cap,rfl,hg,hcap,hrow⟩:=rowsBlk_of_own0 hown hl hnn
   exact ⟨g,cap,rfl,hg,hcap,hrow,hb⟩
end Go.Proofs.YtppoiahhaclleaaDoor
namespace Go.Proofs.YtppoiahhaclleaaDoor
open Go.RowKit
set_option maxRecDepth 100000
theorem bufs_one (l:List Bf):∀ u∈(l.map bufRow).flatten,u.oneCell'=true:=by
 intro u hu
 obtain ⟨r,hr,hu⟩:=List.mem_flatten.1 hu
 obtain ⟨x,_,rfl⟩:=List.mem_map.1 hr
 simp [bufRow] at hu
 rcases hu with rfl | rfl | rfl <;> rfl
theorem ops_one (l:List LOp):∀ u∈(l.map opRow).flatten,u.oneCell'=true:=by
 intro u hu
 obtain ⟨r,hr,hu⟩:=List.mem_flatten.1 hu
 obtain ⟨x,_,rfl⟩:=List.mem_map.1 hr
 simp [opRow] at hu
 rcases hu with rfl | rfl | rfl | rfl | rfl | rfl | rfl | rfl <;> rfl
def rowsR (g e sz:Nat) (rows:List (List Value)):Res:=⟨fun k=>k=g,fun w=>RowsBlk w g e sz rows,fun h hp=>hp.keep (h g rfl)⟩
theorem Sep.rows {w0 w w':World} {F0:Nat→Prop} {R:List Res} (h:Sep w0 F0 w R) {g e sz:Nat} {rows:List (List Value)} (hb:Below w.heap.size w w') (hr:RowsBlk w' g e sz rows) (hg:w.heap.size≤g):Sep w0 F0 w' (rowsR g e sz rows :: R) :=
 h.push hb hr fun k hk=>by cases hk;exact ⟨hg,hr.lt⟩
set_option maxHeartbeats 4000000 in
theorem OwnProg_any (p:LP) (Ab Ao:Option Addr) (nb cb no co:Nat) (w:World) (hp:ProgAt w (fun k=>k < w.heap.size) [.int .i64 p.regs,.slice Ab nb cb,.slice Ao no co] p) (hb:p.bufs.length≤1000) (ho:p.ops.length≤100000) :
   Calls Tryd.prog 16 #[.agg #[.int .i64 p.regs,.slice Ab nb cb,.slice Ao no co]] w fun e w'=>∃ gb cb' go co',e=.returned (.agg #[.int .i64 p.regs,.slice (some ⟨gb,0,none⟩) nb cb',.slice (some ⟨go,0,none⟩) no co'])∧nb≤cb'∧no≤co' ∧
     Sep w (fun _=>False) w' [rowsR go 47 8 (p.ops.map opRow),rowsR gb 60 3 (p.bufs.map bufRow)]:=by
 obtain ⟨W,hW,hbW,hzW,hl_,hr_⟩:=boxed w #[.int .i64 p.regs,.slice Ab nb cb,.slice Ao no co] 25
 obtain ⟨W2,hW2⟩:∃ q,q=W.alloc (.cells #[.int .i64 0,.slice none 0 0,.slice none 0 0] 25):=⟨_,rfl⟩
 have hS:Sep w (fun _=>False) W2 [boxR (w.heap.size+1) 25 [.int .i64 0,.slice none 0 0,.slice none 0 0],boxR w.heap.size 25 [.int .i64 p.regs,.slice Ab nb cb,.slice Ao no co]] :=
   hzW▸(((Sep.nil w _).box 25 [.int .i64 p.regs,.slice Ab nb cb,.slice Ao no co]).cast hW |>.box 25 [.int .i64 0,.slice none 0 0,.slice none 0 0]).cast hW2
 have hbW2:=hS.below
 have hp2:=prog_next hp hbW2
 have hnb:p.bufs.length=nb:=by
   obtain ⟨vb,vo,h,h1,h2⟩:=hp.row
   simp only [List.cons.injEq] at h
   rw [←h.2.1] at h1
   obtain ⟨A,c,hv,_⟩:=rows_form h1;cases hv;simp
 have hno:p.ops.length=no:=by
   obtain ⟨vb,vo,h,h1,h2⟩:=hp.row
   simp only [List.cons.injEq] at h
   rw [←h.2.2.1] at h2
   obtain ⟨A,c,hv,_⟩:=rows_form h2;cases hv;simp
 have HOB:Hid (∀ wr,Below W2.heap.size W2 wr→Calls Tryd.prog 40 #[.slice Ab nb cb] wr fun e w'=>∃ g cap,e=.returned (.slice (some ⟨g,0,none⟩) nb cap)∧wr.heap.size≤g∧nb≤cap∧RowsBlk w' g 60 3 (p.bufs.map bufRow)∧Below wr.heap.size wr w'):=Lh (fun wr hb1=>by
   obtain ⟨vb,vo,h,h1,h2⟩:=(prog_next hp2 hb1).row
   simp only [List.cons.injEq] at h
   rw [←h.2.1] at h1
   have hc:=OwnBf_blk (.slice Ab nb cb) wr _ (p.bufs.map bufRow) h1 (bufs_one _) (by simp;omega)
   rw [List.length_map,hnb] at hc
   exact hc)
 have HOO:Hid (∀ wr,Below W2.heap.size W2 wr→Calls Tryd.prog 41 #[.slice Ao no co] wr fun e w'=>∃ g cap,e=.returned (.slice (some ⟨g,0,none⟩) no cap)∧wr.heap.size≤g∧no≤cap∧RowsBlk w' g 47 8 (p.ops.map opRow)∧Below wr.heap.size wr w'):=Lh (fun wr hb1=>by
   obtain ⟨vb,vo,h,h1,h2⟩:=(prog_next hp2 hb1).row
   simp only [List.cons.injEq] at h
   rw [←h.2.2.1] at h2
   have hc:=OwnOp_blk (.slice Ao no co) wr _ (p.ops.map opRow) h2 (ops_one _) (by simp;omega)
   rw [List.length_map,hno] at hc
   exact hc)
 have HS:=Lh hS
 have HW:=Lh hW
 have HW2:=Lh hW2
 have HC:Hid (∀ wr,Below W2.heap.size W2 wr→wr.cell? ⟨w.heap.size,1,none⟩=some (.slice Ab nb cb)∧wr.cell? ⟨w.heap.size,2,none⟩=some (.slice Ao no co)):=Lh (fun wr hb1=>⟨(hS.next hb1).cell 1 1 rfl rfl,(hS.next hb1).cell 1 2 rfl rfl⟩)
 clear hp hb ho hW hW2 hbW hzW hl_ hr_ hS hbW2 hp2 hnb hno
 go_enter Tryd.func16,Tryd.ntmps16
 go_upto_region 1 with fail
 rw [←HW.out,←HW2.out]
 have hS:Below W2.heap.size W2 W2.drew:=(Below.refl _ _).drew
 (refine wp_region_stages (fun k_ w_=>((fun k=>k == 1 || k == 4) k_=true→(fun w_=>w_.cell? ⟨w.heap.size,1,none⟩=some (.slice Ab nb cb)∧w_.cell? ⟨w.heap.size,2,none⟩=some (.slice Ao no co)) w_)∧(fun _=>True) w_) (by kernel_rfl) (by kernel_rfl) (fun _=>⟨fun _=>((And.intro (HC.out _ hS) trivial)).1,((And.intro (HC.out _ hS) trivial)).2⟩) ?_)
 (try simp only [])
 repeat (first | (refine runK_no (by rfl) ?_;(try simp only [Act.put,List.setIfInBounds_toArray,List.set_cons_zero,List.set_cons_succ])) | (refine runK_val (v:=?_) (by rfl) ?_ ?_;rotate_left;(focus (intro w_ hw_;obtain ⟨hE_,f2_⟩:=hw_;(try (replace hE_:=hE_ (by decide);obtain ⟨f1_,f2_⟩:=hE_));go_simp;(try with_reducible rfl);done));(try simp only [Act.put,List.setIfInBounds_toArray,List.set_cons_zero,List.set_cons_succ])) | (refine runK_call (f:=?_) (args:=?_) (w1:=?_) (by rfl) (by rfl) ?_ ?_;rotate_left 3;(focus (go_simp;refine ⟨⟨?_,?_⟩,?_⟩ <;> with_reducible rfl));(with_reducible refine (HOB.out _ hS).mono ?_);rintro e w1 ⟨gb,cb',rfl,hg1,hc1,hrow1,hb1⟩;have H1:=Lh (And.intro hc1 ((HS.out.drew).rows hb1 hrow1 hg1));replace hS:=hS.trans (hb1.mono hS.size);clear hg1 hc1 hrow1 hb1;refine ⟨_,rfl,fun _ _=>⟨fun _=>HC.out _ hS,trivial⟩,?_⟩;(try simp only [Act.put,List.setIfInBounds_toArray,List.set_cons_zero,List.set_cons_succ])) | (refine runK_call (f:=?_) (args:=?_) (w1:=?_) (by rfl) (by rfl) ?_ ?_;rotate_left 3;(focus (go_simp;refine ⟨⟨?_,?_⟩,?_⟩ <;> with_reducible rfl));(with_reducible refine (HOO.out _ hS).mono ?_);rintro e w2 ⟨go,co',rfl,hg2,hc2,hrow2,hb2⟩;have H2:=Lh (And.intro hc2 (H1.out.2.rows hb2 hrow2 hg2));replace hS:=hS.trans (hb2.mono hS.size);clear hg2 hc2 hrow2 hb2;refine ⟨_,rfl,fun _ _=>⟨fun _=>HC.out _ hS,trivial⟩,?_⟩;(try simp only [Act.put,List.setIfInBounds_toArray,List.set_cons_zero,List.set_cons_succ])) | (refine runK_skip (w1:=w2.setCell ⟨w.heap.size,1,none⟩ (.slice (some ⟨gb,0,none⟩) nb cb')) (by rfl) (by rfl) (exec_store1 22 _ _ rfl w.heap.size 1 _ rfl rfl (by kernel_rfl) (by rw [H2.out.2.cell 3 1 rfl rfl];rfl) (H2.out.2.frozen 3 1 rfl) rfl) (fun k_ hk_=>⟨fun hc_=>(free_crit (C:=(fun k=>k == 1 || k == 4)) (by kernel_rfl) k_ hk_ hc_).elim,trivial⟩) ?_;(try simp only [Act.put])) | (refine runK_skip (w1:=(w2.setCell ⟨w.heap.size,1,none⟩ (.slice (some ⟨gb,0,none⟩) nb cb')).setCell ⟨w.heap.size,2,none⟩ (.slice (some ⟨go,0,none⟩) no co')) (by rfl) (by rfl) (exec_store1 23 _ _ rfl w.heap.size 2 _ rfl rfl (by kernel_rfl) (by rw [(H2.out.2.setCell 3 rfl 1 (.slice (some ⟨gb,0,none⟩) nb cb') rfl).cell 3 2 rfl rfl];rfl) ((H2.out.2.setCell 3 rfl 1 (.slice (some ⟨gb,0,none⟩) nb cb') rfl).frozen 3 2 rfl) rfl) (fun k_ hk_=>⟨fun hc_=>(free_crit (C:=(fun k=>k == 1 || k == 4)) (by kernel_rfl) k_ hk_ hc_).elim,trivial⟩) ?_;(try simp only [Act.put])))
 (refine runK_nil ?_)
 have H3:=Lh ((H2.out.2.setCell 3 rfl 1 (.slice (some ⟨gb,0,none⟩) nb cb') rfl).setCell 3 rfl 2 (.slice (some ⟨go,0,none⟩) no co') rfl)
 obtain ⟨w3,hw3⟩:∃ q,q=(w2.setCell ⟨w.heap.size,1,none⟩ (.slice (some ⟨gb,0,none⟩) nb cb')).setCell ⟨w.heap.size,2,none⟩ (.slice (some ⟨go,0,none⟩) no co'):=⟨_,rfl⟩
 rw [←hw3]
 have H4:=Lh (H3.out.cast hw3)
 have c0:=H4.out.cell 3 0 rfl rfl
 have c1:=H4.out.cell 3 1 rfl rfl
 have c2:=H4.out.cell 3 2 rfl rfl
 have r0:=H4.out.cell 2 0 rfl rfl
 have r1:=H4.out.cell 2 1 rfl rfl
 have r2:=H4.out.cell 2 2 rfl rfl
 have fr0:=H4.out.frozen 2 0 rfl
 have fr1:=H4.out.frozen 2 1 rfl
 have fr2:=H4.out.frozen 2 2 rfl
 clear hw3 hS
 go_wp2
 have H5:=Lh (((H4.out.setCell 2 rfl 0 (.int .i64 p.regs) rfl).setCell 2 rfl 1 (.slice (some ⟨gb,0,none⟩) nb cb') rfl).setCell 2 rfl 2 (.slice (some ⟨go,0,none⟩) no co') rfl)
 refine bodyPost_ret (v:=.agg #[.int .i64 p.regs,.slice (some ⟨gb,0,none⟩) nb cb',.slice (some ⟨go,0,none⟩) no co']) (one_result rfl _ _ (w.heap.size+1) 25 #[.int .i64 p.regs,.slice (some ⟨gb,0,none⟩) nb cb',.slice (some ⟨go,0,none⟩) no co'] (0,0) _ rfl (H5.out.at_ 2 rfl) Tryd.underlying25 rfl (by kernel_rfl)) rfl ?_
 exact ⟨gb,cb',go,co',rfl,H1.out.1,H2.out.1,H5.out.sub (.cons_cons _ (.cons_cons _ (List.nil_sublist _)))⟩
end Go.Proofs.YtppoiahhaclleaaDoor
namespace Go.Proofs.YtppoiahhaclleaaDoor
open Go.RowKit
theorem ends_back_inv {ops:List LOp} (h:Bal ops) (k:Nat) (hk:k≤ops.length):∀ (j m:Nat) (o:LOp),j < k→ops[j]? = some o→o.kind=17→(endsTo ops k).1[j]? = some (m:Int)→(endsTo ops k).1[m]? = some (j:Int)∧m ∉ (endsTo ops k).2:=by
 induction k with
 | zero=>exact fun j m o hj=>absurd hj (by omega)
 | succ k ih =>
   intro j m q hj hq hk' hm
   have ih:=ih (by omega)
   have inv:=ends_inv h k (by omega)
   obtain ⟨o,ho⟩:∃ o,ops[k]? = some o:=⟨_,List.getElem?_eq_getElem (by omega)⟩
   have he:endsTo ops (k+1)=endsStep o k (endsTo ops k):=by simp only [endsTo,ho]
   rw [he] at hm ⊢
   have hs:=h.some_ k o ho
   generalize endsTo ops k=s at ih hs inv hm
   obtain ⟨E,st⟩:=s
   unfold endsStep at hm ⊢
   have old:j < k→E[j]? = some (m:Int)→m < j∧E[m]? = some (j:Int)∧m ∉ st:=fun h1 h2=>by
     obtain ⟨m',_,g1,g2,_⟩:=inv.end_ j q h1 hq hk'
     simp only at g2
     rw [h2] at g2
     have:=Option.some.inj g2
     exact ⟨by omega,ih j m q h1 hq hk' h2⟩
   by_cases h16:o.kind=16
   · rw [if_pos h16] at hm ⊢
     simp only at hm ⊢
     have e:j≠k:=fun e=>by subst e;rw [ho] at hq;cases hq;omega
     obtain ⟨g1,g2,g3⟩:=old (by omega) hm
     exact ⟨g2, fun hx => by rcases List.mem_cons.1 hx with h | h; · omega
                             · exact g3 h⟩
   · rw [if_neg h16] at hm ⊢
     by_cases h17:o.kind=17
     · rw [if_pos h17] at hm ⊢
       cases st with
       | nil=>exact absurd rfl (hs h17)
       | cons m0 l =>
         simp only at hm ⊢
         obtain ⟨hmk,q0,hq0,hk0⟩:=inv.open_ m0 List.mem_cons_self
         have hnd:=List.nodup_cons.1 inv.nd
         have hlen:=inv.len
         simp only at hlen
         by_cases e:j=k
         · subst e
           rw [List.getElem?_set_ne (by omega),List.getElem?_set_self (by omega)] at hm
           have:=Option.some.inj hm
           obtain rfl:m=m0:=by omega
           exact ⟨by rw [List.getElem?_set_self (by simp;omega)],hnd.1⟩
         · have e2:m0≠j:=fun e2=>by subst e2;rw [hq0] at hq;cases hq;omega
           rw [List.getElem?_set_ne e2,List.getElem?_set_ne (by omega)] at hm
           obtain ⟨g1,g2,g3⟩:=old (by omega) hm
           have e3:m0≠m:=fun e3=>g3 (by rw [←e3];exact List.mem_cons_self)
           refine ⟨by rw [List.getElem?_set_ne e3,List.getElem?_set_ne (by omega)];exact g2,fun hx=>g3 (List.mem_cons_of_mem _ hx)⟩
     · rw [if_neg h17] at hm ⊢
       have e:j≠k:=fun e=>by subst e;rw [ho] at hq;cases hq;exact h17 hk'
       obtain ⟨g1,g2,g3⟩:=old (by omega) hm
       exact ⟨g2,g3⟩
theorem ends_back {ops:List LOp} (h:Bal ops) {j m e:Nat} {o:LOp} (ho:ops[j]? = some o) (hk:o.kind=17) (h1:(endsF ops).getD j 0=(m:Int)) (h2:(endsF ops).getD m 0=(e:Int)):e=j:=by
 have hj:=(List.getElem?_eq_some_iff.1 ho).1
 have hl:=ends_len h
 have h3:(endsF ops)[j]? = some (m:Int):=by rw [List.getD_eq_getElem?_getD,List.getElem?_eq_getElem (by omega)] at h1;rw [List.getElem?_eq_getElem (by omega)];exact congrArg some h1
 have h4:=(ends_back_inv h ops.length (Nat.le_refl _) j m o hj ho hk h3).1
 rw [List.getD_eq_getElem?_getD,show (endsF ops)[m]? = some (j:Int) from h4] at h2
 have h5:(j:Int)=(e:Int):=h2
 omega
theorem putR_neg (r:List Nat) {k:Int} (v:Nat) (h:k < 0):putR r k v=r:=by unfold putR;rw [if_neg (by omega)]
structure RenOk (sp:List (Int×Int)) (nm:Nat→Nat) (n':Nat):Prop where
 lt:∀ (x:Nat) (s:Int×Int),sp[x]? = some s→0≤s.1→nm x < n'
 ne:∀ (x y:Nat) (s t:Int×Int),x≠y→sp[x]? = some s→sp[y]? = some t→0≤s.1→0≤t.1→s.1≤t.2→t.1≤s.2→nm x≠nm y
structure SimR (p:LP) (nm:Nat→Nat) (n':Nat) (i:Nat) (r r':List Nat):Prop where
 len:(r.length:Int)=p.regs
 len':r'.length=n'
 eq:∀ (x:Nat) (s:Int×Int),(spansF p)[x]? = some s→0≤s.1→s.1 < i→(i:Int)≤s.2→r.getD x 0=r'.getD (nm x) 0
structure SimS (p:LP) (nm:Nat→Nat) (n':Nat) (s t:RS):Prop where
 i:s.i=t.i
 first:s.first=t.first
 bufs:s.bufs=t.bufs
 r:SimR p nm n' s.i s.r t.r
 loop:s.first=false→∃ o,p.ops[s.i]? = some o∧o.kind=16∧s.r.getD o.d.toNat 0=t.r.getD (nm o.d.toNat) 0
theorem nmF_eq {nm:Nat→Nat} {x:Nat}:nmF nm (x:Int)=(nm x:Nat):=by unfold nmF;rw [if_neg (by omega),Int.toNat_natCast]
theorem nmF_neg {nm:Nat→Nat} {k:Int} (h:k < 0):nmF nm k = -1:=by unfold nmF;rw [if_pos h]
theorem atR_nat (r:List Nat) (x:Nat):atR r (x:Int)=r.getD x 0:=by unfold atR;rw [if_neg (by omega),Int.toNat_natCast]
theorem atR_neg (r:List Nat) {k:Int} (h:k < 0):atR r k=0:=by unfold atR;rw [if_pos h]
theorem SimR.at_ {p:LP} {nm:Nat→Nat} {n' i:Nat} {r r':List Nat} {o:LOp} (h0:(checkF p 64).2=0) (h:SimR p nm n' i r r') (ho:p.ops[i]? = some o) (hk:o.kind≠17) {k:Int} (hm:k=o.a∨k=o.b∨k=o.c):atR r k=atR r' (nmF nm k):=by
 by_cases hneg:k < 0
 · rw [nmF_neg hneg,atR_neg _ hneg,atR_neg _ (by decide)]
 obtain ⟨x,rfl⟩:∃ x:Nat,k=x:=⟨k.toNat,by omega⟩
 have hreg:=op_regs (check_fields h0 ho)
 have hr:(x:Int) < p.regs:=by
   rcases hm with e | e | e
   · rw [e];exact hreg.a (by omega)
   · rw [e];exact hreg.b (by omega)
   · rw [e];exact hreg.c (by omega)
 obtain ⟨s,hs,h1,h2,h3⟩:=span_has ho (x:=x) (by unfold regsOf;rcases hm with e | e | e <;> simp [e]) hr
 have h4:=took h0 ho hk hm hs
 rw [nmF_eq,atR_nat,atR_nat]
 exact h.eq x s hs h1 h4 h3
theorem put_sim {nm:Nat→Nat} {n':Nat} {sp:List (Int×Int)} (hR:RenOk sp nm n') {r r':List Nat} (hl:r.length=sp.length) (hl':r'.length=n') {y:Nat} {t:Int×Int} (hy:sp[y]? = some t) (ht:0≤t.1) (v:Nat) {x:Nat} {s:Int×Int} (hx:sp[x]? = some s) (hs:0≤s.1) (h1:s.1≤t.2) (h2:t.1≤s.2)
   (he:x≠y→r.getD x 0=r'.getD (nm x) 0):(putR r (y:Int) v).getD x 0=(putR r' (nm y:Nat) v).getD (nm x) 0:=by
 have hxl:=(List.getElem?_eq_some_iff.1 hx).1
 rw [put_get _ _ _ _ (by omega),put_get _ _ _ _ (by have:=hR.lt x s hx hs;omega)]
 by_cases e:x=y
 · subst e;rw [if_pos rfl,if_pos rfl]
 · have:=hR.ne x y s t e hx hy hs ht h1 h2
   rw [if_neg (by omega),if_neg (by omega)]
   exact he e
theorem sim_step {D:DoT} {p:LP} {nm:Nat→Nat} {n':Nat} (h0:(checkF p 64).2=0) (hR:RenOk (spansF p) nm n') {s t:RS} (h:SimS p nm n' s t) :
   (stepF D p.ops (endsF p.ops) s=none→stepF D (p.ops.map (renF nm)) (endsF p.ops) t=none) ∧
   ∀ s',stepF D p.ops (endsF p.ops) s=some s'→∃ t',stepF D (p.ops.map (renF nm)) (endsF p.ops) t=some t'∧SimS p nm n' s' t':=by
 obtain ⟨si,sf,sr,sb,sl⟩:=s
 obtain ⟨ti,tf,tr,tb,tl⟩:=t
 obtain ⟨e1,e2,e3,hr,hloop⟩:=h
 simp only at e1 e2 e3 hr hloop
 subst e1 e2 e3
 have hb:=check_bal h0
 have hsl:sr.length=(spansF p).length:=by rw [spans_len];have:=hr.len;omega
 unfold stepF
 simp only [List.getElem?_map]
 cases ho:p.ops[si]? with
 | none=>exact ⟨fun _=>rfl,fun s' h=>by cases h⟩
 | some o =>
   simp only [Option.map_some]
   have hfl:=check_fields h0 ho
   have hreg:=regs_is hfl
   have hor:=op_regs hfl
   show (_→_)∧_
   have hkr:(renF nm o).kind=o.kind:=rfl
   rw [hkr]
   by_cases h16:o.kind=16
   · rw [if_pos h16,if_pos h16]
     refine ⟨fun h=>(by cases h),fun s' h=>?_⟩
     cases h
     have hd:=loop_d hfl h16
     obtain ⟨d,hd'⟩:∃ d:Nat,o.d=d:=⟨o.d.toNat,by omega⟩
     have hde:o.e = -1:=by have:=hreg.2.2.e;rw [h16] at this;exact this
     obtain ⟨u,hu,hu1,hu2,hu3⟩:=span_has ho (x:=d) (by unfold regsOf;simp [hd']) (by omega)
     have hrd:(renF nm o).d=(nm d:Nat):=by show nmF nm o.d=_;rw [hd',nmF_eq]
     rw [hrd,hd']
     refine ⟨_,rfl,rfl,rfl,rfl,⟨?_,?_,fun x s hs g1 g2 g3=>?_⟩,fun h=>(by cases h)⟩
     · simp only;split <;> simp [putR_len,hr.len]
     · simp only;split <;> simp [putR_len,hr.len']
     · simp only at g2 g3 ⊢
       have hxd:x≠d→sr.getD x 0=tr.getD (nm x) 0:=fun hne=>by
         refine hr.eq x s hs g1 ?_ (by omega)
         rcases Int.lt_or_le s.1 si with h | h
         · exact h
         · obtain ⟨_,h2⟩:=begun h0 ho hs (by omega)
           rw [hd',hde] at h2
           omega
       cases sf with
       | true=>exact put_sim hR hsl hr.len' hu hu1 0 hs g1 (by omega) (by omega) hxd
       | false =>
         by_cases e:x=d
         · subst e
           obtain ⟨o2,g4,_,g6⟩:=hloop rfl
           rw [ho] at g4
           cases g4
           rw [hd',Int.toNat_natCast] at g6
           exact g6
         · exact hxd e
   rw [if_neg h16,if_neg h16]
   by_cases h17:o.kind=17
   · rw [if_pos h17,if_pos h17]
     obtain ⟨m,q,hm,hem,hq,hq16⟩:=ends_end hb ho h17
     rw [hem,Int.toNat_natCast,hq]
     simp only [Option.map_some]
     have hfq:=check_fields h0 hq
     have hd:=loop_d hfq hq16
     obtain ⟨d,hd'⟩:∃ d:Nat,q.d=d:=⟨q.d.toNat,by omega⟩
     obtain ⟨u,hu,hu1,hu2,hu3⟩:=span_has hq (x:=d) (by unfold regsOf;simp [hd']) (by omega)
     obtain ⟨u',hu',_,_,hu4⟩:=span_has ho (x:=d) (by unfold regsOf;rw [if_pos h17,hem,Int.toNat_natCast,hq];simp [hd']) (by omega)
     rw [hu] at hu'
     cases hu'
     have hrd:(renF nm q).d=(nm d:Nat):=by show nmF nm q.d=_;rw [hd',nmF_eq]
     have hri:(renF nm q).imm=q.imm:=rfl
     have hat:sr.getD d 0=tr.getD (nm d) 0:=hr.eq d u hu hu1 (by omega) hu4
     rw [hrd,hd',hri,atR_nat,atR_nat,←hat]
     have notnew:∀ (x:Nat) (s:Int×Int),(spansF p)[x]? = some s→s.1≠si:=fun x s hs e=>(begun h0 ho hs e).1 h17
     by_cases hlt:(sr.getD d 0+1) % 18446744073709551616 < q.imm
     · rw [if_pos hlt,if_pos hlt]
       refine ⟨fun h=>(by cases h),fun s' h=>?_⟩
       cases h
       have hse:∀ (x:Nat) (s:Int×Int),(spansF p)[x]? = some s→0≤s.1→s.1 < m→(m:Int)≤s.2→(si:Int)≤s.2:=fun x s hs g1 g2 g3=>by
         have h1:=(span_is hb hs).lasts m q hq hq16 g1 g2 g3
         obtain ⟨e',he1,he2,he3⟩:=ends_loop hb hq hq16
         rw [he3] at h1
         have:=ends_back hb ho h17 hem he3
         omega
       refine ⟨_,rfl,rfl,rfl,rfl,⟨?_,?_,fun x s hs g1 g2 g3=>?_⟩,fun _=>⟨q,hq,hq16,?_⟩⟩
       · simp only [putR_len];exact hr.len
       · simp only [putR_len];exact hr.len'
       · simp only at g2 g3 ⊢
         have h5:=hse x s hs g1 g2 g3
         exact put_sim hR hsl hr.len' hu hu1 _ hs g1 (by omega) (by omega) (fun _=>hr.eq x s hs g1 (by omega) h5)
       · rw [hd',Int.toNat_natCast]
         exact put_sim hR hsl hr.len' hu hu1 _ hu hu1 (by omega) (by omega) (fun h=>absurd rfl h)
     · rw [if_neg hlt,if_neg hlt]
       refine ⟨fun h=>(by cases h),fun s' h=>?_⟩
       cases h
       refine ⟨_,rfl,rfl,rfl,rfl,⟨hr.len,hr.len',fun x s hs g1 g2 g3=>?_⟩,fun hf=>?_⟩
       · simp only at g2 g3 ⊢
         have:=notnew x s hs
         exact hr.eq x s hs g1 (by omega) (by omega)
       · obtain ⟨o2,g4,g5,_⟩:=hloop hf
         rw [ho] at g4
         cases g4
         exact absurd g5 h16
   rw [if_neg h17,if_neg h17]
   have ha:=hr.at_ h0 ho h17 (k:=o.a) (.inl rfl)
   have hbb:=hr.at_ h0 ho h17 (k:=o.b) (.inr (.inl rfl))
   have hc:=hr.at_ h0 ho h17 (k:=o.c) (.inr (.inr rfl))
   have f1:(renF nm o).a=nmF nm o.a:=rfl
   have f2:(renF nm o).b=nmF nm o.b:=rfl
   have f3:(renF nm o).c=nmF nm o.c:=rfl
   have f4:(renF nm o).imm=o.imm:=rfl
   have f5:(renF nm o).buf=o.buf:=rfl
   have f6:(renF nm o).d=nmF nm o.d:=rfl
   have f7:(renF nm o).e=nmF nm o.e:=rfl
   rw [f1,f2,f3,f4,f5,f6,f7,←ha,←hbb,←hc]
   cases hD:D o.kind o.imm o.buf sb (atR sr o.a) (atR sr o.b) (atR sr o.c) with
   | none=>exact ⟨fun _=>rfl,fun s' h=>by cases h⟩
   | some v =>
     obtain ⟨d,e,pl,bufs⟩:=v
     refine ⟨fun h=>(by cases h),fun s' h=>?_⟩
     cases h
     refine ⟨_,rfl,rfl,rfl,rfl,⟨?_,?_,fun x s hs g1 g2 g3=>?_⟩,fun hf=>?_⟩
     · simp only [putR_len];exact hr.len
     · simp only [putR_len];exact hr.len'
     · simp only at g2 g3 ⊢
       have hxl:=(List.getElem?_eq_some_iff.1 hs).1
       have base:(x:Int)≠o.d→(x:Int)≠o.e→sr.getD x 0=tr.getD (nm x) 0:=fun n1 n2=>by
         refine hr.eq x s hs g1 ?_ (by omega)
         rcases Int.lt_or_le s.1 si with h | h
         · exact h
         · rcases (begun h0 ho hs (by omega)).2 with h2 | h2
           · exact absurd h2 n1
           · exact absurd h2 n2
       have mid:(x:Int)≠o.e→(putR sr o.d d).getD x 0=(putR tr (nmF nm o.d) d).getD (nm x) 0:=fun n2=>by
         by_cases hneg:o.d < 0
         · rw [nmF_neg hneg]
           rw [putR_neg _ _ hneg,putR_neg (k:=-1) _ _ (by decide)]
           exact base (by omega) n2
         · obtain ⟨y,hy⟩:∃ y:Nat,o.d=y:=⟨o.d.toNat,by omega⟩
           obtain ⟨u,hu,hu1,hu2,hu3⟩:=span_has ho (x:=y) (by unfold regsOf;simp [hy]) (by have:=hor.d (by omega);omega)
           rw [hy,nmF_eq]
           exact put_sim hR hsl hr.len' hu hu1 d hs g1 (by omega) (by omega) (fun hne=>base (by rw [hy];omega) n2)
       by_cases hneg:o.e < 0
       · rw [nmF_neg hneg]
         rw [putR_neg _ _ hneg,putR_neg (k:=-1) _ _ (by decide)]
         exact mid (by omega)
       · obtain ⟨y,hy⟩:∃ y:Nat,o.e=y:=⟨o.e.toNat,by omega⟩
         obtain ⟨u,hu,hu1,hu2,hu3⟩:=span_has ho (x:=y) (by unfold regsOf;simp [hy]) (by have:=hor.e (by omega);omega)
         rw [hy,nmF_eq]
         exact put_sim hR (by rw [putR_len];exact hsl) (by rw [putR_len];exact hr.len') hu hu1 e hs g1 (by omega) (by omega) (fun hne=>mid (by rw [hy];omega))
     · obtain ⟨o2,g4,g5,_⟩:=hloop hf
       rw [ho] at g4
       cases g4
       exact absurd g5 h16
theorem sim_fin {D:DoT} {p:LP} {nm:Nat→Nat} {n':Nat} (h0:(checkF p 64).2=0) (hR:RenOk (spansF p) nm n'):∀ (f:Nat) {s t:RS},SimS p nm n' s t →
   (finF D p.ops (endsF p.ops) f s=some none→finF D (p.ops.map (renF nm)) (endsF p.ops) f t=some none) ∧
   ∀ s',finF D p.ops (endsF p.ops) f s=some (some s')→∃ t',finF D (p.ops.map (renF nm)) (endsF p.ops) f t=some (some t')∧s'.bufs=t'.bufs:=by
 intro f
 induction f with
 | zero=>exact fun _=>⟨fun h=>(by cases h),fun s' h=>(by cases h)⟩
 | succ f ih =>
   intro s t h
   simp only [finF,List.length_map,←h.i]
   by_cases hl:p.ops.length≤s.i
   · rw [if_pos hl,if_pos hl]
     exact ⟨fun h=>(by cases h),fun s' h'=>(by cases h';exact ⟨_,rfl,h.bufs⟩)⟩
   rw [if_neg hl,if_neg hl]
   obtain ⟨h1,h2⟩:=sim_step (D:=D) h0 hR h
   cases hs:stepF D p.ops (endsF p.ops) s with
   | none =>
     rw [h1 hs]
     exact ⟨fun _=>rfl,fun s' h=>by cases h⟩
   | some s' =>
     obtain ⟨t',h3,h4⟩:=h2 s' hs
     rw [h3]
     exact ih h4
end Go.Proofs.YtppoiahhaclleaaDoor
namespace Go.Proofs.YtppoiahhaclleaaDoor
open Go.RowKit
set_option maxRecDepth 100000
def fitsF (bs:List Bf) (rows:List (List Nat)) (k:Nat):Bool:=match rows[k]?,bs[k]? with
 | some r,some b=>(r.length:Int) ==(if b.kind=3 then 0 else b.size)
 | _,_=>false
def rowsTo (bs:List Bf) (rows:List (List Nat)):Nat→Bool
 | 0=>true
 | k+1=>rowsTo bs rows k && fitsF bs rows k
def rowsB (bs:List Bf) (rows:List (List Nat)):Bool:=rows.length == bs.length && rowsTo bs rows rows.length
theorem rowsTo_no {bs:List Bf} {rows:List (List Nat)} {k n:Nat} (h:k < n) (hf:fitsF bs rows k=false):rowsTo bs rows n=false:=by
 induction n with
 | zero=>omega
 | succ n ih =>
   unfold rowsTo
   by_cases e:k=n
   · subst e;rw [hf,Bool.and_false]
   · rw [ih (by omega),Bool.false_and]
set_option maxHeartbeats 4000000 in
theorem RRows_any (p:LP) (Ab Ao A:Option Addr) (nb cb no co n c:Nat) (w:World) (a:List (List Nat)) (hp:ProgAt w (fun k=>k < w.heap.size) [.int .i64 p.regs,.slice Ab nb cb,.slice Ao no co] p) (ha:RowsU w (fun k=>k < w.heap.size) (.slice A n c) a) (hn:p.bufs.length≤1000000) :
   Calls Tryd.prog 42 #[.agg #[.int .i64 p.regs,.slice Ab nb cb,.slice Ao no co],.slice A n c] w fun e w'=>e=.returned (.bool (rowsB p.bufs a))∧Below w.heap.size w w':=by
 obtain ⟨W,hW,hbW,hzW,hl_,hr_⟩:=boxed w #[.int .i64 p.regs,.slice Ab nb cb,.slice Ao no co] 25
 have c1:W.cell? ⟨w.heap.size,1,none⟩=some (.slice Ab nb cb):=by rw [hl_];rfl
 have hB:BufsAt W (fun k=>k < W.heap.size) (.slice Ab nb cb) p.bufs:=by
   obtain ⟨vb,vo,h,h1,_⟩:=(prog_next hp hbW).row
   simp only [List.cons.injEq] at h
   rw [h.2.1];exact h1
 have hbl:p.bufs.length=nb:=by obtain ⟨A,c,hv,_⟩:=rows_form hB;cases hv;rfl
 have hal:a.length=n:=by obtain ⟨A,c,hv,_⟩:=ha.form;cases hv;rfl
 have HA:=Lh (ha.next hbW)
 have HBF:=Lh hB
 have HL:=Lh (And.intro hal hbl)
 have HW:=Lh hW
 have HB:=Lh hbW
 have hnb:nb≤1000000:=by omega
 obtain ⟨res,hres⟩:∃ x,rowsB p.bufs a=x:=⟨_,rfl⟩
 rw [hres]
 unfold rowsB at hres
 rw [hal,hbl] at hres
 have HR:=Lh hres
 clear hp ha hB hbl hal hW hbW hzW hl_ hr_ hres hn
 by_cases hnm:n=nb
 · subst hnm
   have q0:((n:Int) !=(n:Int))=false:=by simp
   have HR:=Lh (show rowsTo p.bufs a n=res by have:=HR.out;simpa using this)
   go_enter Tryd.func42,Tryd.ntmps42
   go_upto_region 1 with fail
   rw [←HW.out]
   go_wp2
   go_loopw [5] (fun j wr=>∃ k:Nat,k≤n∧j=.int .i64 k∧Hid (W=wr∧rowsTo p.bufs a k=true)) (fun j _=>n - (intOf j).toNat)
   case atStart=>exact ⟨0,by omega,rfl,Lh ⟨by trivial,rfl⟩⟩
   case round =>
     obtain ⟨k,hk,rfl,HT⟩:=hrel
     obtain rfl:=HT.out.1
     by_cases hlt:k < n
     · have hkd:decide (k < n)=true:=decide_eq_true hlt
       obtain ⟨x,hx⟩:∃ s,a[k]? = some s:=⟨_,List.getElem?_eq_getElem (by have:=HL.out.1;omega)⟩
       obtain ⟨y,hy⟩:∃ s,p.bufs[k]? = some s:=⟨_,List.getElem?_eq_getElem (by have:=HL.out.2;omega)⟩
       obtain ⟨ba,oa,Aa,ca,rfl,hFa,p0,_⟩:=HA.out.at_ hx
       obtain ⟨bb,ob,hAb,hFb,r0,r1,_⟩:=HBF.out.at_ hy
       subst hAb
       have HFT:=Lh (show fitsF p.bufs a k=((x.length:Int) ==(if y.kind=3 then 0 else y.size)) by unfold fitsF;rw [hx,hy])
       obtain ⟨ys,hys⟩:∃ q,y.size=q:=⟨_,rfl⟩
       obtain ⟨yk,hyk⟩:∃ q,y.kind=q:=⟨_,rfl⟩
       rw [hys] at r0 HFT
       rw [hyk] at r1 HFT
       have i0:(0:Int)≤(k:Int):=by omega
       have i1:(k:Int) < (n:Int):=by omega
       clear hx hy hFa hFb hys hyk
       by_cases h3:yk=3
       · have d3:(yk == 3)=true:=by simpa using h3
         have HFT:=Lh (show fitsF p.bufs a k=((x.length:Int) == 0) by rw [HFT.out,if_pos h3])
         clear h3
         cases d4:((x.length:Int) == 0)
         · have d5:((x.length:Int) != 0)=true:=by simp only [bne,d4];rfl
           have HN:=Lh (rowsTo_no (n:=n) hlt (HFT.out.trans d4))
           go_wp2
           go_ret
           exact ⟨ret_bool (by rw [←HR.out,HN.out]),HB.out⟩
         · have d5:((x.length:Int) != 0)=false:=by simp only [bne,d4];rfl
           have HN:=Lh (show rowsTo p.bufs a (k+1)=true by unfold rowsTo;rw [HT.out.2,HFT.out,d4];rfl)
           go_wp2
           go_roundw
           case rel=>exact ⟨k+1,by omega,by go_num,Lh ⟨by trivial,HN.out⟩⟩
           case measure=>simp [intOf];omega
       · have d3:(yk == 3)=false:=by simpa using h3
         have HFT:=Lh (show fitsF p.bufs a k=((x.length:Int) == ys) by rw [HFT.out,if_neg h3])
         clear h3
         cases d4:((x.length:Int) == ys)
         · have d5:((x.length:Int) != ys)=true:=by simp only [bne,d4];rfl
           have HN:=Lh (rowsTo_no (n:=n) hlt (HFT.out.trans d4))
           go_wp2
           go_ret
           exact ⟨ret_bool (by rw [←HR.out,HN.out]),HB.out⟩
         · have d5:((x.length:Int) != ys)=false:=by simp only [bne,d4];rfl
           have HN:=Lh (show rowsTo p.bufs a (k+1)=true by unfold rowsTo;rw [HT.out.2,HFT.out,d4];rfl)
           go_wp2
           go_roundw
           case rel=>exact ⟨k+1,by omega,by go_num,Lh ⟨by trivial,HN.out⟩⟩
           case measure=>simp [intOf];omega
     · have hkn:k=n:=by omega
       have HN:=Lh (show rowsTo p.bufs a n=true by rw [←hkn];exact HT.out.2)
       have hkd:decide (k < n)=false:=decide_eq_false hlt
       go_wp2
       go_ret
       exact ⟨ret_bool (by rw [←HR.out,HN.out]),HB.out⟩
 · have q0:((n:Int) !=(nb:Int))=true:=by simp;omega
   have HR:=Lh (show res=false by rw [←HR.out,show (n == nb)=false by simpa using hnm,Bool.false_and])
   clear hnm
   go_enter Tryd.func42,Tryd.ntmps42
   go_upto_region 1 with fail
   rw [←HW.out]
   go_wp2
   go_ret
   exact ⟨ret_bool (by rw [HR.out]),HB.out⟩
end Go.Proofs.YtppoiahhaclleaaDoor
namespace Go.Proofs.YtppoiahhaclleaaDoor
open Go.ChangeShapes Go.WideShapes Go.Deep Go.RowKit
set_option maxRecDepth 100000
theorem open_us {H:Type} {enc:TypeId×Value→H} {w:World} {A:Option Addr} {n c:Nat} {d:DataW H} {ps:List MemPlace} (h:DataW.Trod enc Tryd.prog w 0 (fun _=>true) true 65 (.slice A n c) d ps) :
   ∃ l:List Nat,UsAt w (fun k=>k < w.heap.size) (.slice A n c) l∧(∀ x∈l,x < 18446744073709551616)∧l.length≤9223372036854775807 :=
 open_rows (fun x:Nat=>[Value.int .u64 x]) (fun x:Nat=>x < 18446744073709551616) Tryd.underlying65 (by kernel_rfl) (by decide) (fun _=>rfl) (fun fuel cs y ht _=>by
   obtain ⟨z,hz,h2⟩:=trod_u64 ht
   exact ⟨z,hz,h2⟩) h
theorem open_rowsA {H:Type} {enc:TypeId×Value→H} {w:World} {A:Option Addr} {n c:Nat} {d:DataW H} {ps:List MemPlace} (h:DataW.Trod enc Tryd.prog w 0 (fun _=>true) true 26 (.slice A n c) d ps) :
   ∃ l:List (List Nat),RowsU w (fun k=>k < w.heap.size) (.slice A n c) l∧(∀ r∈l,(∀ x∈r,x < 18446744073709551616)∧r.length≤9223372036854775807)∧l.length≤9223372036854775807:=by
 obtain ⟨P,h1,h2,h3⟩:=open_rows (fun x:Value×List Nat=>[x.1]) (fun x:Value×List Nat=>UsAt w (fun k=>k < w.heap.size) x.1 x.2∧(∀ y∈x.2,y < 18446744073709551616)∧x.2.length≤9223372036854775807) Tryd.underlying26 (by kernel_rfl) (by decide) (fun _=>rfl) (fun fuel cs y ht hl=>by
   match cs,hl with
   | [c0],_ =>
     obtain ⟨A',n',c',rfl⟩:=trod_form Tryd.underlying65 ht
     obtain ⟨l,g1,g2,g3⟩:=open_us (d:=y.1) (ps:=y.2) ⟨fuel,ht⟩
     exact ⟨(_,l),rfl,g1,g2,g3⟩) h
 refine ⟨P.map (·.2),⟨P.map (·.1),by simp,by rw [List.map_map];exact h1,fun i r u hr hu=>?_⟩,fun r hr=>?_,by simpa using h3⟩
 · rw [List.getElem?_map] at hr hu
   cases hp:P[i]? with
   | none=>rw [hp] at hr;cases hr
   | some x =>
     rw [hp] at hr hu
     cases hr;cases hu
     exact (h2 x (List.mem_of_getElem? hp)).1
 · obtain ⟨x,hx,rfl⟩:=List.mem_map.1 hr
   exact (h2 x hx).2
set_option maxHeartbeats 400000 in
theorem bit_any (b:Bool) (w:World):Calls Tryd.prog 61 #[.bool b] w fun e w'=>e=.returned (.int .u64 (b.toNat:Nat))∧w=w':=by
 cases b <;>
 · go_enter Tryd.func61,Tryd.ntmps61
   go_wp2
   go_ret
   exact ⟨rfl,rfl⟩
def nameF (l:List Int) (r:Int):Int:=if r < 0 then -1 else l.getD r.toNat 0
set_option maxHeartbeats 400000 in
theorem name_any (A:Option Addr) (n c:Nat) (l:List Int) (r:Int) (w:World) (F:Nat→Prop) (hl:NumsAt w F (.slice A n c) l) (hr:r < l.length) :
   Calls Tryd.prog 17 #[.slice A n c,.int .i64 r] w fun e w'=>e=.returned (.int .i64 (nameF l r))∧w=w':=by
 have hn:l.length=n:=by obtain ⟨A,c,hv,_⟩:=rows_form hl;cases hv;rfl
 by_cases h0:r < 0
 · have d0:decide (r < (0:Int))=true:=decide_eq_true h0
   have HN:=Lh (show nameF l r = -1 by unfold nameF;rw [if_pos h0])
   clear hl hr hn h0
   go_enter Tryd.func17,Tryd.ntmps17
   go_wp2
   go_ret
   exact ⟨by rw [HN.out];rfl,rfl⟩
 · have d0:decide (r < (0:Int))=false:=decide_eq_false h0
   obtain ⟨k,rfl⟩:∃ k:Nat,r=k:=⟨r.toNat,by omega⟩
   obtain ⟨x,hx⟩:∃ x,l[k]? = some x:=⟨_,List.getElem?_eq_getElem (by omega)⟩
   obtain ⟨b,o,rfl,_,hc⟩:=hl.at_ hx
   have HN:=Lh (show nameF l (k:Int)=x by unfold nameF;rw [if_neg h0,Int.toNat_natCast,List.getD_eq_getElem?_getD,hx];rfl)
   have i0:(0:Int)≤(k:Int):=by omega
   have i1:(k:Int) < (n:Int):=by omega
   clear hl hr hn h0 hx
   go_enter Tryd.func17,Tryd.ntmps17
   go_wp2
   go_ret
   exact ⟨by rw [HN.out];rfl,rfl⟩
end Go.Proofs.YtppoiahhaclleaaDoor
namespace Go.Proofs.YtppoiahhaclleaaDoor
open Go.RowKit
def usV (l:List Nat):List Value:=l.map fun x:Nat=>Value.int .u64 x
def refV (gs:List Nat) (bufs:List (List Nat)):List Value:=List.zipWith (fun (g:Nat) (r:List Nat)=>Value.slice (some ⟨g,0,none⟩) r.length r.length) gs bufs
def evV (l:List (Int×Int)):List Value:=(l.map fun e=>[Value.int .i64 e.1,Value.int .i64 e.2]).flatten
def bufR (gs:List Nat) (bufs:List (List Nat)):List Res:=List.zipWith (fun (g:Nat) (r:List Nat)=>boxR g 45 (usV r)) gs bufs
def runRow (regs:Int) (vb vo:Value) (gr:Nat) (vB vl:Value) (r:List Nat):List Value:=[.int .i64 regs,vb,vo,.slice (some ⟨gr,0,none⟩) r.length r.length,vB,vl]
structure RunAt (B:Nat) (w0:World) (F0:Nat→Prop) (w:World) (bx gr:Nat) (regs:Int) (vb vo vB:Value) (gs:List Nat) (vl:Value) (r:List Nat) (bufs:List (List Nat)) (l:List (Int×Int)):Prop where
 len:gs.length=bufs.length
 base:B≤w0.heap.size
 sep:Sep w0 F0 w (boxR bx 82 (runRow regs vb vo gr vB vl r) :: boxR gr 45 (usV r) :: rowR B 65 1 gs.length vB (refV gs bufs) :: rowR B 84 2 l.length vl (evV l) :: bufR gs bufs)
section
variable {B:Nat} {F0:Nat→Prop} {w0 w w':World} {bx gr:Nat} {regs:Int} {vb vo vB vl:Value} {gs:List Nat} {r:List Nat} {bufs:List (List Nat)} {l:List (Int×Int)}
theorem RunAt.next (h:RunAt B w0 F0 w bx gr regs vb vo vB gs vl r bufs l) (hb:Below w.heap.size w w'):RunAt B w0 F0 w' bx gr regs vb vo vB gs vl r bufs l:=⟨h.len,h.base,h.sep.next hb⟩
theorem RunAt.below (h:RunAt B w0 (fun _=>False) w bx gr regs vb vo vB gs vl r bufs l):Below w0.heap.size w0 w:=h.sep.below
theorem RunAt.size (h:RunAt B w0 F0 w bx gr regs vb vo vB gs vl r bufs l):B≤w.heap.size:=Nat.le_trans h.base h.sep.size
theorem RunAt.box (h:RunAt B w0 F0 w bx gr regs vb vo vB gs vl r bufs l) (k:Nat) {v:Value} (hv:(runRow regs vb vo gr vB vl r)[k]? = some v):w.cell? ⟨bx,k,none⟩=some v:=h.sep.cell 0 k rfl hv
theorem usV_at {l:List Nat} {k x:Nat} (h:l[k]? = some x):(usV l)[k]? = some (Value.int .u64 (x:Nat)):=by unfold usV;rw [List.getElem?_map,h];rfl
theorem RunAt.reg (h:RunAt B w0 F0 w bx gr regs vb vo vB gs vl r bufs l) {k x:Nat} (hx:r[k]? = some x):w.cell? ⟨gr,k,none⟩=some (.int .u64 (x:Nat)):=h.sep.cell 1 k rfl (usV_at hx)
theorem RunAt.lt (h:RunAt B w0 F0 w bx gr regs vb vo vB gs vl r bufs l):bx < w.heap.size∧gr < w.heap.size:=⟨h.sep.lt _ List.mem_cons_self bx rfl,h.sep.lt _ (List.mem_cons_of_mem _ List.mem_cons_self) gr rfl⟩
theorem zip_at {α β γ:Type} {f:α→β→γ} {xs:List α} {ys:List β} {k:Nat} {a:α} {b:β} (ha:xs[k]? = some a) (hb:ys[k]? = some b):(List.zipWith f xs ys)[k]? = some (f a b):=by
 rw [List.getElem?_zipWith,ha,hb]
theorem RunAt.ref (h:RunAt B w0 F0 w bx gr regs vb vo vB gs vl r bufs l) {k:Nat} {row:List Nat} (hx:bufs[k]? = some row):∃ gB c g,vB=.slice (some ⟨gB,0,none⟩) bufs.length c∧bufs.length≤c∧gs[k]? = some g∧w.cell? ⟨gB,k,none⟩=some (.slice (some ⟨g,0,none⟩) row.length row.length)∧B≤gB:=by
 have hk:=(List.getElem?_eq_some_iff.1 hx).1
 obtain ⟨g,hg⟩:∃ g,gs[k]? = some g:=⟨_,List.getElem?_eq_getElem (by rw [h.len];exact hk)⟩
 have ho:w.ownsRow B 65 1 vB gs.length (refV gs bufs):=h.sep.get 2 rfl
 have hf:refV gs bufs=((refV gs bufs).map fun v=>[v]).flatten:=by
   generalize refV gs bufs=L
   induction L with
   | nil=>rfl
   | cons a l ih=>simp only [List.map_cons,List.flatten_cons,←ih];rfl
 rw [hf] at ho
 obtain ⟨gB,c,hv,hge,hc,hrow⟩:=rowsBlk_of_own ho (by intro r hr;obtain ⟨x,_,rfl⟩:=List.mem_map.1 hr;rfl) (by rw [h.len];omega)
 have hz:((refV gs bufs).map fun v=>[v])[k]? = some [Value.slice (some ⟨g,0,none⟩) row.length row.length]:=by
   rw [List.getElem?_map,show (refV gs bufs)[k]? = _ from zip_at hg hx];rfl
 have hc2:=hrow.cell (j:=0) hz rfl
 rw [h.len] at hv hc
 exact ⟨gB,c,g,hv,hc,hg,by simpa using hc2,hge⟩
theorem RunAt.buf (_h:RunAt B w0 F0 w bx gr regs vb vo vB gs vl r bufs l) {k g:Nat} {row:List Nat} (hx:bufs[k]? = some row) (hg:gs[k]? = some g):(boxR bx 82 (runRow regs vb vo gr vB vl r) :: boxR gr 45 (usV r) :: rowR B 65 1 gs.length vB (refV gs bufs) :: rowR B 84 2 l.length vl (evV l) :: bufR gs bufs)[k+4]? = some (boxR g 45 (usV row)):=by
 show (bufR gs bufs)[k]? = _
 exact zip_at hg hx
theorem RunAt.limb (h:RunAt B w0 F0 w bx gr regs vb vo vB gs vl r bufs l) {k g j x:Nat} {row:List Nat} (hx:bufs[k]? = some row) (hg:gs[k]? = some g) (hj:row[j]? = some x):w.cell? ⟨g,j,none⟩=some (.int .u64 (x:Nat)) :=
 h.sep.cell (k+4) j (h.buf hx hg) (usV_at hj)
theorem usV_set (l:List Nat) (k x:Nat):(usV l).set k (Value.int .u64 (x:Nat))=usV (l.set k x):=by unfold usV;rw [List.map_set]
theorem RunAt.setReg (h:RunAt B w0 F0 w bx gr regs vb vo vB gs vl r bufs l) (k x:Nat):RunAt B w0 F0 (w.setCell ⟨gr,k,none⟩ (.int .u64 (x:Nat))) bx gr regs vb vo vB gs vl (r.set k x) bufs l:=by
 refine ⟨h.len,h.base,?_⟩
 have h1:=h.sep.setCell 1 rfl k (.int .u64 (x:Nat)) (usV_set r k x)
 have e:runRow regs vb vo gr vB vl (r.set k x)=runRow regs vb vo gr vB vl r:=by unfold runRow;rw [List.length_set]
 rw [e]
 exact h1
theorem zip_set {α β γ:Type} {f:α→β→γ} (xs:List α) (ys:List β) {k:Nat} {a:α} (ha:xs[k]? = some a) (b:β):List.zipWith f xs (ys.set k b)=(List.zipWith f xs ys).set k (f a b):=by
 refine List.ext_getElem? fun i=>?_
 rw [List.getElem?_zipWith,List.getElem?_set,List.getElem?_set,List.getElem?_zipWith,List.length_zipWith]
 have hk:=(List.getElem?_eq_some_iff.1 ha).1
 by_cases e:k=i
 · subst e
   rw [if_pos rfl,if_pos rfl,ha]
   by_cases h:k < ys.length
   · rw [if_pos h,if_pos (by omega)]
   · rw [if_neg h,if_neg (by omega)]
 · rw [if_neg e,if_neg e]
theorem RunAt.setLimb (h:RunAt B w0 F0 w bx gr regs vb vo vB gs vl r bufs l) {k g:Nat} {row:List Nat} (hx:bufs[k]? = some row) (hg:gs[k]? = some g) (j x:Nat):RunAt B w0 F0 (w.setCell ⟨g,j,none⟩ (.int .u64 (x:Nat))) bx gr regs vb vo vB gs vl r (bufs.set k (row.set j x)) l:=by
 refine ⟨by rw [List.length_set];exact h.len,h.base,?_⟩
 have h1:=h.sep.setCell (k+4) (h.buf hx hg) j (.int .u64 (x:Nat)) (usV_set row j x)
 have e1:refV gs (bufs.set k (row.set j x))=refV gs bufs:=by
   unfold refV
   rw [zip_set gs bufs hg]
   refine List.ext_getElem? fun i=>?_
   rw [List.getElem?_set]
   by_cases e:k=i
   · subst e
     rw [if_pos rfl,zip_at hg hx]
     split
     · rw [List.length_set]
     · rename_i hn
       exact absurd (List.getElem?_eq_some_iff.1 (zip_at (f:=fun (g:Nat) (r:List Nat)=>Value.slice (some ⟨g,0,none⟩) r.length r.length) hg hx)).1 hn
   · rw [if_neg e]
 have e2:bufR gs (bufs.set k (row.set j x))=(bufR gs bufs).set k (boxR g 45 (usV (row.set j x))):=zip_set gs bufs hg _
 rw [e1,e2]
 exact h1
theorem RunAt.event (h:RunAt B w0 F0 w bx gr regs vb vo vB gs vl r bufs l) {v':Value} {x:Int×Int} (ho:w'.ownsRow B 84 2 v' (l.length+1) (evV l++[.int .i64 x.1,.int .i64 x.2])) (hg:w.grownBy w' vl.ownBlock) (hn:∀ k,v'.ownBlock=some k→vl.ownBlock=some k∨w.heap.size≤k) :
   RunAt B w0 F0 (w'.setCell ⟨bx,5,none⟩ v') bx gr regs vb vo vB gs v' r bufs (l++[x]):=by
 refine ⟨h.len,h.base,?_⟩
 have e:evV (l++[x])=evV l++[.int .i64 x.1,.int .i64 x.2]:=by unfold evV;simp
 have h1:=h.sep.grown 3 rfl (show w'.ownsRow B 84 2 v' (l++[x]).length (evV (l++[x])) by rw [e];simpa using ho) hg hn
 exact h1.setCell 0 rfl 5 v' rfl
end
set_option maxHeartbeats 400000 in
theorem at_run {B:Nat} {F0:Nat→Prop} {w0:World} {bx gr:Nat} {regs:Int} {vb vo vB vl:Value} {gs:List Nat} {r:List Nat} {bufs:List (List Nat)} {l:List (Int×Int)} (k:Int) (w:World) (h:RunAt B w0 F0 w bx gr regs vb vo vB gs vl r bufs l) (hk:k < r.length) :
   Calls Tryd.prog 58 #[.pointer (some ⟨bx,0,none⟩),.int .i64 k] w fun e w'=>e=.returned (.int .u64 (atR r k:Nat))∧w=w':=by
 by_cases h0:k < 0
 · have d0:decide (k < (0:Int))=true:=decide_eq_true h0
   have HN:=Lh (atR_neg r h0)
   clear h hk h0
   go_enter Tryd.func58,Tryd.ntmps58
   go_wp2
   go_ret
   exact ⟨by rw [HN.out];rfl,rfl⟩
 · have d0:decide (k < (0:Int))=false:=decide_eq_false h0
   obtain ⟨n,rfl⟩:∃ n:Nat,k=n:=⟨k.toNat,by omega⟩
   obtain ⟨x,hx⟩:∃ x,r[n]? = some x:=⟨_,List.getElem?_eq_getElem (by omega)⟩
   have c3:w.cell? ⟨bx,3,none⟩=some (.slice (some ⟨gr,0,none⟩) r.length r.length):=h.box 3 rfl
   have cx:=h.reg hx
   have HN:=Lh (show atR r (n:Int)=x by rw [atR_nat,List.getD_eq_getElem?_getD,hx];rfl)
   obtain ⟨rl,hrl⟩:∃ q,r.length=q:=⟨_,rfl⟩
   rw [hrl] at c3 hk
   have i0:(0:Int)≤(n:Int):=by omega
   have i1:(n:Int) < (rl:Int):=by omega
   clear h hk h0 hx hrl
   go_enter Tryd.func58,Tryd.ntmps58
   go_wp2
   go_ret
   exact ⟨by rw [HN.out];rfl,rfl⟩
end Go.Proofs.YtppoiahhaclleaaDoor
