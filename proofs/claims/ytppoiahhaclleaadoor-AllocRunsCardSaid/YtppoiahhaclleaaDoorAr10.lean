/- Part 10 of a claim; what it proves stands in its last text. -/
import Derived.Test.YtppoiahhaclleaaDoorAr6
import Derived.Test.YtppoiahhaclleaaDoorAr9
import Derived.Laws.CopyRow
import Derived.Laws.MakeOwn
namespace Go.Proofs.YtppoiahhaclleaaDoor
open Go.RowKit
set_option maxRecDepth 100000
theorem run_copyR {w:World} (sz:Nat) (t ty e:TypeId) (hu:Tryd.prog.underlying t=some (.slice e)) (hi:(Tryd.prog.info? e).map (·.size)=some sz)
   {g g2 off off2 dLen dCap sLen sCap:Nat} (cur:Array Value) (t':TypeId) (hg:w.heap[g]? = some (.cells cur t' (0,0)))
   (cs:List Value) (hcs:cs.length=Nat.min sLen dLen*sz) (hsrc:∀ j v,cs[j]? = some v→w.cell? ⟨g2,off2+j,none⟩=some v) (hfit:off+cs.length≤cur.size) (h1:∀ v∈cs,v.oneCell'=true) :
   (Builtin.copy_ #[t,t] ty #[.slice (some ⟨g,off,none⟩) dLen dCap,.slice (some ⟨g2,off2,none⟩) sLen sCap]).run Tryd.prog w=.ok (.int .i64 (Nat.min sLen dLen:Nat)) (w.setRow g (cur.toList.take off++cs++cur.toList.drop (off+cs.length)).toArray):=by
 have hl:=run_loadCells_list (P:=Tryd.prog) w ⟨g2,off2,none⟩ cs (fun j v hv=>by rw [sep_add];exact hsrc j v hv)
 have hst:=run_storeCells_at Tryd.prog g off t' cs 0 cur w hg (by simpa using hfit) h1
 cases hq:Tryd.prog.info? e with
 | none=>simp [hq] at hi
 | some i =>
   have hi':i.size=sz:=by simpa [hq] using hi
   have hl':(loadCells ⟨g2,off2,none⟩ (Nat.min sLen dLen*sz)).run Tryd.prog w=.ok cs.toArray w:=by rw [←hcs];exact hl
   simp [Builtin.copy_,run_underlying hu,Builtin.lenOf,Builtin.firstCells,sizeOf,typeInfo,hq,hi',hl',hst,goInt]
theorem exec_copy {o:Oper} {a:Act} {w w':World} (d s:Operand) (t:TypeId) {vd vs r:Value} (hr:(Builtin.copy_ #[t,t] o.type #[vd,vs]).run Tryd.prog w=.ok r w') (ho:o.op=.call { callee:=.builtin .copy,args:=#[d,s],argTypes:=#[t,t] }) (hd:a.eval d=vd) (hs:a.eval s=vs) :
   (execOp a.eval o).run Tryd.prog w=.ok (.value r) w':=by
 unfold execOp
 simp only [ho,resolve,invoke,builtin,hd,hs,List.map_toArray,List.map_cons,List.map_nil,Sem.run_bind,hr,Result.andThen_ok,Sem.run_pure]
def repV (x:List Value) (n:Nat):List Value:=(List.replicate n x).flatten
theorem repV_len (x:List Value) (n:Nat):(repV x n).length=n*x.length:=by simp [repV]
theorem repV_add (x:List Value) (m n:Nat):repV x (m+n)=repV x m++repV x n:=by unfold repV;rw [←List.replicate_append_replicate,List.flatten_append]
theorem repV_take (x:List Value) {m n:Nat} (h:m≤n):(repV x n).take (m*x.length)=repV x m:=by
 obtain ⟨d,rfl⟩:=Nat.exists_eq_add_of_le h
 rw [repV_add,←repV_len,List.take_left]
theorem infoSp:(Tryd.prog.info? 68).map (fun i=>(i.zero,i.size,i.bytes))=some (some (.agg #[.int .i64 0,.int .i64 0]),2,16):=by kernel_rfl
theorem repV_grow (x rest:List Value) (k m:Nat) (sz:Nat) (hx:x.length=sz):(repV x k++rest).take (k*sz)++repV x m++(repV x k++rest).drop (k*sz+(repV x m).length)=repV x (k+m)++rest.drop (m*sz):=by
 subst hx
 rw [repV_add,repV_len,←repV_len x k,List.take_left,List.append_assoc,List.append_assoc]
 congr 2
 rw [List.drop_append,List.drop_of_length_le (by omega)]
 simp
theorem make_Int (n:Nat) (hn:n≤65536) (w:World):∃ zs:Array Value,zs.size=n*1∧(Instr.makeSlice 35 (.int .i64 n) (.int .i64 n)).run Tryd.prog w=.ok (.slice (some ⟨w.heap.size,0,none⟩) n n) (w.alloc (.cells zs 3)):=by
 obtain ⟨i0,hi,hz0,hz1,hz2⟩:=info_parts infoI
 have h:=run_make (P:=Tryd.prog) w 35 3 i0 (.int .i64 0) Tryd.underlying35 hi hz0 .i64 .i64 n n (by omega) (by omega) (by rw [hz2];omega) (by omega)
 rw [hz1] at h
 simp only [Int.toNat_natCast] at h
 exact ⟨_,size_madeCells _ _,h⟩
set_option maxHeartbeats 4000000 in
theorem Repeat_Int (x:List Value) (hxl:x.length=1) (h1:∀ v∈x,v.oneCell'=true) (g0 o0 c0 n:Nat) (hn:n≤65536) (w:World) (hg0:g0 < w.heap.size) (hx:∀ j v,x[j]? = some v→w.cell? ⟨g0,o0+j,none⟩=some v) :
   Calls Tryd.prog 84 #[.slice (some ⟨g0,o0,none⟩) 1 c0,.int .i64 n] w fun e w'=>e=.returned (.slice (some ⟨w.heap.size,0,none⟩) n n)∧w'.heap[w.heap.size]? = some (.cells (repV x n).toArray 3 (0,0))∧Below w.heap.size w w':=by
 obtain ⟨zs,hzs,hmk⟩:=make_Int n hn w
 have hone:∀ k,∀ v∈repV x k,v.oneCell'=true:=fun k v hv=>by
   unfold repV at hv
   rw [List.mem_flatten] at hv
   obtain ⟨l,hl,hvl⟩:=hv
   rw [(List.mem_replicate.1 hl).2] at hvl
   exact h1 v hvl
 have hmul:=Tryd.bits_Mul 1 n (by omega) (by omega)
 have e1:(1*n / 18446744073709551616:Nat)=0:=Nat.div_eq_of_lt (by omega)
 have e2:(1*n % 18446744073709551616:Nat)=n:=by rw [Nat.mod_eq_of_lt (by omega),Nat.one_mul]
 rw [e1,e2] at hmul
 have HMUL:=Lh (show ∀ w,Calls Tryd.prog 70 #[.int .u64 1,.int .u64 (n:Int)] w fun e w'=>e=.returned (.tuple #[.int .u64 0,.int .u64 (n:Int)])∧w'=w from hmul)
 have w1:IntKind.u64.wrap (n:Int)=n:=by simp [IntKind.wrap,IntKind.bits,IntKind.signed];omega
 have w2:IntKind.i64.wrap (n:Int)=n:=by simp [IntKind.wrap,IntKind.bits,IntKind.signed];omega
 have d0:decide ((n:Int) < 0)=false:=decide_eq_false (by omega)
 have d1:decide ((9223372036854775807:Int) < (n:Int))=false:=decide_eq_false (by omega)
 obtain ⟨W,hW⟩:∃ W,W=w.alloc (.cells zs 3):=⟨_,rfl⟩
 have hbW:Below w.heap.size w W:=by rw [hW];exact (Below.refl _ _).alloc (Nat.le_refl _) _
 have hg:W.heap[w.heap.size]? = some (.cells zs 3 (0,0)):=by rw [hW];exact heap_alloc_new w _
 obtain ⟨g,hgg⟩:∃ g,w.heap.size=g:=⟨_,rfl⟩
 have HG:=Lh hgg
 rw [hgg] at hg hmk hbW hg0
 rw [←hW] at hmk
 have HMK:=Lh hmk
 have HGB:=Lh hg
 have HBW:=Lh hbW
 have HX:=Lh hx
 have HXL:=Lh hxl
 have HZ:=Lh hzs
 have HONE:=Lh hone
 have HG0:=Lh hg0
 clear hmul hW hmk hbW hg hzs e1 e2 hgg hx hxl hone hg0 h1
 rw [HG.out]
 go_enter Tryd.func84,Tryd.ntmps84
 go_upto_region 6 with ((with_reducible refine (HMUL.out _).mono ?_);rintro e w_ ⟨rfl,hw_⟩;obtain rfl:=hw_.symm)
 have hmk:=HMK.out
 go_upto_region 7 with fail
 have HM0:=Lh (show Nat.min 1 n≤n∧(n=0∨1≤Nat.min 1 n)∧Nat.min 1 n≤1 from ⟨Nat.min_le_right _ _,by by_cases h:n=0;exact .inl h;exact .inr (Nat.le_min.2 ⟨Nat.le_refl _,by omega⟩),Nat.min_le_left _ _⟩)
 obtain ⟨m0,hm0⟩:∃ m,Nat.min 1 n=m:=⟨_,rfl⟩
 rw [hm0] at HM0
 have hlen0:(repV x m0).length=m0*1:=by rw [repV_len,HXL.out]
 have hex:(Builtin.copy_ #[35,35] 3 #[.slice (some ⟨g,0,none⟩) n n,.slice (some ⟨g0,o0,none⟩) 1 c0]).run Tryd.prog W=.ok (.int .i64 (m0:Nat)) (W.setRow g (repV x m0++zs.toList.drop (m0*1)).toArray):=by
   have h:=run_copyR (w:=W) (g:=g) (g2:=g0) (off:=0) (off2:=o0) (dLen:=n) (dCap:=n) (sLen:=1) (sCap:=c0) 1 35 3 3 Tryd.underlying35 (by kernel_rfl) zs 3 HGB.out (repV x m0) (by rw [hm0,hlen0]) (fun j v hv=>by
     have hj:j < (repV x m0).length:=(List.getElem?_eq_some_iff.1 hv).1
     have hm1:m0=1:=by have:=HM0.out;rw [hlen0] at hj;by_cases h:m0=0;(rw [h] at hj;omega);omega
     rw [hm1] at hv
     rw [HBW.out.cell (p:=⟨g0,o0+j,none⟩) HG0.out]
     exact HX.out j v (by simpa [repV] using hv)) (by rw [hlen0,HZ.out];have:=HM0.out.1;omega) (HONE.out m0)
   rw [hm0,hlen0] at h
   simpa using h
 obtain ⟨W1,hW1⟩:∃ q,q=W.setRow g (repV x m0++zs.toList.drop (m0*1)).toArray:=⟨_,rfl⟩
 rw [←hW1] at hex
 have HS1:=Lh (show W1.heap[g]? = some (.cells (repV x m0++zs.toList.drop (m0*1)).toArray 3 (0,0)) by rw [hW1];exact setRow_heap _ _ _ _ _ _ HGB.out)
 have HB1:=Lh (show Below g w W1 by rw [hW1];exact HBW.out.trans ⟨rfl,rfl,rfl,by simp,fun k hk=>setRow_other _ _ _ _ (fun e=>by omega)⟩)
 have HL0:=Lh (show (repV x m0++zs.toList.drop (m0*1)).length=n*1 by
   rw [List.length_append,List.length_drop,hlen0,Array.length_toList,HZ.out]
   have:=HM0.out.1
   omega)
 clear hW1 hmk hm0 hlen0
 go_wp2
 clear hex d0 d1 w1 w2
 go_loopw [8] (fun i wr=>∃ (k:Nat) (rest:List Value),k≤n∧(n=0∨1≤k)∧i=.int .i64 k∧(repV x k++rest).length=n*1∧wr.heap[g]? = some (.cells (repV x k++rest).toArray 3 (0,0))∧Below g w wr) (fun i _=>n - (intOf i).toNat)
 case atStart=>exact ⟨m0,_,HM0.out.1,HM0.out.2.1,rfl,HL0.out,HS1.out,HB1.out⟩
 case round =>
   obtain ⟨k,rest,hk,hk1,rfl,hlen,hblk,hbel⟩:=hrel
   have HLEN:=Lh hlen
   have HBLK:=Lh hblk
   have HBEL:=Lh hbel
   have HK1:=Lh hk1
   clear hlen hblk hbel hk1
   by_cases hlt:k < n
   · have i0:(0:Int)≤(k:Int):=by omega
     have i1:(k:Int)≤(n:Int):=by omega
     have d1:decide (k < n)=true:=decide_eq_true hlt
     obtain ⟨m,hm⟩:∃ m,Nat.min k (n - k)=m:=⟨_,rfl⟩
     have hmk:m≤k∧m≤n - k∧1≤m:=by
       have h1:Nat.min k (n - k)≤k:=Nat.min_le_left k (n - k)
       have h2:Nat.min k (n - k)≤n - k:=Nat.min_le_right k (n - k)
       have h3:1≤Nat.min k (n - k):=Nat.le_min.2 ⟨by have:=HK1.out;omega,by omega⟩
       rw [hm] at h1 h2 h3
       exact ⟨by omega,by omega,by omega⟩
     have HM:=Lh hmk
     have HMM:=Lh hm
     have hwr:IntKind.i64.wrap ((k:Int)+(m:Int))=(k:Int)+(m:Int):=by simp [IntKind.wrap,IntKind.bits,IntKind.signed];omega
     have hlr:(repV x m).length=m*1:=by rw [repV_len,HXL.out]
     have hlk:(repV x k).length=k*1:=by rw [repV_len,HXL.out]
     have hcp:=run_copyR (w:=wr.drew) (g:=g) (g2:=g) (off:=k) (off2:=0) (dLen:=n - k) (dCap:=n - k) (sLen:=k) (sCap:=n) 1 35 3 3 Tryd.underlying35 (by kernel_rfl) (repV x k++rest).toArray 3 HBLK.out (repV x m) (by rw [hm,hlr]) (fun j v hv=>by
       have hj:j < (repV x m).length:=(List.getElem?_eq_some_iff.1 hv).1
       have hv2:(repV x k)[j]? = some v:=by rw [←repV_take x hmk.1,List.getElem?_take] at hv;split at hv;exact hv;cases hv
       show World.cell? wr ⟨g,0+j,none⟩=some v
       rw [Nat.zero_add]
       exact cell_row HBLK.out (by rw [List.getElem?_append_left (by rw [hlk];rw [hlr] at hj;have:=hmk.1;omega)];exact hv2)) (by rw [hlr];simp only [List.size_toArray,HLEN.out];have:=hmk.2.1;omega) (HONE.out m)
     have hgrow:((repV x k++rest).toArray.toList.take (k)++repV x m++(repV x k++rest).toArray.toList.drop (k+(repV x m).length))=repV x (k+m)++rest.drop (m*1):=by
       have:=repV_grow x rest k m 1 HXL.out
       simpa using this
     rw [hgrow,hm] at hcp
     obtain ⟨W2,hW2⟩:∃ q,q=wr.drew.setRow g (repV x (k+m)++rest.drop (m*1)).toArray:=⟨_,rfl⟩
     rw [←hW2] at hcp
     have HCP:=Lh hcp
     have HS2:=Lh (show W2.heap[g]? = some (.cells (repV x (k+m)++rest.drop (m*1)).toArray 3 (0,0)) by rw [hW2];exact setRow_heap wr.drew _ _ _ _ _ HBLK.out)
     have HB2:=Lh (show Below g w W2 by rw [hW2];exact HBEL.out.drew.trans ⟨rfl,rfl,rfl,by simp,fun k hk=>setRow_other _ _ _ _ (fun e=>by omega)⟩)
     have HL2:=Lh (show (repV x (k+m)++rest.drop (m*1)).length=n*1 by
       have:=HLEN.out
       rw [List.length_append,List.length_drop,repV_len,HXL.out]
       rw [List.length_append,hlk] at this
       have:=hmk.2.1
       omega)
     have hnk:(n=k)=False:=by simp;omega
     clear hm hmk hcp hW2 hgrow hlr hlk
     go_upto_region 9 with fail
     (refine wp_region_lines (fun _=>True) (by kernel_rfl) (by kernel_rfl) trivial ?_)
     (try simp only [])
     repeat (first | (refine runL_no (by rfl) ?_;(try simp only [Act.put,List.setIfInBounds_toArray,List.set_cons_zero,List.set_cons_succ])) | (refine runL_val (v:=?_) (by rfl) ?_ ?_;rotate_left;(focus (intro w_ hw_;skip;go_simp;(try with_reducible rfl);done));(try simp only [Act.put,List.setIfInBounds_toArray,List.set_cons_zero,List.set_cons_succ])) | (refine runL_op (v:=.int .i64 (m:Nat)) (w1:=W2) (by rfl) (by rfl) (exec_copy _ _ 35 HCP.out rfl rfl rfl) (.inr trivial) ?_;(try simp only [Act.put,List.setIfInBounds_toArray,List.set_cons_zero,List.set_cons_succ])))
     (refine runL_nil ?_)
     clear hnk
     go_wp2
     go_roundw
     case rel=>exact ⟨k+m,_,by have:=HM.out;omega,by have:=HM.out;omega,by go_num,HL2.out,HS2.out,HB2.out⟩
     case measure=>simp [intOf];have:=HM.out;omega
   · have d1:decide (k < n)=false:=decide_eq_false hlt
     have hkn:k=n:=by omega
     have HRES:=Lh (show wr.heap[g]? = some (.cells (repV x n).toArray 3 (0,0)) by
       have h1:=HLEN.out
       have h2:=HBLK.out
       rw [hkn] at h1 h2
       rw [List.length_append,repV_len,HXL.out] at h1
       rw [List.eq_nil_of_length_eq_zero (by omega:rest.length=0),List.append_nil] at h2
       exact h2)
     clear hkn
     go_wp2
     go_ret
     exact ⟨rfl,HRES.out,HBEL.out⟩
theorem make_Span (n:Nat) (hn:n≤65536) (w:World):∃ zs:Array Value,zs.size=n*2∧(Instr.makeSlice 66 (.int .i64 n) (.int .i64 n)).run Tryd.prog w=.ok (.slice (some ⟨w.heap.size,0,none⟩) n n) (w.alloc (.cells zs 68)):=by
 obtain ⟨i0,hi,hz0,hz1,hz2⟩:=info_parts infoSp
 have h:=run_make (P:=Tryd.prog) w 66 68 i0 (.agg #[.int .i64 0,.int .i64 0]) Tryd.underlying66 hi hz0 .i64 .i64 n n (by omega) (by omega) (by rw [hz2];omega) (by omega)
 rw [hz1] at h
 simp only [Int.toNat_natCast] at h
 exact ⟨_,size_madeCells _ _,h⟩
set_option maxHeartbeats 4000000 in
theorem Repeat_Span (x:List Value) (hxl:x.length=2) (h1:∀ v∈x,v.oneCell'=true) (g0 o0 c0 n:Nat) (hn:n≤65536) (w:World) (hg0:g0 < w.heap.size) (hx:∀ j v,x[j]? = some v→w.cell? ⟨g0,o0+j,none⟩=some v) :
   Calls Tryd.prog 50 #[.slice (some ⟨g0,o0,none⟩) 1 c0,.int .i64 n] w fun e w'=>e=.returned (.slice (some ⟨w.heap.size,0,none⟩) n n)∧w'.heap[w.heap.size]? = some (.cells (repV x n).toArray 68 (0,0))∧Below w.heap.size w w':=by
 obtain ⟨zs,hzs,hmk⟩:=make_Span n hn w
 have hone:∀ k,∀ v∈repV x k,v.oneCell'=true:=fun k v hv=>by
   unfold repV at hv
   rw [List.mem_flatten] at hv
   obtain ⟨l,hl,hvl⟩:=hv
   rw [(List.mem_replicate.1 hl).2] at hvl
   exact h1 v hvl
 have hmul:=Tryd.bits_Mul 1 n (by omega) (by omega)
 have e1:(1*n / 18446744073709551616:Nat)=0:=Nat.div_eq_of_lt (by omega)
 have e2:(1*n % 18446744073709551616:Nat)=n:=by rw [Nat.mod_eq_of_lt (by omega),Nat.one_mul]
 rw [e1,e2] at hmul
 have HMUL:=Lh (show ∀ w,Calls Tryd.prog 70 #[.int .u64 1,.int .u64 (n:Int)] w fun e w'=>e=.returned (.tuple #[.int .u64 0,.int .u64 (n:Int)])∧w'=w from hmul)
 have w1:IntKind.u64.wrap (n:Int)=n:=by simp [IntKind.wrap,IntKind.bits,IntKind.signed];omega
 have w2:IntKind.i64.wrap (n:Int)=n:=by simp [IntKind.wrap,IntKind.bits,IntKind.signed];omega
 have d0:decide ((n:Int) < 0)=false:=decide_eq_false (by omega)
 have d1:decide ((9223372036854775807:Int) < (n:Int))=false:=decide_eq_false (by omega)
 obtain ⟨W,hW⟩:∃ W,W=w.alloc (.cells zs 68):=⟨_,rfl⟩
 have hbW:Below w.heap.size w W:=by rw [hW];exact (Below.refl _ _).alloc (Nat.le_refl _) _
 have hg:W.heap[w.heap.size]? = some (.cells zs 68 (0,0)):=by rw [hW];exact heap_alloc_new w _
 obtain ⟨g,hgg⟩:∃ g,w.heap.size=g:=⟨_,rfl⟩
 have HG:=Lh hgg
 rw [hgg] at hg hmk hbW hg0
 rw [←hW] at hmk
 have HMK:=Lh hmk
 have HGB:=Lh hg
 have HBW:=Lh hbW
 have HX:=Lh hx
 have HXL:=Lh hxl
 have HZ:=Lh hzs
 have HONE:=Lh hone
 have HG0:=Lh hg0
 clear hmul hW hmk hbW hg hzs e1 e2 hgg hx hxl hone hg0 h1
 rw [HG.out]
 go_enter Tryd.func50,Tryd.ntmps50
 go_upto_region 6 with ((with_reducible refine (HMUL.out _).mono ?_);rintro e w_ ⟨rfl,hw_⟩;obtain rfl:=hw_.symm)
 have hmk:=HMK.out
 go_upto_region 7 with fail
 have HM0:=Lh (show Nat.min 1 n≤n∧(n=0∨1≤Nat.min 1 n)∧Nat.min 1 n≤1 from ⟨Nat.min_le_right _ _,by by_cases h:n=0;exact .inl h;exact .inr (Nat.le_min.2 ⟨Nat.le_refl _,by omega⟩),Nat.min_le_left _ _⟩)
 obtain ⟨m0,hm0⟩:∃ m,Nat.min 1 n=m:=⟨_,rfl⟩
 rw [hm0] at HM0
 have hlen0:(repV x m0).length=m0*2:=by rw [repV_len,HXL.out]
 have hex:(Builtin.copy_ #[66,66] 3 #[.slice (some ⟨g,0,none⟩) n n,.slice (some ⟨g0,o0,none⟩) 1 c0]).run Tryd.prog W=.ok (.int .i64 (m0:Nat)) (W.setRow g (repV x m0++zs.toList.drop (m0*2)).toArray):=by
   have h:=run_copyR (w:=W) (g:=g) (g2:=g0) (off:=0) (off2:=o0) (dLen:=n) (dCap:=n) (sLen:=1) (sCap:=c0) 2 66 3 68 Tryd.underlying66 (by kernel_rfl) zs 68 HGB.out (repV x m0) (by rw [hm0,hlen0]) (fun j v hv=>by
     have hj:j < (repV x m0).length:=(List.getElem?_eq_some_iff.1 hv).1
     have hm1:m0=1:=by have:=HM0.out;rw [hlen0] at hj;by_cases h:m0=0;(rw [h] at hj;omega);omega
     rw [hm1] at hv
     rw [HBW.out.cell (p:=⟨g0,o0+j,none⟩) HG0.out]
     exact HX.out j v (by simpa [repV] using hv)) (by rw [hlen0,HZ.out];have:=HM0.out.1;omega) (HONE.out m0)
   rw [hm0,hlen0] at h
   simpa using h
 obtain ⟨W1,hW1⟩:∃ q,q=W.setRow g (repV x m0++zs.toList.drop (m0*2)).toArray:=⟨_,rfl⟩
 rw [←hW1] at hex
 have HS1:=Lh (show W1.heap[g]? = some (.cells (repV x m0++zs.toList.drop (m0*2)).toArray 68 (0,0)) by rw [hW1];exact setRow_heap _ _ _ _ _ _ HGB.out)
 have HB1:=Lh (show Below g w W1 by rw [hW1];exact HBW.out.trans ⟨rfl,rfl,rfl,by simp,fun k hk=>setRow_other _ _ _ _ (fun e=>by omega)⟩)
 have HL0:=Lh (show (repV x m0++zs.toList.drop (m0*2)).length=n*2 by
   rw [List.length_append,List.length_drop,hlen0,Array.length_toList,HZ.out]
   have:=HM0.out.1
   omega)
 clear hW1 hmk hm0 hlen0
 go_wp2
 clear hex d0 d1 w1 w2
 go_loopw [8] (fun i wr=>∃ (k:Nat) (rest:List Value),k≤n∧(n=0∨1≤k)∧i=.int .i64 k∧(repV x k++rest).length=n*2∧wr.heap[g]? = some (.cells (repV x k++rest).toArray 68 (0,0))∧Below g w wr) (fun i _=>n - (intOf i).toNat)
 case atStart=>exact ⟨m0,_,HM0.out.1,HM0.out.2.1,rfl,HL0.out,HS1.out,HB1.out⟩
 case round =>
   obtain ⟨k,rest,hk,hk1,rfl,hlen,hblk,hbel⟩:=hrel
   have HLEN:=Lh hlen
   have HBLK:=Lh hblk
   have HBEL:=Lh hbel
   have HK1:=Lh hk1
   clear hlen hblk hbel hk1
   by_cases hlt:k < n
   · have i0:(0:Int)≤(k:Int):=by omega
     have i1:(k:Int)≤(n:Int):=by omega
     have d1:decide (k < n)=true:=decide_eq_true hlt
     obtain ⟨m,hm⟩:∃ m,Nat.min k (n - k)=m:=⟨_,rfl⟩
     have hmk:m≤k∧m≤n - k∧1≤m:=by
       have h1:Nat.min k (n - k)≤k:=Nat.min_le_left k (n - k)
       have h2:Nat.min k (n - k)≤n - k:=Nat.min_le_right k (n - k)
       have h3:1≤Nat.min k (n - k):=Nat.le_min.2 ⟨by have:=HK1.out;omega,by omega⟩
       rw [hm] at h1 h2 h3
       exact ⟨by omega,by omega,by omega⟩
     have HM:=Lh hmk
     have HMM:=Lh hm
     have hwr:IntKind.i64.wrap ((k:Int)+(m:Int))=(k:Int)+(m:Int):=by simp [IntKind.wrap,IntKind.bits,IntKind.signed];omega
     have hlr:(repV x m).length=m*2:=by rw [repV_len,HXL.out]
     have hlk:(repV x k).length=k*2:=by rw [repV_len,HXL.out]
     have hcp:=run_copyR (w:=wr.drew) (g:=g) (g2:=g) (off:=k*2) (off2:=0) (dLen:=n - k) (dCap:=n - k) (sLen:=k) (sCap:=n) 2 66 3 68 Tryd.underlying66 (by kernel_rfl) (repV x k++rest).toArray 68 HBLK.out (repV x m) (by rw [hm,hlr]) (fun j v hv=>by
       have hj:j < (repV x m).length:=(List.getElem?_eq_some_iff.1 hv).1
       have hv2:(repV x k)[j]? = some v:=by rw [←repV_take x hmk.1,List.getElem?_take] at hv;split at hv;exact hv;cases hv
       show World.cell? wr ⟨g,0+j,none⟩=some v
       rw [Nat.zero_add]
       exact cell_row HBLK.out (by rw [List.getElem?_append_left (by rw [hlk];rw [hlr] at hj;have:=hmk.1;omega)];exact hv2)) (by rw [hlr];simp only [List.size_toArray,HLEN.out];have:=hmk.2.1;omega) (HONE.out m)
     have hgrow:((repV x k++rest).toArray.toList.take (k*2)++repV x m++(repV x k++rest).toArray.toList.drop (k*2+(repV x m).length))=repV x (k+m)++rest.drop (m*2):=by
       have:=repV_grow x rest k m 2 HXL.out
       simpa using this
     rw [hgrow,hm] at hcp
     obtain ⟨W2,hW2⟩:∃ q,q=wr.drew.setRow g (repV x (k+m)++rest.drop (m*2)).toArray:=⟨_,rfl⟩
     rw [←hW2] at hcp
     have HCP:=Lh hcp
     have HS2:=Lh (show W2.heap[g]? = some (.cells (repV x (k+m)++rest.drop (m*2)).toArray 68 (0,0)) by rw [hW2];exact setRow_heap wr.drew _ _ _ _ _ HBLK.out)
     have HB2:=Lh (show Below g w W2 by rw [hW2];exact HBEL.out.drew.trans ⟨rfl,rfl,rfl,by simp,fun k hk=>setRow_other _ _ _ _ (fun e=>by omega)⟩)
     have HL2:=Lh (show (repV x (k+m)++rest.drop (m*2)).length=n*2 by
       have:=HLEN.out
       rw [List.length_append,List.length_drop,repV_len,HXL.out]
       rw [List.length_append,hlk] at this
       have:=hmk.2.1
       omega)
     have hnk:(n=k)=False:=by simp;omega
     clear hm hmk hcp hW2 hgrow hlr hlk
     go_upto_region 9 with fail
     (refine wp_region_lines (fun _=>True) (by kernel_rfl) (by kernel_rfl) trivial ?_)
     (try simp only [])
     repeat (first | (refine runL_no (by rfl) ?_;(try simp only [Act.put,List.setIfInBounds_toArray,List.set_cons_zero,List.set_cons_succ])) | (refine runL_val (v:=?_) (by rfl) ?_ ?_;rotate_left;(focus (intro w_ hw_;skip;go_simp;(try with_reducible rfl);done));(try simp only [Act.put,List.setIfInBounds_toArray,List.set_cons_zero,List.set_cons_succ])) | (refine runL_op (v:=.int .i64 (m:Nat)) (w1:=W2) (by rfl) (by rfl) (exec_copy _ _ 66 HCP.out rfl rfl rfl) (.inr trivial) ?_;(try simp only [Act.put,List.setIfInBounds_toArray,List.set_cons_zero,List.set_cons_succ])))
     (refine runL_nil ?_)
     clear hnk
     go_wp2
     go_roundw
     case rel=>exact ⟨k+m,_,by have:=HM.out;omega,by have:=HM.out;omega,by go_num,HL2.out,HS2.out,HB2.out⟩
     case measure=>simp [intOf];have:=HM.out;omega
   · have d1:decide (k < n)=false:=decide_eq_false hlt
     have hkn:k=n:=by omega
     have HRES:=Lh (show wr.heap[g]? = some (.cells (repV x n).toArray 68 (0,0)) by
       have h1:=HLEN.out
       have h2:=HBLK.out
       rw [hkn] at h1 h2
       rw [List.length_append,repV_len,HXL.out] at h1
       rw [List.eq_nil_of_length_eq_zero (by omega:rest.length=0),List.append_nil] at h2
       exact h2)
     clear hkn
     go_wp2
     go_ret
     exact ⟨rfl,HRES.out,HBEL.out⟩
end Go.Proofs.YtppoiahhaclleaaDoor
namespace Go.Proofs.YtppoiahhaclleaaDoor
open Go.RowKit
set_option maxRecDepth 100000
def natI (l:List Nat):List Int:=l.map fun (k:Nat)=>(k:Int)
def stkI (l:List Nat):List Int:=natI l.reverse
theorem stkI_len (l:List Nat):(stkI l).length=l.length:=by simp [stkI,natI]
theorem stkI_cons (m:Nat) (l:List Nat):stkI (m :: l)=stkI l++[(m:Int)]:=by simp [stkI,natI]
theorem stkI_top (m:Nat) (l:List Nat):(stkI (m :: l))[l.length]? = some (m:Int):=by
 rw [stkI_cons,List.getElem?_append_right (by rw [stkI_len];exact Nat.le_refl _),stkI_len]
 simp
theorem stkI_pop (m:Nat) (l:List Nat):(stkI (m :: l)).take l.length=stkI l:=by rw [stkI_cons,←stkI_len l,List.take_left]
theorem intV_set (l:List Int) (k:Nat) (x:Int):(intV l).set k (.int .i64 x)=intV (l.set k x):=by unfold intV;rw [List.map_set]
theorem intV_append (a b:List Int):intV (a++b)=intV a++intV b:=by simp [intV]
theorem intV_get {l:List Int} {k:Nat} {x:Int} (h:l[k]? = some x):(intV l)[k]? = some (.int .i64 x):=by unfold intV;rw [List.getElem?_map,h];rfl
theorem ends_to_len (ops:List LOp) (k:Nat):(endsTo ops k).1.length=ops.length:=by
 induction k with
 | zero=>simp [endsTo]
 | succ k ih =>
   simp only [endsTo]
   split
   · unfold endsStep
     split
     · exact ih
     · split
       · split
         · exact ih
         · simpa using ih
       · exact ih
   · exact ih
theorem intV_rep (x:Int) (n:Nat):intV (List.replicate n x)=repV [.int .i64 x] n:=by
 unfold intV repV
 rw [List.map_replicate]
 induction n with
 | zero=>rfl
 | succ n ih=>rw [List.replicate_succ,List.replicate_succ,List.flatten_cons,←ih];rfl
theorem stk_len (ops:List LOp) (k:Nat):(endsTo ops k).2.length≤k:=by
 induction k with
 | zero=>simp [endsTo]
 | succ k ih =>
   simp only [endsTo]
   split
   · rename_i o _
     generalize endsTo ops k=s at ih
     obtain ⟨E,st⟩:=s
     unfold endsStep
     split
     · simp at ih ⊢;omega
     · split
       · cases st with
         | nil=>simp
         | cons m l=>simp at ih ⊢;omega
       · simp at ih ⊢;omega
   · omega
set_option maxHeartbeats 8000000 in
theorem ends_any (p:LP) (Ab Ao:Option Addr) (nb cb no co:Nat) (w:World) (hp:ProgAt w (fun k=>k < w.heap.size) [.int .i64 p.regs,.slice Ab nb cb,.slice Ao no co] p) (hbal:Bal p.ops) (hlen:p.ops.length≤65536) :
   Calls Tryd.prog 71 #[.agg #[.int .i64 p.regs,.slice Ab nb cb,.slice Ao no co]] w fun e w'=>∃ g,e=.returned (.slice (some ⟨g,0,none⟩) p.ops.length p.ops.length)∧w.heap.size≤g∧w'.heap[g]? = some (.cells (intV (endsF p.ops)).toArray 3 (0,0))∧Below w.heap.size w w':=by
 obtain ⟨W,hW,hbW,hzW,hcW,_⟩:=boxed w #[.int .i64 p.regs,.slice Ab nb cb,.slice Ao no co] 25
 have c2:W.cell? ⟨w.heap.size,2,none⟩=some (.slice Ao no co):=by rw [hcW];rfl
 have hOps:OpsAt w (fun k=>k < w.heap.size) (.slice Ao no co) p.ops:=by
   obtain ⟨vb,vo,h,h1,h2⟩:=hp.row
   simp only [List.cons.injEq] at h
   rw [h.2.2.1];exact h2
 have hno:p.ops.length=no:=by obtain ⟨A,c,hv,_⟩:=rows_form hOps;cases hv;rfl
 obtain ⟨W1,hW1⟩:∃ q,q=W.alloc (.cells (intV [-1]).toArray 3):=⟨_,rfl⟩
 have hb1:Below W.heap.size W W1:=by rw [hW1];exact (Below.refl _ _).alloc (Nat.le_refl _) _
 have hz1:W1.heap.size=W.heap.size+1:=by rw [hW1];simp
 have hn1:W1.heap[W.heap.size]? = some (.cells (intV [-1]).toArray 3 (0,0)):=by rw [hW1];exact heap_alloc_new W _
 have hrep:=Repeat_Int [.int .i64 (-1)] rfl (by simp [Value.oneCell']) W.heap.size 0 1 no (by omega) W1 (by omega) (fun j v hv=>by rw [Nat.zero_add];exact cell_row hn1 hv)
 obtain ⟨g1,hg1⟩:∃ g,W1.heap.size=g:=⟨_,rfl⟩
 rw [hg1] at hrep
 have HG1:=Lh hg1
 have hrep2:Calls Tryd.prog 84 #[.slice (some ⟨W.heap.size,0,none⟩) 1 1,.int .i64 no] (W.alloc (.cells #[.int .i64 (-1)] 3)) fun e w'=>e=.returned (.slice (some ⟨g1,0,none⟩) no no)∧w'.heap[g1]? = some (.cells (repV [.int .i64 (-1)] no).toArray 3 (0,0))∧Below g1 W1 w':=by
   have:=hW1
   unfold intV at this
   rw [show (W.alloc (.cells #[.int .i64 (-1)] 3))=W1 from this.symm]
   exact hrep
 have HREP:=Lh hrep2
 have hlt0:w.heap.size < W.heap.size:=by omega
 have HW:=Lh hW
 have HW1:=Lh hW1
 have HB:=Lh hbW
 have HB1:=Lh hb1
 have HOPS:=Lh hOps
 have HNO:=Lh hno
 have HBAL:=Lh hbal
 have hn64:no≤65536:=by omega
 have HLT:=Lh (show w.heap.size < W.heap.size∧W.heap.size < W1.heap.size by omega)
 rw [hno]
 clear hW hbW hzW hcW hOps hp hno hW1 hb1 hz1 hn1 hbal hlen hrep hrep2 hg1
 go_enter Tryd.func71,Tryd.ntmps71
 go_upto_region 1 with fail
 rw [←HW.out]
 go_upto_region 2 with ((with_reducible refine (HREP.out).mono ?_);rintro e w1 ⟨rfl,hgb,hb2⟩)
 have hbw1:Below w.heap.size w w1:=HB.out.trans ((HB1.out.trans (hb2.mono (by rw [←HG1.out];exact HB1.out.size))).mono HB.out.size)
 have d2:=(hbw1.trans (Below.refl _ _)).size
 have HBW1:=Lh hbw1
 have hg1w:w.heap.size < g1:=by have:=HLT.out;have:=HG1.out;omega
 have hg1s:g1 < w1.heap.size:=lt_of_block hgb
 have hs0:intV (endsTo p.ops 0).1=repV [.int .i64 (-1)] no:=by
   rw [show (endsTo p.ops 0).1=List.replicate p.ops.length (-1) from rfl,HNO.out]
   exact intV_rep _ _
 rw [←hs0] at hgb
 have HS0:=Lh hgb
 have d3:w1.cell? ⟨w.heap.size,2,none⟩=some (.slice Ao no co):=by
   rw [hb2.cell (p:=⟨w.heap.size,2,none⟩) hg1w,HB1.out.cell (p:=⟨w.heap.size,2,none⟩) hlt0];exact c2
 have HD3:=Lh d3
 clear hs0 hgb c2 d2 hbw1 hb2 hlt0
 go_wp2
 go_loopw [4,16] (fun v i wr=>∃ (k:Nat) (A:Option Addr) (c:Nat),k≤no∧i=.int .i64 k∧v=.slice A (endsTo p.ops k).2.length c∧wr.ownsRow w.heap.size 3 1 (.slice A (endsTo p.ops k).2.length c) (endsTo p.ops k).2.length (intV (stkI (endsTo p.ops k).2))∧(Value.slice A (endsTo p.ops k).2.length c).ownBlock≠some g1 ∧
   wr.heap[g1]? = some (.cells (intV (endsTo p.ops k).1).toArray 3 (0,0))∧Below w.heap.size w wr) (fun _ i _=>no - (intOf i).toNat)
 case atStart=>exact ⟨0,none,0,by omega,rfl,rfl,World.ownsRow_nil _ _ _ _,(fun e=>by cases e),HS0.out,HBW1.out⟩
 case round =>
   obtain ⟨k,A,c,hk,rfl,rfl,hown,hne,hblk,hbel⟩:=hrel
   have HOWN:=Lh hown
   have HNE:=Lh hne
   have HBLK:=Lh hblk
   have HBEL:=Lh hbel
   clear hown hne hblk hbel d3
   by_cases hlt:k < no
   · obtain ⟨o,ho⟩:∃ o,p.ops[k]? = some o:=⟨_,List.getElem?_eq_getElem (by rw [HNO.out];omega)⟩
     obtain ⟨g,off,hA,hF,x0,x1,x2,x3,x4,x5,x6,x7⟩:=HOPS.out.at_ ho
     subst hA
     have y0:=(HBEL.out.cell (p:=⟨g,off+k*8,none⟩) hF).trans x0
     have y1:=(HBEL.out.cell (p:=⟨g,off+k*8+1,none⟩) hF).trans x1
     have y2:=(HBEL.out.cell (p:=⟨g,off+k*8+2,none⟩) hF).trans x2
     have y3:=(HBEL.out.cell (p:=⟨g,off+k*8+3,none⟩) hF).trans x3
     have y4:=(HBEL.out.cell (p:=⟨g,off+k*8+4,none⟩) hF).trans x4
     have y5:=(HBEL.out.cell (p:=⟨g,off+k*8+5,none⟩) hF).trans x5
     have y6:=(HBEL.out.cell (p:=⟨g,off+k*8+6,none⟩) hF).trans x6
     have y7:=(HBEL.out.cell (p:=⟨g,off+k*8+7,none⟩) hF).trans x7
     have HO:=Lh ho
     have i0:(0:Int)≤(k:Int):=by omega
     have i1:(k:Int) < (no:Int):=by omega
     obtain ⟨kd,hkd⟩:∃ q,o.kind=q:=⟨_,rfl⟩
     rw [hkd] at y0
     have HKD:=Lh hkd
     have HSL:=Lh (stk_len p.ops k)
     have HST:Hid (endsTo p.ops (k+1)=endsStep o k (endsTo p.ops k)):=by show _=_;simp only [endsTo,HO.out]
     have hwlt:g1 < wr.heap.size:=lt_of_block HBLK.out
     clear x0 x1 x2 x3 x4 x5 x6 x7 hF ho hkd
     by_cases h16:kd=16
     · have e16:(kd == 16)=true:=by simpa using h16
       have HN:=Lh (show endsTo p.ops (k+1)=((endsTo p.ops k).1,k :: (endsTo p.ops k).2) by rw [HST.out];unfold endsStep;rw [if_pos (by rw [HKD.out];exact h16)])
       clear h16
       go_upto_region 8 with fail
       obtain ⟨W5,hW5⟩:∃ q,q=wr.alloc (.cells #[.int .i64 kd,.int .i64 o.d,.int .i64 o.e,.int .i64 o.a,.int .i64 o.b,.int .i64 o.c,.int .i64 o.buf,.int .u64 o.imm] 47):=⟨_,rfl⟩
       have hb5:Below wr.heap.size wr W5:=by rw [hW5];exact (Below.refl _ _).alloc (Nat.le_refl _) _
       rw [←hW5]
       have HB5:=Lh (HBEL.out.trans (hb5.mono HBEL.out.size))
       have HOWN5:=Lh (row_keep (fun g hg=>hb5.block g (own_lt HOWN.out g hg).1) HOWN.out)
       have HBLK5:=Lh ((hb5.block g1 hwlt).trans HBLK.out)
       have HLT5:=Lh (Nat.lt_of_lt_of_le hwlt hb5.size)
       clear hW5 hb5 hwlt e16 y0 y1 y2 y3 y4 y5 y6 y7
       obtain ⟨j0,hie,hy0,hy1,hy2⟩:=info_parts infoI
       obtain ⟨ls,hls⟩:∃ n,(endsTo p.ops k).2.length=n:=⟨_,rfl⟩
       rw [hls] at HOWN5 HNE HSL
       rw [hls]
       have hlsk:ls≤k:=HSL.out
       have HLS:=Lh hls
       clear hls
       go_wp2_with ((at_builtin;refine wpList_append_own_at _ rfl _ _ 35 rfl w.heap.size 3 j0 (.int .i64 0) 1 8 Tryd.underlying35 hie hy0 hy1 hy2 rfl (by decide) _ ls _ rfl (HOWN5.out.alloc _) ⟨W5.heap.size,0,none⟩ 1 1 [.int .i64 k] rfl (by simp) (World.news_of_block (cs:=#[.int .i64 k]) (t:=3) (fr:=(0,0)) (heap_alloc_new W5 _)) (by simp [Value.oneCell']) (by unfold maxLen;omega) (by omega) (by have:=HB5.out.size;simp;omega) ?_);intro v w6 hown6 hg6 _ hwh6;have HOWN6:=Lh hown6;have HG6:=Lh hg6;have HWH6:=Lh hwh6;clear hown6 hg6 hwh6)
       obtain ⟨A6,c6,rfl⟩:=own_form HOWN6.out
       have hl6:(k :: (endsTo p.ops k).2).length=ls+1:=by rw [List.length_cons,HLS.out]
       have hb6:Below W5.heap.size W5 (W5.alloc (.cells #[.int .i64 k] 3)):=(Below.refl _ _).alloc (Nat.le_refl _) _
       have hz6:(W5.alloc (.cells #[.int .i64 k] 3)).heap.size=W5.heap.size+1:=by simp
       have hne6:(Value.slice A6 (ls+1) c6).ownBlock≠some g1:=fun e=>by
         rcases HWH6.out with h | h
         · exact HNE.out (h▸e)
         · rw [e] at h
           have h2:=Option.some.inj h
           have:=HLT5.out;omega
       have hblk6:w6.heap[g1]? = some (.cells (intV (endsTo p.ops k).1).toArray 3 (0,0)):=by
         rw [HG6.out.block g1 (by have:=HLT5.out;omega) (fun e=>HNE.out e.symm),hb6.block g1 HLT5.out]
         exact HBLK5.out
       have hbel6:Below w.heap.size w w6:=(HB5.out.trans (hb6.mono HB5.out.size)).grown HG6.out (by have:=HB5.out.size;omega) (fun k hk=>(own_lt HOWN5.out k hk).2)
       have hown6:=HOWN6.out
       rw [show intV (stkI (endsTo p.ops k).2)++[Value.int .i64 (k:Int)]=intV (stkI (k :: (endsTo p.ops k).2)) by rw [stkI_cons,intV_append];rfl,←hl6] at hown6
       go_roundw
       case rel=>exact ⟨k+1,A6,c6,by omega,by go_num,by rw [HN.out,hl6],by rw [HN.out];exact hown6,by rw [HN.out];simp only [hl6];exact hne6,by rw [HN.out];exact hblk6,hbel6⟩
       case measure=>simp [intOf];omega
     · have e16:(kd == 16)=false:=by simpa using h16
       by_cases h17:kd=17
       · have e17:(kd == 17)=true:=by simpa using h17
         have hnil:=HBAL.out.some_ k o HO.out (by rw [HKD.out];exact h17)
         obtain ⟨m,l,hml⟩:∃ m l,(endsTo p.ops k).2=m :: l:=by
           cases h:(endsTo p.ops k).2 with
           | nil=>exact absurd h hnil
           | cons m l=>exact ⟨m,l,rfl⟩
         have HN:=Lh (show endsTo p.ops (k+1)=(((endsTo p.ops k).1.set k (m:Nat)).set m (k:Int),l) by rw [HST.out];unfold endsStep;rw [if_neg (by rw [HKD.out];exact h16),if_pos (by rw [HKD.out];exact h17),hml])
         rw [hml] at HOWN HNE HSL
         have hmk:m < k:=((ends_inv HBAL.out k (by rw [HNO.out];omega)).open_ m (by rw [hml];exact List.mem_cons_self)).1
         rw [hml]
         clear h16 h17 hnil hml
         go_upto_region 10 with fail
         obtain ⟨W5,hW5⟩:∃ q,q=wr.alloc (.cells #[.int .i64 kd,.int .i64 o.d,.int .i64 o.e,.int .i64 o.a,.int .i64 o.b,.int .i64 o.c,.int .i64 o.buf,.int .u64 o.imm] 47):=⟨_,rfl⟩
         have hb5:Below wr.heap.size wr W5:=by rw [hW5];exact (Below.refl _ _).alloc (Nat.le_refl _) _
         rw [←hW5]
         have HB5:=Lh (HBEL.out.trans (hb5.mono HBEL.out.size))
         have HOWN5:=Lh (row_keep (fun g hg=>hb5.block g (own_lt HOWN.out g hg).1) HOWN.out)
         have HBLK5:=Lh ((hb5.block g1 hwlt).trans HBLK.out)
         have HLT5:=Lh (Nat.lt_of_lt_of_le hwlt hb5.size)
         clear hW5 hb5 hwlt e16 e17 y0 y1 y2 y3 y4 y5 y6 y7
         obtain ⟨ll,hll⟩:∃ n,l.length=n:=⟨_,rfl⟩
         have hl1:(m :: l).length=ll+1:=by rw [List.length_cons,hll]
         rw [hl1] at HOWN5 HNE HSL
         rw [hl1]
         have hlk:ll < k:=HSL.out
         obtain ⟨gs,capx,hA⟩:∃ gs cap,Value.slice A (ll+1) c=.slice (some ⟨gs,0,none⟩) (ll+1) cap:=by
           rcases HOWN5.out.2 with ⟨_,h⟩ | ⟨g,cap,cur,hv,_⟩
           · omega
           · exact ⟨g,cap,hv⟩
         cases hA
         have hnm:=nums_own (l:=stkI (m :: l)) (by rw [stkI_len,hl1];exact HOWN5.out)
         obtain ⟨b',o',hb',_,hcell⟩:=hnm.at_ (k:=ll) (x:=(m:Int)) (by rw [←hll];exact stkI_top m l)
         cases hb'
         rw [Nat.zero_add] at hcell
         have hca:ll+1≤c:=by
           rcases HOWN5.out.2 with ⟨_,h⟩ | ⟨g,cap,cur,hv,_,_,hnc,_⟩
           · omega
           · cases hv;exact hnc
         have hE:(endsTo p.ops k).1.length=no:=by rw [ends_to_len,HNO.out]
         obtain ⟨E,hEE⟩:∃ E,(endsTo p.ops k).1=E:=⟨_,rfl⟩
         rw [hEE] at HBLK5 HN hE
         have hS1:=setCell_row HBLK5.out k (.int .i64 (m:Nat))
         rw [intV_set] at hS1
         have hS2:=setCell_row hS1 m (.int .i64 (k:Nat))
         rw [intV_set] at hS2
         have HS2:=Lh hS2
         obtain ⟨x1,hx1⟩:∃ x,E[k]? = some x:=⟨_,List.getElem?_eq_getElem (by omega)⟩
         obtain ⟨x2,hx2⟩:∃ x,(E.set k (m:Int))[m]? = some x:=⟨_,List.getElem?_eq_getElem (by simp;omega)⟩
         have z1:W5.cell? ⟨g1,k,none⟩=some (.int .i64 x1):=cell_row HBLK5.out (intV_get hx1)
         have z2:W5.frozen? ⟨g1,k,none⟩=false:=frozen_row HBLK5.out k
         have z3:(W5.setCell ⟨g1,k,none⟩ (.int .i64 (m:Nat))).cell? ⟨g1,m,none⟩=some (.int .i64 x2):=cell_row hS1 (intV_get hx2)
         have z4:(W5.setCell ⟨g1,k,none⟩ (.int .i64 (m:Nat))).frozen? ⟨g1,m,none⟩=false:=frozen_row hS1 m
         have j0:(0:Int)≤(m:Int):=by omega
         have j1:(m:Int) < (no:Int):=by omega
         have j2:IntKind.i64.wrap ((((ll+1:Nat):Int)) - 1)=ll:=by simp [IntKind.wrap,IntKind.bits,IntKind.signed];omega
         have j3:(ll:Int) < ((ll+1:Nat):Int):=by omega
         have j4:(0:Int)≤(ll:Int):=by omega
         have HLL:=Lh hll
         clear hS1 hS2 hx1 hx2 hl1 hnm hll hE hEE
         go_wp2
         have hne2:∀ kk,(Value.slice (some ⟨gs,0,none⟩) ll c).ownBlock=some kk→kk≠g1:=fun kk h e=>HNE.out (by rw [e] at h;exact h)
         have hbel2:Below w.heap.size w ((W5.setCell ⟨g1,k,none⟩ (.int .i64 (m:Nat))).setCell ⟨g1,m,none⟩ (.int .i64 (k:Nat))):=(HB5.out.setCell (by simp only [];omega) _).setCell (by simp only [];omega) _
         have hown2:=own_take HOWN5.out (k:=ll) (by omega)
         rw [intV_take,←HLL.out,stkI_pop,HLL.out] at hown2
         have hown3:=row_keep (w':=(W5.setCell ⟨g1,k,none⟩ (.int .i64 (m:Nat))).setCell ⟨g1,m,none⟩ (.int .i64 (k:Nat))) (fun g hg=>(Below.heap_setCell _ _ _ _ (hne2 g hg)).trans (Below.heap_setCell _ _ _ _ (hne2 g hg))) hown2
         go_roundw
         case rel=>exact ⟨k+1,some ⟨gs,0,none⟩,c,by omega,by go_num,by rw [HN.out,HLL.out],by rw [HN.out];simp only [HLL.out];exact hown3,by rw [HN.out];exact fun h=>hne2 _ h rfl,by rw [HN.out];exact HS2.out,hbel2⟩
         case measure=>simp [intOf];omega
       · have e17:(kd == 17)=false:=by simpa using h17
         have HN:=Lh (show endsTo p.ops (k+1)=endsTo p.ops k by rw [HST.out];unfold endsStep;rw [if_neg (by rw [HKD.out];exact h16),if_neg (by rw [HKD.out];exact h17)])
         clear h16 h17
         go_wp2
         go_roundw
         case rel=>exact ⟨k+1,A,c,by omega,by go_num,by rw [HN.out],by rw [HN.out];exact row_keep (fun g hg=>((Below.refl _ _).alloc (Nat.le_refl _) _).block g (own_lt HOWN.out g hg).1) HOWN.out,by rw [HN.out];exact HNE.out,by rw [HN.out];exact (((Below.refl _ _).alloc (Nat.le_refl _) _).block g1 hwlt).trans HBLK.out,HBEL.out.alloc HBEL.out.size _⟩
         case measure=>simp [intOf];omega
   · have hkn:k=no:=by omega
     have HRES:=Lh (show wr.heap[g1]? = some (.cells (intV (endsF p.ops)).toArray 3 (0,0)) by unfold endsF;rw [HNO.out,←hkn];exact HBLK.out)
     clear hkn
     go_wp2
     go_ret
     exact ⟨g1,rfl,by omega,HRES.out,HBEL.out⟩
set_option maxHeartbeats 2000000 in
theorem Ends_any (p:LP) (Ab Ao:Option Addr) (nb cb no co:Nat) (w:World) (hp:ProgAt w (fun k=>k < w.heap.size) [.int .i64 p.regs,.slice Ab nb cb,.slice Ao no co] p) (h0:(checkF p 64).2=0) :
   Calls Tryd.prog 51 #[.agg #[.int .i64 p.regs,.slice Ab nb cb,.slice Ao no co]] w fun e w'=>∃ g,e=.returned (.slice (some ⟨g,0,none⟩) p.ops.length p.ops.length)∧w.heap.size≤g∧w'.heap[g]? = some (.cells (intV (endsF p.ops)).toArray 3 (0,0))∧Below w.heap.size w w':=by
 obtain ⟨W,hW,hbW,hzW,hcW,_⟩:=boxed w #[.int .i64 p.regs,.slice Ab nb cb,.slice Ao no co] 25
 have c0:W.cell? ⟨w.heap.size,0,none⟩=some (.int .i64 p.regs):=by rw [hcW];rfl
 have c1:W.cell? ⟨w.heap.size,1,none⟩=some (.slice Ab nb cb):=by rw [hcW];rfl
 have c2:W.cell? ⟨w.heap.size,2,none⟩=some (.slice Ao no co):=by rw [hcW];rfl
 have hp1:=prog_next hp hbW
 have HC:=Lh (check_any p Ab Ao nb cb no co W hp1)
 have HE:=Lh (fun w2 (hb:Below W.heap.size W w2)=>ends_any p Ab Ao nb cb no co w2 (prog_next hp1 hb) (check_bal h0) (head_ok (check_run h0).1).2.2.2.1)
 have HW:=Lh hW
 have HB:=Lh hbW
 have hlt:w.heap.size < W.heap.size:=by omega
 rw [h0] at HC
 obtain ⟨x,hx⟩:∃ x,(checkF p 64).1=x:=⟨_,rfl⟩
 rw [hx] at HC
 clear hW hbW hzW hcW hp hp1 hx h0
 go_enter Tryd.func51,Tryd.ntmps51
 go_upto_region 1 with fail
 rw [←HW.out]
 go_upto_region 4 with ((with_reducible refine (HC.out).mono ?_);rintro e w1 ⟨rfl,hb1⟩)
 have HE1:=Lh (HE.out w1 hb1)
 have e0:=(hb1.cell (p:=⟨w.heap.size,0,none⟩) hlt).trans c0
 have e1:=(hb1.cell (p:=⟨w.heap.size,1,none⟩) hlt).trans c1
 have e2:=(hb1.cell (p:=⟨w.heap.size,2,none⟩) hlt).trans c2
 have HB1:=Lh hb1
 clear c0 c1 c2 hb1 hlt
 go_wp2_with ((with_reducible refine (HE1.out).mono ?_);rintro e w2 ⟨g,rfl,hg,hblk,hb2⟩)
 go_ret
 exact ⟨g,rfl,by have:=HB1.out.size;have:=HB.out.size;omega,hblk,HB.out.trans ((HB1.out.trans (hb2.mono HB1.out.size)).mono HB.out.size)⟩
end Go.Proofs.YtppoiahhaclleaaDoor
namespace Go.Proofs.YtppoiahhaclleaaDoor
open Go.RowKit
set_option maxRecDepth 100000
variable {aB kV kW aC aD kX kY kZ lA lB lC aE aF aG aH aI aJ aK aL aM aN aO aP aQ aR aS aT aU aV aW aX aY aZ a8 bA bB bC bD bE bF bG bH bI bJ bK bL bM bN bO bP bQ bS bT bU bV bW bX bY bZ b4 b6 cA cC cD cE cF cG cH cI cJ cK cL cM cN cO cP cQ cR cT cU cV cW cX cY cZ c8 dA dB dC dD dE dF dG dH dI dJ dK dL dM dN dO dP dQ dR dS dT dU dV dW dX dY dZ d7 eA eB eC eD eE eF eG eH eI eJ eK eL eM eN eO eP eQ eR eS eT eU eV eW eX eY eZ fA fB fC fD fE fF fG fH fI fJ fK fL fM fN fO fP fQ fR fS fT fU fV fW fX fY fZ gA gC gD gE gF gG gH gI gJ gK gL gM gN gO gP gQ gR gS gT gU gV gW gX gY gZ g9 hJ hY hZ iA iB iC iD iE : Value}
theorem infoB:(Tryd.prog.info? 4).map (fun i=>(i.zero,i.size,i.bytes))=some (some (.bool false),1,1):=by kernel_rfl
theorem make_bool (n:Nat) (hn:n≤64) (w:World):(Instr.makeSlice 61 (.int .i64 n) (.int .i64 n)).run Tryd.prog w=.ok (.slice (some ⟨w.heap.size,0,none⟩) n n) (w.alloc (.cells ((List.replicate n false).map Value.bool).toArray 4)):=by
 obtain ⟨i0,hi,hz0,hz1,hz2⟩:=info_parts infoB
 have h:=run_make (P:=Tryd.prog) w 61 4 i0 (.bool false) Tryd.underlying61 hi hz0 .i64 .i64 n n (by omega) (by omega) (by rw [hz2];omega) (by omega)
 rw [hz1] at h
 have e:(Value.bool false).cells=#[.bool false]:=rfl
 have e2:madeCells #[.bool false] n=((List.replicate n false).map Value.bool).toArray:=by
   refine Array.ext (by simp [size_madeCells]) fun i h1 h2=>?_
   simp [madeCells,Nat.mod_one]
 rw [e] at h
 simp only [Int.toNat_natCast,Nat.mul_one,e2] at h
 exact h
set_option maxHeartbeats 4000000 in
theorem rchk_l0 {Ab:Option Addr} {nb cb bp:Nat} {l:List Bf} {G:Nat→Prop} (w:World) (Q:Exit→Act→World→Prop) (p1:w.cell? ⟨bp,1,none⟩=some (.slice Ab nb cb)) (hl:BufsAt w G (.slice Ab nb cb) l) (hn:l.length=nb) (hn2:nb≤32)
   (k1:l.any big1=false→∀ (pC mR mS mT mU mV mW mX lD lE lF lG lH lI lJ mZ m9:Value),Q (.exit 0) ⟨#[aB,.pointer (some ⟨bp,0,none⟩),mZ,m9,pC,aD,kX,kY,kZ,lA,lB,lC,aE,aF,aG,aH,aI,aJ,aK,aL,aM,aN,aO,aP,aQ,aR,aS,aT,aU,aV,mR,mS,mT,mU,mV,mW,mX,lD,lE,lF,lG,lH,lI,lJ,bJ,bK,bL,bM,bN,bO,bP,bQ,bS,bT,bU,bV,bW,bX,bY,bZ,b4,b6,cA,cC,cD,cE,cF,cG,cH,cI,cJ,cK,cL,cM,cN,cO,cP,cQ,cR,cT,cU,cV,cW,cX,cY,cZ,c8,dA,dB,dC,dD,dE,dF,dG,dH,dI,dJ,dK,dL,dM,dN,dO,dP,dQ,dR,dS,dT,dU,dV,dW,dX,dY,dZ,d7,eA,eB,eC,eD,eE,eF,eG,eH,eI,eJ,eK,eL,eM,eN,eO,eP,eQ,eR,eS,eT,eU,eV,eW,eX,eY,eZ,fA,fB,fC,fD,fE,fF,fG,fH,fI,fJ,fK,fL,fM,fN,fO,fP,fQ,fR,fS,fT,fU,fV,fW,fX,fY,fZ,gA,gC,gD,gE,gF,gG,gH,gI,gJ,gK,gL,gM,gN,gO,gP,gQ,gR,gS,gT,gU,gV,gW,gX,gY,gZ,g9,hJ,hY,hZ,iA,iB,iC,iD,iE],[]⟩ w) (k2:l.any big1=true→∀ (pC mR mS mT mU mV mW mX lD lE lF lG lH lI lJ:Value),Q (.ret) ⟨#[aB,.pointer (some ⟨bp,0,none⟩),.int .i64 0,.int .i64 3,pC,aD,kX,kY,kZ,lA,lB,lC,aE,aF,aG,aH,aI,aJ,aK,aL,aM,aN,aO,aP,aQ,aR,aS,aT,aU,aV,mR,mS,mT,mU,mV,mW,mX,lD,lE,lF,lG,lH,lI,lJ,bJ,bK,bL,bM,bN,bO,bP,bQ,bS,bT,bU,bV,bW,bX,bY,bZ,b4,b6,cA,cC,cD,cE,cF,cG,cH,cI,cJ,cK,cL,cM,cN,cO,cP,cQ,cR,cT,cU,cV,cW,cX,cY,cZ,c8,dA,dB,dC,dD,dE,dF,dG,dH,dI,dJ,dK,dL,dM,dN,dO,dP,dQ,dR,dS,dT,dU,dV,dW,dX,dY,dZ,d7,eA,eB,eC,eD,eE,eF,eG,eH,eI,eJ,eK,eL,eM,eN,eO,eP,eQ,eR,eS,eT,eU,eV,eW,eX,eY,eZ,fA,fB,fC,fD,fE,fF,fG,fH,fI,fJ,fK,fL,fM,fN,fO,fP,fQ,fR,fS,fT,fU,fV,fW,fX,fY,fZ,gA,gC,gD,gE,gF,gG,gH,gI,gJ,gK,gL,gM,gN,gO,gP,gQ,gR,gS,gT,gU,gV,gW,gX,gY,gZ,g9,hJ,hY,hZ,iA,iB,iC,iD,iE],[]⟩ w):(partL Tryd.f8 0).wp Tryd.prog Q ⟨#[aB,.pointer (some ⟨bp,0,none⟩),kV,kW,.int .i64 0,aD,kX,kY,kZ,lA,lB,lC,aE,aF,aG,aH,aI,aJ,aK,aL,aM,aN,aO,aP,aQ,aR,aS,aT,aU,aV,aW,aX,aY,aZ,a8,bA,bB,bC,bD,bE,bF,bG,bH,bI,bJ,bK,bL,bM,bN,bO,bP,bQ,bS,bT,bU,bV,bW,bX,bY,bZ,b4,b6,cA,cC,cD,cE,cF,cG,cH,cI,cJ,cK,cL,cM,cN,cO,cP,cQ,cR,cT,cU,cV,cW,cX,cY,cZ,c8,dA,dB,dC,dD,dE,dF,dG,dH,dI,dJ,dK,dL,dM,dN,dO,dP,dQ,dR,dS,dT,dU,dV,dW,dX,dY,dZ,d7,eA,eB,eC,eD,eE,eF,eG,eH,eI,eJ,eK,eL,eM,eN,eO,eP,eQ,eR,eS,eT,eU,eV,eW,eX,eY,eZ,fA,fB,fC,fD,fE,fF,fG,fH,fI,fJ,fK,fL,fM,fN,fO,fP,fQ,fR,fS,fT,fU,fV,fW,fX,fY,fZ,gA,gC,gD,gE,gF,gG,gH,gI,gJ,gK,gL,gM,gN,gO,gP,gQ,gR,gS,gT,gU,gV,gW,gX,gY,gZ,g9,hJ,hY,hZ,iA,iB,iC,iD,iE],[]⟩ w:=by
 have HL:=Lh hl
 have HN:=Lh hn
 have K1:=Lh k1
 have K2:=Lh k2
 clear hl hn k1 k2
 conv=>arg 2;whnf
 go_wp2
 go_loop [4] (fun j=>∃ k:Nat,k≤nb∧j=.int .i64 k∧Hid ((l.take k).any big1=false)) (fun j=>nb - (intOf j).toNat)
 case atStart=>exact ⟨0,by omega,rfl,Lh (by simp)⟩
 case round =>
   obtain ⟨k,hk,rfl,HT⟩:=hrel
   by_cases hlt:k < nb
   · obtain ⟨x,hx⟩:∃ x,l[k]? = some x:=⟨_,List.getElem?_eq_getElem (by have:=HN.out;omega)⟩
     obtain ⟨b,o,rfl,_,c0,c1,_⟩:=HL.out.at_ hx
     have HX:=Lh hx
     have i0:(0:Int)≤(k:Int):=by omega
     have i1:(k:Int) < (nb:Int):=by omega
     obtain ⟨sz,hsz⟩:∃ q,x.size=q:=⟨_,rfl⟩
     obtain ⟨kd,hkd⟩:∃ q,x.kind=q:=⟨_,rfl⟩
     rw [hsz] at c0
     rw [hkd] at c1
     have HSZ:=Lh (And.intro hsz hkd)
     clear hx hsz hkd
     cases d1:decide ((65536:Int) < sz)
     · have HN:=Lh (any_next (p:=big1) HT.out HX.out (by unfold big1;rw [HSZ.out.1];exact d1))
       go_wp2
       go_round
       case rel=>exact ⟨k+1,by omega,by go_num,HN⟩
       case measure=>simp [intOf];omega
     · have HN:=Lh (any_here (p:=big1) HX.out (by unfold big1;rw [HSZ.out.1];exact d1))
       go_wp2
       exact K2.out HN.out _ _ _ _ _ _ _ _ _ _ _ _ _ _ _
   · have HN:=Lh (any_whole HT.out (by have:=HN.out;omega))
     go_wp2
     exact K1.out HN.out _ _ _ _ _ _ _ _ _ _ _ _ _ _ _ _ _
set_option maxHeartbeats 4000000 in
theorem rchk_l2 {Ab:Option Addr} {nb cb bp:Nat} {l:List Bf} {G:Nat→Prop} (w:World) (Q:Exit→Act→World→Prop) (p1:w.cell? ⟨bp,1,none⟩=some (.slice Ab nb cb)) (hl:BufsAt w G (.slice Ab nb cb) l) (hn:l.length=nb) (hn2:nb≤32)
   (k1:l.any bad1=false→∀ (pD lN lO lP lQ lR lS lT lU lV lW lX lY lZ l5 l6 l7 l8 l9 mA mB mC mD mE mF mG mH mI mJ mY iS iT iU mZ m9:Value),Q (.exit 2) ⟨#[aB,.pointer (some ⟨bp,0,none⟩),mZ,m9,aC,pD,kX,kY,kZ,lA,lB,lC,aE,aF,aG,aH,aI,aJ,aK,aL,aM,aN,aO,aP,aQ,aR,aS,aT,aU,aV,aW,aX,aY,aZ,a8,bA,bB,bC,bD,bE,bF,bG,bH,bI,bJ,bK,bL,lN,lO,lP,lQ,lR,lS,lT,lU,lV,lW,lX,lY,lZ,l5,l6,l7,l8,l9,mA,mB,mC,mD,mE,mF,mG,mH,mI,mJ,mY,iS,iT,iU,cT,cU,cV,cW,cX,cY,cZ,c8,dA,dB,dC,dD,dE,dF,dG,dH,dI,dJ,dK,dL,dM,dN,dO,dP,dQ,dR,dS,dT,dU,dV,dW,dX,dY,dZ,d7,eA,eB,eC,eD,eE,eF,eG,eH,eI,eJ,eK,eL,eM,eN,eO,eP,eQ,eR,eS,eT,eU,eV,eW,eX,eY,eZ,fA,fB,fC,fD,fE,fF,fG,fH,fI,fJ,fK,fL,fM,fN,fO,fP,fQ,fR,fS,fT,fU,fV,fW,fX,fY,fZ,gA,gC,gD,gE,gF,gG,gH,gI,gJ,gK,gL,gM,gN,gO,gP,gQ,gR,gS,gT,gU,gV,gW,gX,gY,gZ,g9,hJ,hY,hZ,iA,iB,iC,iD,iE],[]⟩ w) (k2:l.any bad1=true→∀ (pD lN lO lP lQ lR lS lT lU lV lW lX lY lZ l5 l6 l7 l8 l9 mA mB mC mD mE mF mG mH mI mJ mY iS iT iU:Value),Q (.ret) ⟨#[aB,.pointer (some ⟨bp,0,none⟩),.int .i64 0,.int .i64 2,aC,pD,kX,kY,kZ,lA,lB,lC,aE,aF,aG,aH,aI,aJ,aK,aL,aM,aN,aO,aP,aQ,aR,aS,aT,aU,aV,aW,aX,aY,aZ,a8,bA,bB,bC,bD,bE,bF,bG,bH,bI,bJ,bK,bL,lN,lO,lP,lQ,lR,lS,lT,lU,lV,lW,lX,lY,lZ,l5,l6,l7,l8,l9,mA,mB,mC,mD,mE,mF,mG,mH,mI,mJ,mY,iS,iT,iU,cT,cU,cV,cW,cX,cY,cZ,c8,dA,dB,dC,dD,dE,dF,dG,dH,dI,dJ,dK,dL,dM,dN,dO,dP,dQ,dR,dS,dT,dU,dV,dW,dX,dY,dZ,d7,eA,eB,eC,eD,eE,eF,eG,eH,eI,eJ,eK,eL,eM,eN,eO,eP,eQ,eR,eS,eT,eU,eV,eW,eX,eY,eZ,fA,fB,fC,fD,fE,fF,fG,fH,fI,fJ,fK,fL,fM,fN,fO,fP,fQ,fR,fS,fT,fU,fV,fW,fX,fY,fZ,gA,gC,gD,gE,gF,gG,gH,gI,gJ,gK,gL,gM,gN,gO,gP,gQ,gR,gS,gT,gU,gV,gW,gX,gY,gZ,g9,hJ,hY,hZ,iA,iB,iC,iD,iE],[]⟩ w):(partL Tryd.f8 2).wp Tryd.prog Q ⟨#[aB,.pointer (some ⟨bp,0,none⟩),kV,kW,aC,.int .i64 0,kX,kY,kZ,lA,lB,lC,aE,aF,aG,aH,aI,aJ,aK,aL,aM,aN,aO,aP,aQ,aR,aS,aT,aU,aV,aW,aX,aY,aZ,a8,bA,bB,bC,bD,bE,bF,bG,bH,bI,bJ,bK,bL,bM,bN,bO,bP,bQ,bS,bT,bU,bV,bW,bX,bY,bZ,b4,b6,cA,cC,cD,cE,cF,cG,cH,cI,cJ,cK,cL,cM,cN,cO,cP,cQ,cR,cT,cU,cV,cW,cX,cY,cZ,c8,dA,dB,dC,dD,dE,dF,dG,dH,dI,dJ,dK,dL,dM,dN,dO,dP,dQ,dR,dS,dT,dU,dV,dW,dX,dY,dZ,d7,eA,eB,eC,eD,eE,eF,eG,eH,eI,eJ,eK,eL,eM,eN,eO,eP,eQ,eR,eS,eT,eU,eV,eW,eX,eY,eZ,fA,fB,fC,fD,fE,fF,fG,fH,fI,fJ,fK,fL,fM,fN,fO,fP,fQ,fR,fS,fT,fU,fV,fW,fX,fY,fZ,gA,gC,gD,gE,gF,gG,gH,gI,gJ,gK,gL,gM,gN,gO,gP,gQ,gR,gS,gT,gU,gV,gW,gX,gY,gZ,g9,hJ,hY,hZ,iA,iB,iC,iD,iE],[]⟩ w:=by
 have HL:=Lh hl
 have HN:=Lh hn
 have K1:=Lh k1
 have K2:=Lh k2
 clear hl hn k1 k2
 conv=>arg 2;whnf
 go_wp2
 go_loop [5] (fun j=>∃ k:Nat,k≤nb∧j=.int .i64 k∧Hid ((l.take k).any bad1=false)) (fun j=>nb - (intOf j).toNat)
 case atStart=>exact ⟨0,by omega,rfl,Lh (by simp)⟩
 case round =>
   obtain ⟨k,hk,rfl,HT⟩:=hrel
   by_cases hlt:k < nb
   · obtain ⟨x,hx⟩:∃ x,l[k]? = some x:=⟨_,List.getElem?_eq_getElem (by have:=HN.out;omega)⟩
     obtain ⟨b,o,rfl,_,c0,c1,_⟩:=HL.out.at_ hx
     have HX:=Lh hx
     have i0:(0:Int)≤(k:Int):=by omega
     have i1:(k:Int) < (nb:Int):=by omega
     obtain ⟨sz,hsz⟩:∃ q,x.size=q:=⟨_,rfl⟩
     obtain ⟨kd,hkd⟩:∃ q,x.kind=q:=⟨_,rfl⟩
     rw [hsz] at c0
     rw [hkd] at c1
     have HSZ:=Lh (And.intro hsz hkd)
     clear hx hsz hkd
     cases d1:decide (sz < (1:Int))
     · cases d2:decide (kd < (1:Int))
       · cases d3:decide ((3:Int) < kd)
         · have HN:=Lh (any_next (p:=bad1) HT.out HX.out (by unfold bad1;rw [HSZ.out.1,HSZ.out.2,d1,d2,d3];rfl))
           go_wp2
           go_round
           case rel=>exact ⟨k+1,by omega,by go_num,HN⟩
           case measure=>simp [intOf];omega
         · have HN:=Lh (any_here (p:=bad1) HX.out (by unfold bad1;rw [HSZ.out.1,HSZ.out.2,d1,d2,d3];rfl))
           go_wp2
           exact K2.out HN.out _ _ _ _ _ _ _ _ _ _ _ _ _ _ _ _ _ _ _ _ _ _ _ _ _ _ _ _ _ _ _ _ _
       · have HN:=Lh (any_here (p:=bad1) HX.out (by unfold bad1;rw [HSZ.out.1,HSZ.out.2,d1,d2];rfl))
         go_wp2
         exact K2.out HN.out _ _ _ _ _ _ _ _ _ _ _ _ _ _ _ _ _ _ _ _ _ _ _ _ _ _ _ _ _ _ _ _ _
     · have HN:=Lh (any_here (p:=bad1) HX.out (by unfold bad1;rw [HSZ.out.1,HSZ.out.2,d1];rfl))
       go_wp2
       exact K2.out HN.out _ _ _ _ _ _ _ _ _ _ _ _ _ _ _ _ _ _ _ _ _ _ _ _ _ _ _ _ _ _ _ _ _
   · have HN:=Lh (any_whole HT.out (by have:=HN.out;omega))
     go_wp2
     exact K1.out HN.out _ _ _ _ _ _ _ _ _ _ _ _ _ _ _ _ _ _ _ _ _ _ _ _ _ _ _ _ _ _ _ _ _ _ _
set_option maxHeartbeats 8000000 in
theorem Rcheck_any (p:LP) (Ab Ao:Option Addr) (nb cb no co:Nat) (w:World) (hp:ProgAt w (fun k=>k < w.heap.size) [.int .i64 p.regs,.slice Ab nb cb,.slice Ao no co] p) :
   Calls Tryd.prog 8 #[.agg #[.int .i64 p.regs,.slice Ab nb cb,.slice Ao no co]] w fun e w'=>e=.returned (.tuple #[.int .i64 (checkF p p.regs.toNat).1,.int .i64 (checkF p p.regs.toNat).2])∧Below w.heap.size w w':=by
 obtain ⟨W,hW,hbW,hzW,hl_,hr_⟩:=boxed w #[.int .i64 p.regs,.slice Ab nb cb,.slice Ao no co] 25
 have hP:W.heap[w.heap.size]? = some (.cells #[.int .i64 p.regs,.slice Ab nb cb,.slice Ao no co] 25 (0,0)):=by rw [hW];exact heap_alloc_new w _
 have c0:W.cell? ⟨w.heap.size,0,none⟩=some (.int .i64 p.regs):=by rw [hl_];rfl
 have c1:W.cell? ⟨w.heap.size,1,none⟩=some (.slice Ab nb cb):=by rw [hl_];rfl
 have c2:W.cell? ⟨w.heap.size,2,none⟩=some (.slice Ao no co):=by rw [hl_];rfl
 have hp1:=prog_next hp hbW
 obtain ⟨hBuf,hOps⟩:BufsAt W (fun k=>k < W.heap.size) (.slice Ab nb cb) p.bufs∧OpsAt W (fun k=>k < W.heap.size) (.slice Ao no co) p.ops:=by
   obtain ⟨vb,vo,h,h1,h2⟩:=hp1.row
   simp only [List.cons.injEq] at h
   rw [h.2.1,h.2.2.1];exact ⟨h1,h2⟩
 have hnb:p.bufs.length=nb:=by obtain ⟨A,c,hv,_⟩:=rows_form hBuf;cases hv;rfl
 have hno:p.ops.length=no:=by obtain ⟨A,c,hv,_⟩:=rows_form hOps;cases hv;rfl
 obtain ⟨r,hr⟩:∃ r,p.regs=r:=⟨_,rfl⟩
 obtain ⟨x1,hx1⟩:∃ x,p.bufs.any big1=x:=⟨_,rfl⟩
 obtain ⟨x2,hx2⟩:∃ x,p.bufs.any bad1=x:=⟨_,rfl⟩
 have HV:=Lh (show headF p=if 64 < r∨32 < nb∨65536 < no then 3 else if x1=true then 3 else if r < 0∨x2=true then 2 else 0 by unfold headF;rw [hr,hnb,hno,←hx1,←hx2];rfl)
 have HCE:=Lh (show ∀ e,e≠0→headF p=e→checkF p p.regs.toNat=(0,e) from fun e h0 h=>by unfold checkF;rw [if_pos (by rw [h];exact h0),h])
 have HX1:=Lh hx1
 have HX2:=Lh hx2
 have HBUF:=Lh hBuf
 have HP:=Lh hp1
 have HPB:=Lh hP
 have HW:=Lh hW
 have HB:=Lh hbW
 have HR:=Lh hr
 have HNB:=Lh hnb
 have HNO:=Lh hno
 have HLT:=Lh (show w.heap.size < W.heap.size by omega)
 rw [hr] at c0
 clear hW hbW hzW hl_ hr_ hP hp hp1 hBuf hOps hnb hno hr hx1 hx2
 go_enter Tryd.func8,Tryd.ntmps8
 go_upto_region 1 with fail
 rw [←HW.out]
 by_cases m1:64 < r
 · have HC:=Lh (HCE.out 3 (by decide) (HV.out.trans (if_pos (.inl m1))))
   have d1:decide ((64:Int) < r)=true:=decide_eq_true m1
   clear m1
   go_wp2
   go_ret2
   rw [HC.out]
   exact ⟨rfl,HB.out⟩
 have d1:decide ((64:Int) < r)=false:=decide_eq_false m1
 by_cases m2:32 < nb
 · have HC:=Lh (HCE.out 3 (by decide) (HV.out.trans (if_pos (.inr (.inl m2)))))
   have d2:decide ((32:Int) < (nb:Int))=true:=decide_eq_true (by omega)
   clear m1 m2
   go_wp2
   go_ret2
   rw [HC.out]
   exact ⟨rfl,HB.out⟩
 have d2:decide ((32:Int) < (nb:Int))=false:=decide_eq_false (by omega)
 by_cases m3:65536 < no
 · have HC:=Lh (HCE.out 3 (by decide) (HV.out.trans (if_pos (.inr (.inr m3)))))
   have d3:decide ((65536:Int) < (no:Int))=true:=decide_eq_true (by omega)
   clear m1 m2 m3
   go_wp2
   go_ret2
   rw [HC.out]
   exact ⟨rfl,HB.out⟩
 have d3:decide ((65536:Int) < (no:Int))=false:=decide_eq_false (by omega)
 have HV:=Lh (HV.out.trans (if_neg (by omega)))
 have hnb32:nb≤32:=by omega
 have hno6:no≤65536:=by omega
 have hr64:r≤64:=by omega
 clear m1 m2 m3
 go_wp2
 refine wp_code (c:=partL Tryd.f8 0) (by kernel_rfl) ?_
 refine rchk_l0 (l:=p.bufs) _ _ c1 HBUF.out HNB.out hnb32 ?_ ?_
 rotate_left
 · intro hb pC mR mS mT mU mV mW mX lD lE lF lG lH lI lJ
   have hx:=HX1.out
   rw [hb] at hx
   have HC:=Lh (HCE.out 3 (by decide) (HV.out.trans (if_pos hx.symm)))
   clear hb hx
   go_wp2
   go_ret2
   rw [HC.out]
   exact ⟨rfl,HB.out⟩
 intro hb0 pC mR mS mT mU mV mW mX lD lE lF lG lH lI lJ mZ m9
 have HV:=Lh (HV.out.trans (if_neg (by rw [←HX1.out,hb0];decide)))
 clear hb0 d1 d2 d3
 by_cases m4:r < 0
 · have HC:=Lh (HCE.out 2 (by decide) (HV.out.trans (if_pos (.inl m4))))
   have d4:decide (r < (0:Int))=true:=decide_eq_true m4
   clear m4
   go_wp2
   go_ret2
   rw [HC.out]
   exact ⟨rfl,HB.out⟩
 have d4:decide (r < (0:Int))=false:=decide_eq_false m4
 go_wp2
 refine wp_code (c:=partL Tryd.f8 2) (by kernel_rfl) ?_
 refine rchk_l2 (l:=p.bufs) _ _ c1 HBUF.out HNB.out hnb32 ?_ ?_
 rotate_left
 · intro hb pD lN lO lP lQ lR lS lT lU lV lW lX lY lZ l5 l6 l7 l8 l9 mA mB mC mD mE mF mG mH mI mJ mY iS iT iU
   have hx:=HX2.out
   rw [hb] at hx
   have HC:=Lh (HCE.out 2 (by decide) (HV.out.trans (if_pos (.inr hx.symm))))
   clear hb hx
   go_wp2
   go_ret2
   rw [HC.out]
   exact ⟨rfl,HB.out⟩
 intro hb2 pD lN lO lP lQ lR lS lT lU lV lW lX lY lZ l5 l6 l7 l8 l9 mA mB mC mD mE mF mG mH mI mJ mY iS iT iU mZ m9
 have HOK:=Lh (show headF p=0 from HV.out.trans (if_neg (by rw [←HX2.out,hb2];simp [m4])))
 obtain ⟨nr,hnr⟩:∃ n:Nat,r=n:=⟨r.toNat,by omega⟩
 subst hnr
 have hmk:=make_bool nr (by omega) W
 clear hb2 d4 m4
 obtain ⟨W1,hW1⟩:∃ q,q=W.alloc (.cells ((List.replicate nr false).map Value.bool).toArray 4):=⟨_,rfl⟩
 rw [←hW1] at hmk
 have hb1:Below W.heap.size W W1:=by rw [hW1];exact (Below.refl _ _).alloc (Nat.le_refl _) _
 obtain ⟨gm,hgm⟩:∃ g,W.heap.size=g:=⟨_,rfl⟩
 have hs0:RSt W1 gm gm nr p ⟨List.replicate nr false,[]⟩ none 0:=by
   refine ⟨?_,by simp,World.ownsRow_nil _ _ _ _,(fun e=>by cases e),by simp,by simp⟩
   rw [←hgm]
   show W1.heap[W.heap.size]? = _
   rw [hW1]
   exact heap_alloc_new W _
 have HS0:=Lh hs0
 have HP1:=Lh (show ∀ wr,Below gm W1 wr→ProgAt wr (fun j=>j < gm) [.int .i64 p.regs,.slice Ab nb cb,.slice Ao no co] p from fun wr hb=>by
   rw [←hgm]
   exact HP.out.keep ((SameOn.of_below hb1 fun _ h=>h).trans (SameOn.of_below (by rw [hgm];exact hb) fun _ h=>h))
   )
 have HPB1:=Lh (show ∀ wr,Below gm W1 wr→wr.heap[w.heap.size]? = some (.cells #[.int .i64 p.regs,.slice Ab nb cb,.slice Ao no co] 25 (0,0)) from fun wr hb=>by
   rw [hb.block _ (by have:=HLT.out;omega),hb1.block _ HLT.out]
   exact HPB.out)
 have HBB:=Lh (show ∀ wr,Below gm W1 wr→Below w.heap.size w wr from fun wr hb=>HB.out.trans ((hb1.trans (by rw [hgm];exact hb)).mono HB.out.size))
 have e2:W1.cell? ⟨w.heap.size,2,none⟩=some (.slice Ao no co):=by rw [hb1.cell (p:=⟨w.heap.size,2,none⟩) HLT.out];exact c2
 have HLG:=Lh (show w.heap.size < gm by have:=HLT.out;omega)
 have E2:=Lh e2
 rw [hgm] at hmk
 have HRN:=Lh (show p.regs.toNat=nr by rw [HR.out];simp)
 clear hW1 hb1 hs0
 go_upto_region 16 with fail
 clear hmk c0 c1 c2
 go_wp2
 go_loopw [7,8] (fun v i wr=>∃ (k:Nat) (A:Option Addr) (c:Nat),k≤no∧i=.int .i64 k∧v=.slice A (runTo p nr k).2.2.loops.length c∧(runTo p nr k).1=0∧RSt wr gm gm nr p (runTo p nr k).2.2 A c∧Below gm W1 wr) (fun _ i _=>no - (intOf i).toNat)
 case atStart=>exact ⟨0,none,0,by omega,rfl,rfl,rfl,HS0.out,Below.refl _ _⟩
 case round =>
   obtain ⟨k,A,c,hk,rfl,rfl,hr0,hst,hbl⟩:=hrel
   have HR0:=Lh hr0
   have HST:=Lh hst
   have HBL:=Lh hbl
   have e2:=(hbl.cell (p:=⟨w.heap.size,2,none⟩) HLG.out).trans E2.out
   clear hr0 hst hbl
   by_cases hlt:k < no
   · obtain ⟨o,ho⟩:∃ o,p.ops[k]? = some o:=⟨_,List.getElem?_eq_getElem (by rw [HNO.out];omega)⟩
     have HO:=Lh ho
     have HNX:=Lh (run_next HR0.out ho)
     clear ho
     go_upto_region 20 with fail
     refine wp_code (c:=partR Tryd.f8 20) (by kernel_rfl) ?_
     refine rchk_t20 (p:=p) (o:=o) (s:=(runTo p nr k).2.2) (B0:=gm) (gm:=gm) (k:=k) _ _ (HPB1.out _ HBL.out) (HP1.out _ HBL.out) (Nat.le_refl _) HO.out HST.out HOK.out HR.out ?_ ?_ (fun a_ w_ h_=>(‹∀ (a:Act) (w:World),Code.wp _ _ _ a w→_› : _) a_ w_ (wp_code (by kernel_rfl) h_))
     · intro h0 ex hex A' c' mZ m9 mM mN mO mP nA nQ jC jD jE jF jG jH jI jJ jK jL jM jO jP jQ jR jS jT jU jV jW jX jY jZ j5 j6 j7 j8 j9 kF kG kH kI kJ kK kL kN kO kP kQ kR kS kT kU m5 m6 m7 m8 oB oC oD oE oF oG oH oI oJ oK oL oM oN oO oP oQ oS oT oU oV nB nC nD nE nF nG nH nI nJ nK nL nM nN nO nP nR nS nT nU nV nW nX nY nZ n8 n9 oA oW oX oY oZ o8 o9 pA pB w' hb' hs'
       have HS':=Lh hs'
       have HB':=Lh (HBL.out.trans hb')
       have HN:=Lh (HNX.out.trans (if_neg (by rw [h0];decide)))
       clear h0 hb' hs'
       rcases hex with rfl | rfl
       · go_wp2
         go_roundw
         case rel=>exact ⟨k+1,A',c',by omega,by go_num,by rw [HN.out],by rw [HN.out],by rw [HN.out];exact HS'.out,HB'.out⟩
         case measure=>simp [intOf];omega
       · go_wp2
         go_roundw
         case rel=>exact ⟨k+1,A',c',by omega,by go_num,by rw [HN.out],by rw [HN.out],by rw [HN.out];exact HS'.out,HB'.out⟩
         case measure=>simp [intOf];omega
     · intro h0 mK mM mN mO mP nA nQ jC jD jE jF jG jH jI jJ jK jL jM jO jP jQ jR jS jT jU jV jW jX jY jZ j5 j6 j7 j8 j9 kF kG kH kI kJ kK kL kN kO kP kQ kR kS kT kU m5 m6 m7 m8 oB oC oD oE oF oG oH oI oJ oK oL oM oN oO oP oQ oS oT oU oV nB nC nD nE nF nG nH nI nJ nK nL nM nN nO nP nR nS nT nU nV nW nX nY nZ n8 n9 oA oW oX oY oZ o8 o9 pA pB w' hb'
       have HC:=Lh (check_at HOK.out HR0.out HO.out h0)
       have HB':=Lh (HBB.out _ (HBL.out.trans (hb'.mono (by have:=lt_of_block HST.out.made;omega))))
       clear h0 hb'
       go_wp2
       go_ret2
       rw [HRN.out,HC.out]
       exact ⟨rfl,HB'.out⟩
   · have hkn:p.ops.length=k:=by have:=HNO.out;omega
     have HC:=Lh (check_end HOK.out (by rw [hkn];exact HR0.out))
     rw [hkn] at HC
     obtain ⟨l,hl⟩:∃ l,(runTo p nr k).2.2.loops=l:=⟨_,rfl⟩
     rw [hl] at HC ⊢
     clear hkn hl
     cases l with
     | nil =>
       have HC:=Lh (show checkF p nr=((k:Int),0) from HC.out.trans (if_neg (by simp)))
       have d1:decide ((0:Int) < ((List.length ([]:List Int):Nat):Int))=false:=rfl
       go_wp2
       go_ret2
       rw [HRN.out,HC.out]
       refine ⟨by rw [show k=no by omega];rfl,HBB.out _ HBL.out⟩
     | cons r l =>
       have HC:=Lh (show checkF p nr=((k:Int),9) from HC.out.trans (if_pos (by simp)))
       have d1:decide ((0:Int) < ((List.length (r :: l):Nat):Int))=true:=by simp
       go_wp2
       go_ret2
       rw [HRN.out,HC.out]
       refine ⟨by rw [show k=no by omega];rfl,HBB.out _ HBL.out⟩
end Go.Proofs.YtppoiahhaclleaaDoor
