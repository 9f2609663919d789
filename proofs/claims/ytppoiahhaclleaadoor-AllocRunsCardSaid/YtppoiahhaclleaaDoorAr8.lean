/- Part 8 of a claim; what it proves stands in its last text. -/
import Derived.Test.YtppoiahhaclleaaDoorAr7
import Derived.Test.YtppoiahhaclleaaDoorAr6
namespace Go.Proofs.YtppoiahhaclleaaDoor
open Go.RowKit
set_option maxRecDepth 100000
set_option maxHeartbeats 8000000 in
theorem Rfields_14 (p:LP) (Ab Ao:Option Addr) (nb cb no co:Nat) (o:LOp) (w:World) (hp:ProgAt w (fun k=>k < w.heap.size) [.int .i64 p.regs,.slice Ab nb cb,.slice Ao no co] p) (hs:∀ b∈p.bufs,0≤b.size) (hk:o.kind=14) :
   Calls Tryd.prog 27 #[.agg #[.int .i64 p.regs,.slice Ab nb cb,.slice Ao no co],.agg (opRow o).toArray] w fun e w'=>e=.returned (.bool (fieldsF p o))∧Below w.heap.size w w':=by
 obtain ⟨W,hW,hbW,hzW,kp,ko⟩:=two_rows w [.int .i64 p.regs,.slice Ab nb cb,.slice Ao no co] o 25 47
 have HW:=Lh hW
 have HB:=Lh hbW
 have KP:=Lh kp
 have KO:=Lh ko
 have LW:=Lh (show w.heap.size+1 < W.heap.size by omega)
 have hBuf:BufsAt w (fun k=>k < w.heap.size) (.slice Ab nb cb) p.bufs:=by
   obtain ⟨vb,vo,h,h1,_⟩:=hp.row
   simp only [List.cons.injEq] at h
   rw [h.2.1];exact h1
 have hnb:=hp.nb
 obtain ⟨A',c',hv,hlen⟩:=rows_form hBuf
 cases hv
 have c0:W.cell? ⟨w.heap.size+1,0,none⟩=some (.int .i64 o.kind):=by simp only [World.cell?,ko];rfl
 have c3:W.cell? ⟨w.heap.size+1,3,none⟩=some (.int .i64 o.a):=by simp only [World.cell?,ko];rfl
 have c6:W.cell? ⟨w.heap.size+1,6,none⟩=some (.int .i64 o.buf):=by simp only [World.cell?,ko];rfl
 have c7:W.cell? ⟨w.heap.size+1,7,none⟩=some (.int .u64 o.imm):=by simp only [World.cell?,ko];rfl
 have d1:W.cell? ⟨w.heap.size,1,none⟩=some (.slice Ab p.bufs.length cb):=by simp only [World.cell?,kp];rfl
 rw [hk] at c0
 obtain ⟨m,hm⟩:∃ m,o.imm=m:=⟨_,rfl⟩
 obtain ⟨z,hz⟩:∃ z,o.buf=z:=⟨_,rfl⟩
 obtain ⟨a,ha⟩:∃ a,o.a=a:=⟨_,rfl⟩
 obtain ⟨X,hX⟩:∃ X,(regIs p o.d true && (regIs p o.e false && ((regIs p o.a true || (true && o.a == -1)) && (regIs p o.b false && (regIs p o.c false && !(false && o.d == o.e))))))=X:=⟨_,rfl⟩
 have hf:fieldsF p o=(X && bufOk p o):=by
   rw [fields_split (by omega) (by omega),←hX]
   unfold regsB
   rw [hk]
   rfl
 obtain ⟨R,hR⟩:∃ R,fieldsF p o=R:=⟨_,rfl⟩
 rw [hR]
 rw [hR] at hf
 have HX:=Lh hX
 have hbo:bufOk p o=(decide (0≤z) && (decide (z < p.bufs.length) && match p.bufs[z.toNat]? with
     | some b=>!(14 == 15 && b.kind == 1) && (!(a == -1) || decide ((m:Int) < b.size))
     | none=>false)):=by
   unfold bufOk kM
   rw [hk,←hm,←hz,←ha]
   rfl
 rw [hbo] at hf
 rw [hm] at c7
 rw [hz] at c6
 rw [ha] at c3
 have CC:=Lh (And.intro c3 (And.intro c6 (And.intro c7 d1)))
 have HBUF:=Lh hBuf
 have HS:=Lh hs
 have HSZ:=Lh hp.size
 have HF:=Lh hf
 have LW0:=Lh (show w.heap.size < W.heap.size by omega)
 have LWW:=Lh hbW.size
 obtain ⟨n,hn⟩:∃ n,p.bufs.length=n:=⟨_,rfl⟩
 have HN:=Lh hn
 rw [hn] at hnb
 clear hbo hf hm hz ha hX hR hk c3 c6 c7 d1 hp hs hlen hBuf hW hbW hzW kp ko hn
 go_enter Tryd.func27,Tryd.ntmps27
 go_upto_region 1 with fail
 rw [←HW.out]
 go_upto_region 10 with fail
 refine wp_code (c:=partR Tryd.f27 10) (by kernel_rfl) ?_
 refine rfields_r10 p Ab Ao p.bufs.length cb no co o _ _ true true false true false false _ _ _ _ _ _ _ _ _ _ _ _ _ _ _ _ _ _ _ _ _ _ _ _ _ _ _ _ _ _ _ _ _ _ _ _ _ _ _ _ _ _ _ _ _ _ _ _ _ _ _ _ _ _ _ _ _ _ _ _ _ _ _ _ _ _ _ _ _ _ _ _ _ _ _ _ _ _ _ _ _ _ _ _ _ _ _ _ _ _ _ _ _ _ _ _ _ _ _ _ _ _ _ _ _ _ _ _ _ _ _ _ _ _ _ _ _ _ _ _ _ _ _ _ _ _ _ _ _ _ _ _ _ _ _ _ _ _ _ _ _ _ _ _ _ _ _ _ _ _ _ _ _ _ _ _ _ _ _ _ _ _ _ _ _ _ _ _ _ _ _ _ _ _ _ _ _ _ _ _ _ _ _ _ _ _ _ _ _ _ _ _ _ _ _ _ _ _ _ _ _ _ _ _ _ _ KP.out KO.out ?_
 intro _ _ _ _ _ _ _ _ _ _ _ _ _ _ _ _ _ _ _ _ _ _ _ _ _ _ _ _ _ _ _ _ _ _ _ _ _ _ _ _ _ _ _ _ _ _ _ _ _ _ _ _ _ _ _ _ w2 hb2
 rw [HX.out]
 have c3:=(hb2.cell (p:=⟨w.heap.size+1,3,none⟩) LW.out).trans CC.out.1
 have c6:=(hb2.cell (p:=⟨w.heap.size+1,6,none⟩) LW.out).trans CC.out.2.1
 have c7:=(hb2.cell (p:=⟨w.heap.size+1,7,none⟩) LW.out).trans CC.out.2.2.1
 have d1:=(hb2.cell (p:=⟨w.heap.size,1,none⟩) LW0.out).trans CC.out.2.2.2
 rw [HN.out] at d1
 have HB2:=Lh hb2
 clear hb2 c0
 cases X
 · have HR:=Lh (show R=false by rw [HF.out];rfl)
   go_wp2
   go_ret
   refine ⟨ret_bool ?_,HB.out.trans (HB2.out.mono HB.out.size)⟩
   rw [HR.out]
 by_cases z0:z < 0
 · have g0:decide (z < 0)=true:=decide_eq_true z0
   have HR:=Lh (show R=false by rw [HF.out,decide_eq_false (by omega:¬ 0≤z)];rfl)
   clear z0
   go_wp2
   go_ret
   refine ⟨ret_bool ?_,HB.out.trans (HB2.out.mono HB.out.size)⟩
   rw [HR.out]
 have g0:decide (z < 0)=false:=decide_eq_false z0
 by_cases z1:(n:Int)≤z
 · have g1:decide ((n:Int)≤z)=true:=decide_eq_true z1
   have HR:=Lh (show R=false by rw [HF.out,HN.out,decide_eq_false (by omega:¬ z < (n:Int))];simp)
   clear z0 z1
   go_wp2
   go_ret
   refine ⟨ret_bool ?_,HB.out.trans (HB2.out.mono HB.out.size)⟩
   rw [HR.out]
 have g1:decide ((n:Int)≤z)=false:=decide_eq_false z1
 obtain ⟨q,hq⟩:∃ q:Nat,z=q:=⟨z.toNat,by omega⟩
 subst hq
 have hqn:q < p.bufs.length:=by rw [HN.out];omega
 obtain ⟨bf,hbf⟩:∃ bf,p.bufs[q]? = some bf:=⟨_,List.getElem?_eq_getElem hqn⟩
 have hsz:=HS.out bf (List.mem_of_getElem? hbf)
 have hsy:=(HSZ.out bf (List.mem_of_getElem? hbf)).2
 have hr:=HF.out
 rw [HN.out,decide_eq_true (by omega:(0:Int)≤(q:Int)),decide_eq_true (by omega:(q:Int) < (n:Int)),Int.toNat_natCast,hbf] at hr
 simp only [Bool.true_and] at hr
 have HR0:=Lh hr
 obtain ⟨b,off,hA,hF,x0,x1,_⟩:=HBUF.out.at_ hbf
 subst hA
 have lb:b < W.heap.size:=by have:=LWW.out;omega
 have y0:=(HB2.out.cell (p:=⟨b,off+q*3,none⟩) lb).trans ((HB.out.cell (p:=⟨b,off+q*3,none⟩) hF).trans x0)
 have y1:=(HB2.out.cell (p:=⟨b,off+q*3+1,none⟩) lb).trans ((HB.out.cell (p:=⟨b,off+q*3+1,none⟩) hF).trans x1)
 have q0:(0:Int)≤(q:Int):=by omega
 have q1:(q:Int) < (n:Int):=by omega
 have l2:b < w2.heap.size:=Nat.lt_of_lt_of_le lb HB2.out.size
 have l3:w.heap.size < w2.heap.size:=Nat.lt_of_lt_of_le LW0.out HB2.out.size
 have l4:w.heap.size+1 < w2.heap.size:=Nat.lt_of_lt_of_le LW.out HB2.out.size
 obtain ⟨r,hrr⟩:∃ r,bf.size=r:=⟨_,rfl⟩
 obtain ⟨kb,hkb⟩:∃ kb,bf.kind=kb:=⟨_,rfl⟩
 rw [hrr] at y0 hsz hsy
 rw [hkb] at y1
 have HRR:=Lh hrr
 have HKB:=Lh hkb
 clear hr hbf hqn x0 x1 hF lb z0 z1 hrr hkb
 have e64:IntKind.u64.wrap r=r:=by simp [IntKind.wrap,IntKind.bits,IntKind.signed];omega
 by_cases a1:a = -1
 · subst a1
   have g2:((-1:Int) != -1)=false:=rfl
   have HR:=Lh (show R=decide ((m:Int) < r) by rw [HR0.out,HRR.out];rfl)
   obtain ⟨W3,rfl⟩:∃ q:World,q=w2:=⟨_,rfl⟩
   go_wp2
   (refine wp_region_lines (Below W3.heap.size W3) (by kernel_rfl) (by kernel_rfl) (Below.refl _ _).drew ?_)
   have hS:=(Below.refl W3.heap.size W3).drew
   (try simp only [])
   repeat (first | (refine runL_no (by rfl) ?_;(try simp only [Act.put,List.setIfInBounds_toArray,List.set_cons_zero,List.set_cons_succ])) | (refine runL_val (v:=?_) (by rfl) ?_ ?_;rotate_left;(focus (intro w_ hw_;have hc_:=bcell hw_;go_simp;(try with_reducible rfl);done));(try simp only [Act.put,List.setIfInBounds_toArray,List.set_cons_zero,List.set_cons_succ])))
   (refine runL_nil ?_)
   go_wp2
   go_ret
   refine ⟨ret_bool ?_,HB.out.trans ((HB2.out.trans (hS.mono HB2.out.size)).mono HB.out.size)⟩
   rw [HR.out]
 · have g2:(a != -1)=true:=by simpa using a1
   have HR:=Lh (show R=true by rw [HR0.out,show (a == -1)=false by simpa using a1];rfl)
   clear a1
   obtain ⟨W3,rfl⟩:∃ q:World,q=w2:=⟨_,rfl⟩
   go_wp2
   (refine wp_region_lines (Below W3.heap.size W3) (by kernel_rfl) (by kernel_rfl) (Below.refl _ _).drew ?_)
   have hS:=(Below.refl W3.heap.size W3).drew
   (try simp only [])
   repeat (first | (refine runL_no (by rfl) ?_;(try simp only [Act.put,List.setIfInBounds_toArray,List.set_cons_zero,List.set_cons_succ])) | (refine runL_val (v:=?_) (by rfl) ?_ ?_;rotate_left;(focus (intro w_ hw_;have hc_:=bcell hw_;go_simp;(try with_reducible rfl);done));(try simp only [Act.put,List.setIfInBounds_toArray,List.set_cons_zero,List.set_cons_succ])))
   (refine runL_nil ?_)
   go_wp2
   go_ret
   refine ⟨ret_bool ?_,HB.out.trans ((HB2.out.trans (hS.mono HB2.out.size)).mono HB.out.size)⟩
   rw [HR.out]
set_option maxHeartbeats 8000000 in
theorem Rfields_15 (p:LP) (Ab Ao:Option Addr) (nb cb no co:Nat) (o:LOp) (w:World) (hp:ProgAt w (fun k=>k < w.heap.size) [.int .i64 p.regs,.slice Ab nb cb,.slice Ao no co] p) (hs:∀ b∈p.bufs,0≤b.size) (hk:o.kind=15) :
   Calls Tryd.prog 27 #[.agg #[.int .i64 p.regs,.slice Ab nb cb,.slice Ao no co],.agg (opRow o).toArray] w fun e w'=>e=.returned (.bool (fieldsF p o))∧Below w.heap.size w w':=by
 obtain ⟨W,hW,hbW,hzW,kp,ko⟩:=two_rows w [.int .i64 p.regs,.slice Ab nb cb,.slice Ao no co] o 25 47
 have HW:=Lh hW
 have HB:=Lh hbW
 have KP:=Lh kp
 have KO:=Lh ko
 have LW:=Lh (show w.heap.size+1 < W.heap.size by omega)
 have hBuf:BufsAt w (fun k=>k < w.heap.size) (.slice Ab nb cb) p.bufs:=by
   obtain ⟨vb,vo,h,h1,_⟩:=hp.row
   simp only [List.cons.injEq] at h
   rw [h.2.1];exact h1
 have hnb:=hp.nb
 obtain ⟨A',c',hv,hlen⟩:=rows_form hBuf
 cases hv
 have c0:W.cell? ⟨w.heap.size+1,0,none⟩=some (.int .i64 o.kind):=by simp only [World.cell?,ko];rfl
 have c3:W.cell? ⟨w.heap.size+1,3,none⟩=some (.int .i64 o.a):=by simp only [World.cell?,ko];rfl
 have c6:W.cell? ⟨w.heap.size+1,6,none⟩=some (.int .i64 o.buf):=by simp only [World.cell?,ko];rfl
 have c7:W.cell? ⟨w.heap.size+1,7,none⟩=some (.int .u64 o.imm):=by simp only [World.cell?,ko];rfl
 have d1:W.cell? ⟨w.heap.size,1,none⟩=some (.slice Ab p.bufs.length cb):=by simp only [World.cell?,kp];rfl
 rw [hk] at c0
 obtain ⟨m,hm⟩:∃ m,o.imm=m:=⟨_,rfl⟩
 obtain ⟨z,hz⟩:∃ z,o.buf=z:=⟨_,rfl⟩
 obtain ⟨a,ha⟩:∃ a,o.a=a:=⟨_,rfl⟩
 obtain ⟨X,hX⟩:∃ X,(regIs p o.d false && (regIs p o.e false && ((regIs p o.a true || (true && o.a == -1)) && (regIs p o.b true && (regIs p o.c false && !(false && o.d == o.e))))))=X:=⟨_,rfl⟩
 have hf:fieldsF p o=(X && bufOk p o):=by
   rw [fields_split (by omega) (by omega),←hX]
   unfold regsB
   rw [hk]
   rfl
 obtain ⟨R,hR⟩:∃ R,fieldsF p o=R:=⟨_,rfl⟩
 rw [hR]
 rw [hR] at hf
 have HX:=Lh hX
 have hbo:bufOk p o=(decide (0≤z) && (decide (z < p.bufs.length) && match p.bufs[z.toNat]? with
     | some b=>!(15 == 15 && b.kind == 1) && (!(a == -1) || decide ((m:Int) < b.size))
     | none=>false)):=by
   unfold bufOk kM
   rw [hk,←hm,←hz,←ha]
   rfl
 rw [hbo] at hf
 rw [hm] at c7
 rw [hz] at c6
 rw [ha] at c3
 have CC:=Lh (And.intro c3 (And.intro c6 (And.intro c7 d1)))
 have HBUF:=Lh hBuf
 have HS:=Lh hs
 have HSZ:=Lh hp.size
 have HF:=Lh hf
 have LW0:=Lh (show w.heap.size < W.heap.size by omega)
 have LWW:=Lh hbW.size
 obtain ⟨n,hn⟩:∃ n,p.bufs.length=n:=⟨_,rfl⟩
 have HN:=Lh hn
 rw [hn] at hnb
 clear hbo hf hm hz ha hX hR hk c3 c6 c7 d1 hp hs hlen hBuf hW hbW hzW kp ko hn
 go_enter Tryd.func27,Tryd.ntmps27
 go_upto_region 1 with fail
 rw [←HW.out]
 go_upto_region 10 with fail
 refine wp_code (c:=partR Tryd.f27 10) (by kernel_rfl) ?_
 refine rfields_r10 p Ab Ao p.bufs.length cb no co o _ _ true false false true true false _ _ _ _ _ _ _ _ _ _ _ _ _ _ _ _ _ _ _ _ _ _ _ _ _ _ _ _ _ _ _ _ _ _ _ _ _ _ _ _ _ _ _ _ _ _ _ _ _ _ _ _ _ _ _ _ _ _ _ _ _ _ _ _ _ _ _ _ _ _ _ _ _ _ _ _ _ _ _ _ _ _ _ _ _ _ _ _ _ _ _ _ _ _ _ _ _ _ _ _ _ _ _ _ _ _ _ _ _ _ _ _ _ _ _ _ _ _ _ _ _ _ _ _ _ _ _ _ _ _ _ _ _ _ _ _ _ _ _ _ _ _ _ _ _ _ _ _ _ _ _ _ _ _ _ _ _ _ _ _ _ _ _ _ _ _ _ _ _ _ _ _ _ _ _ _ _ _ _ _ _ _ _ _ _ _ _ _ _ _ _ _ _ _ _ _ _ _ _ _ _ _ _ _ _ _ KP.out KO.out ?_
 intro _ _ _ _ _ _ _ _ _ _ _ _ _ _ _ _ _ _ _ _ _ _ _ _ _ _ _ _ _ _ _ _ _ _ _ _ _ _ _ _ _ _ _ _ _ _ _ _ _ _ _ _ _ _ _ _ w2 hb2
 rw [HX.out]
 have c3:=(hb2.cell (p:=⟨w.heap.size+1,3,none⟩) LW.out).trans CC.out.1
 have c6:=(hb2.cell (p:=⟨w.heap.size+1,6,none⟩) LW.out).trans CC.out.2.1
 have c7:=(hb2.cell (p:=⟨w.heap.size+1,7,none⟩) LW.out).trans CC.out.2.2.1
 have d1:=(hb2.cell (p:=⟨w.heap.size,1,none⟩) LW0.out).trans CC.out.2.2.2
 rw [HN.out] at d1
 have HB2:=Lh hb2
 clear hb2 c0
 cases X
 · have HR:=Lh (show R=false by rw [HF.out];rfl)
   go_wp2
   go_ret
   refine ⟨ret_bool ?_,HB.out.trans (HB2.out.mono HB.out.size)⟩
   rw [HR.out]
 by_cases z0:z < 0
 · have g0:decide (z < 0)=true:=decide_eq_true z0
   have HR:=Lh (show R=false by rw [HF.out,decide_eq_false (by omega:¬ 0≤z)];rfl)
   clear z0
   go_wp2
   go_ret
   refine ⟨ret_bool ?_,HB.out.trans (HB2.out.mono HB.out.size)⟩
   rw [HR.out]
 have g0:decide (z < 0)=false:=decide_eq_false z0
 by_cases z1:(n:Int)≤z
 · have g1:decide ((n:Int)≤z)=true:=decide_eq_true z1
   have HR:=Lh (show R=false by rw [HF.out,HN.out,decide_eq_false (by omega:¬ z < (n:Int))];simp)
   clear z0 z1
   go_wp2
   go_ret
   refine ⟨ret_bool ?_,HB.out.trans (HB2.out.mono HB.out.size)⟩
   rw [HR.out]
 have g1:decide ((n:Int)≤z)=false:=decide_eq_false z1
 obtain ⟨q,hq⟩:∃ q:Nat,z=q:=⟨z.toNat,by omega⟩
 subst hq
 have hqn:q < p.bufs.length:=by rw [HN.out];omega
 obtain ⟨bf,hbf⟩:∃ bf,p.bufs[q]? = some bf:=⟨_,List.getElem?_eq_getElem hqn⟩
 have hsz:=HS.out bf (List.mem_of_getElem? hbf)
 have hsy:=(HSZ.out bf (List.mem_of_getElem? hbf)).2
 have hr:=HF.out
 rw [HN.out,decide_eq_true (by omega:(0:Int)≤(q:Int)),decide_eq_true (by omega:(q:Int) < (n:Int)),Int.toNat_natCast,hbf] at hr
 simp only [Bool.true_and] at hr
 have HR0:=Lh hr
 obtain ⟨b,off,hA,hF,x0,x1,_⟩:=HBUF.out.at_ hbf
 subst hA
 have lb:b < W.heap.size:=by have:=LWW.out;omega
 have y0:=(HB2.out.cell (p:=⟨b,off+q*3,none⟩) lb).trans ((HB.out.cell (p:=⟨b,off+q*3,none⟩) hF).trans x0)
 have y1:=(HB2.out.cell (p:=⟨b,off+q*3+1,none⟩) lb).trans ((HB.out.cell (p:=⟨b,off+q*3+1,none⟩) hF).trans x1)
 have q0:(0:Int)≤(q:Int):=by omega
 have q1:(q:Int) < (n:Int):=by omega
 have l2:b < w2.heap.size:=Nat.lt_of_lt_of_le lb HB2.out.size
 have l3:w.heap.size < w2.heap.size:=Nat.lt_of_lt_of_le LW0.out HB2.out.size
 have l4:w.heap.size+1 < w2.heap.size:=Nat.lt_of_lt_of_le LW.out HB2.out.size
 obtain ⟨r,hrr⟩:∃ r,bf.size=r:=⟨_,rfl⟩
 obtain ⟨kb,hkb⟩:∃ kb,bf.kind=kb:=⟨_,rfl⟩
 rw [hrr] at y0 hsz hsy
 rw [hkb] at y1
 have HRR:=Lh hrr
 have HKB:=Lh hkb
 clear hr hbf hqn x0 x1 hF lb z0 z1 hrr hkb
 have e64:IntKind.u64.wrap r=r:=by simp [IntKind.wrap,IntKind.bits,IntKind.signed];omega
 cases k1:(kb == 1)
 · have K1:=Lh k1
   by_cases a1:a = -1
   · subst a1
     have g2:((-1:Int) != -1)=false:=rfl
     have HR:=Lh (show R=decide ((m:Int) < r) by rw [HR0.out,HRR.out,HKB.out,K1.out];rfl)
     obtain ⟨W3,rfl⟩:∃ q:World,q=w2:=⟨_,rfl⟩
     go_wp2
     (refine wp_region_lines (Below W3.heap.size W3) (by kernel_rfl) (by kernel_rfl) (Below.refl _ _).drew ?_)
     have hS:=(Below.refl W3.heap.size W3).drew
     (try simp only [])
     repeat (first | (refine runL_no (by rfl) ?_;(try simp only [Act.put,List.setIfInBounds_toArray,List.set_cons_zero,List.set_cons_succ])) | (refine runL_val (v:=?_) (by rfl) ?_ ?_;rotate_left;(focus (intro w_ hw_;have hc_:=bcell hw_;go_simp;(try with_reducible rfl);done));(try simp only [Act.put,List.setIfInBounds_toArray,List.set_cons_zero,List.set_cons_succ])))
     (refine runL_nil ?_)
     go_wp2
     go_ret
     refine ⟨ret_bool ?_,HB.out.trans ((HB2.out.trans (hS.mono HB2.out.size)).mono HB.out.size)⟩
     rw [HR.out]
   · have g2:(a != -1)=true:=by simpa using a1
     have HR:=Lh (show R=true by rw [HR0.out,HKB.out,K1.out,show (a == -1)=false by simpa using a1];rfl)
     clear a1
     obtain ⟨W3,rfl⟩:∃ q:World,q=w2:=⟨_,rfl⟩
     go_wp2
     (refine wp_region_lines (Below W3.heap.size W3) (by kernel_rfl) (by kernel_rfl) (Below.refl _ _).drew ?_)
     have hS:=(Below.refl W3.heap.size W3).drew
     (try simp only [])
     repeat (first | (refine runL_no (by rfl) ?_;(try simp only [Act.put,List.setIfInBounds_toArray,List.set_cons_zero,List.set_cons_succ])) | (refine runL_val (v:=?_) (by rfl) ?_ ?_;rotate_left;(focus (intro w_ hw_;have hc_:=bcell hw_;go_simp;(try with_reducible rfl);done));(try simp only [Act.put,List.setIfInBounds_toArray,List.set_cons_zero,List.set_cons_succ])))
     (refine runL_nil ?_)
     go_wp2
     go_ret
     refine ⟨ret_bool ?_,HB.out.trans ((HB2.out.trans (hS.mono HB2.out.size)).mono HB.out.size)⟩
     rw [HR.out]
 · have HR:=Lh (show R=false by rw [HR0.out,HKB.out,k1];rfl)
   go_wp2
   go_ret
   refine ⟨ret_bool ?_,HB.out.trans (HB2.out.mono HB.out.size)⟩
   rw [HR.out]
theorem Rfields_any (p:LP) (Ab Ao:Option Addr) (nb cb no co:Nat) (o:LOp) (w:World) (hp:ProgAt w (fun k=>k < w.heap.size) [.int .i64 p.regs,.slice Ab nb cb,.slice Ao no co] p) (hs:∀ b∈p.bufs,0≤b.size) :
   Calls Tryd.prog 27 #[.agg #[.int .i64 p.regs,.slice Ab nb cb,.slice Ao no co],.agg (opRow o).toArray] w fun e w'=>e=.returned (.bool (fieldsF p o))∧Below w.heap.size w w':=by
 rcases kind_cases o.kind with h | h | h | h | h | h | h | h | h | h | h | h | h | h | h | h | h | h
 · exact Rfields_1 p Ab Ao nb cb no co o w h
 · exact Rfields_2 p Ab Ao nb cb no co o w h
 · exact Rfields_3 p Ab Ao nb cb no co o w h
 · exact Rfields_4 p Ab Ao nb cb no co o w h
 · exact Rfields_5 p Ab Ao nb cb no co o w h
 · exact Rfields_6 p Ab Ao nb cb no co o w h
 · exact Rfields_7 p Ab Ao nb cb no co o w h
 · exact Rfields_8 p Ab Ao nb cb no co o w h
 · exact Rfields_9 p Ab Ao nb cb no co o w h
 · exact Rfields_10 p Ab Ao nb cb no co o w h
 · exact Rfields_11 p Ab Ao nb cb no co o w h
 · exact Rfields_12 p Ab Ao nb cb no co o w h
 · exact Rfields_13 p Ab Ao nb cb no co o w h
 · exact Rfields_14 p Ab Ao nb cb no co o w hp hs h
 · exact Rfields_15 p Ab Ao nb cb no co o w hp hs h
 · exact Rfields_16 p Ab Ao nb cb no co o w h
 · exact Rfields_17 p Ab Ao nb cb no co o w h
 · exact Rfields_bad p Ab Ao nb cb no co o w h
end Go.Proofs.YtppoiahhaclleaaDoor
namespace Go.Proofs.YtppoiahhaclleaaDoor
open Go.RowKit
set_option maxRecDepth 100000
def New (w w':World):Nat→Prop:=fun j=>w.heap.size≤j∧j < w'.heap.size
def NewNums (w w':World) (v:Value) (l:List Int):Prop:=Below w.heap.size w w'∧NumsAt w' (New w w') v l
theorem nums_nil (w:World) (F:Nat→Prop):NumsAt w F (.slice none 0 0) []:=⟨none,0,rfl,by simp,by simp,fun h=>absurd rfl h⟩
theorem new_none {w W:World} (hb:Below w.heap.size w W):NewNums w W (.slice none 0 0) []:=⟨hb,nums_nil _ _⟩
theorem new_nums {w W:World} (hb:Below w.heap.size w W) (l:List Int):NewNums w (W.alloc (.cells (intV l).toArray 3)) (.slice (some ⟨W.heap.size,0,none⟩) l.length l.length) l :=
 ⟨hb.alloc hb.size _,(nums_blk (g:=W.heap.size) (t:=3) (heap_alloc_new W _)).mono fun k hk=>by subst hk;exact ⟨hb.size,by simp⟩⟩
set_option maxHeartbeats 4000000 in
theorem Takes_any (o:LOp) (w:World) (h1:1≤o.kind) (h2:o.kind≤17):Calls Tryd.prog 29 #[.agg (opRow o).toArray] w fun e w'=>∃ v,e=.returned v∧NewNums w w' v (takesF o):=by
 obtain ⟨W,hW,hbW,hzW,hl_,hr_⟩:=boxed w (opRow o).toArray 47
 have hO:W.heap[w.heap.size]? = some (.cells (opRow o).toArray 47 (0,0)):=by rw [hW];exact heap_alloc_new w _
 have c0:W.cell? ⟨w.heap.size,0,none⟩=some (.int .i64 o.kind):=cell_row hO rfl
 have c1:W.cell? ⟨w.heap.size,1,none⟩=some (.int .i64 o.d):=cell_row hO rfl
 have c2:W.cell? ⟨w.heap.size,2,none⟩=some (.int .i64 o.e):=cell_row hO rfl
 have c3:W.cell? ⟨w.heap.size,3,none⟩=some (.int .i64 o.a):=cell_row hO rfl
 have c4:W.cell? ⟨w.heap.size,4,none⟩=some (.int .i64 o.b):=cell_row hO rfl
 have c5:W.cell? ⟨w.heap.size,5,none⟩=some (.int .i64 o.c):=cell_row hO rfl
 have HW:=Lh hW
 have HB:=Lh hbW
 clear hW hbW hzW hO hl_ hr_
 rcases kind_all h1 h2 with hk | hk | hk | hk | hk | hk | hk | hk | hk | hk | hk | hk | hk | hk | hk | hk | hk <;> rw [hk] at c0 <;> clear h1 h2
 · have HT:=Lh (show takesF o=[] by unfold takesF;simp [hk])
   clear hk
   go_enter Tryd.func29,Tryd.ntmps29
   go_upto_region 1 with fail
   rw [←HW.out]
   go_wp2
   go_ret
   refine ⟨_,rfl,?_⟩
   rw [HT.out]
   exact new_none HB.out
 · have HT:=Lh (show takesF o=[o.a] by unfold takesF;simp [hk])
   clear hk
   go_enter Tryd.func29,Tryd.ntmps29
   go_upto_region 1 with fail
   rw [←HW.out]
   go_wp2
   go_ret
   refine ⟨_,rfl,?_⟩
   rw [HT.out]
   exact new_nums HB.out [o.a]
 · have HT:=Lh (show takesF o=[o.a,o.b] by unfold takesF;simp [hk])
   clear hk
   go_enter Tryd.func29,Tryd.ntmps29
   go_upto_region 1 with fail
   rw [←HW.out]
   go_wp2
   go_ret
   refine ⟨_,rfl,?_⟩
   rw [HT.out]
   exact new_nums HB.out [o.a,o.b]
 · have HT:=Lh (show takesF o=[o.a,o.b] by unfold takesF;simp [hk])
   clear hk
   go_enter Tryd.func29,Tryd.ntmps29
   go_upto_region 1 with fail
   rw [←HW.out]
   go_wp2
   go_ret
   refine ⟨_,rfl,?_⟩
   rw [HT.out]
   exact new_nums HB.out [o.a,o.b]
 · have HT:=Lh (show takesF o=[o.a,o.b] by unfold takesF;simp [hk])
   clear hk
   go_enter Tryd.func29,Tryd.ntmps29
   go_upto_region 1 with fail
   rw [←HW.out]
   go_wp2
   go_ret
   refine ⟨_,rfl,?_⟩
   rw [HT.out]
   exact new_nums HB.out [o.a,o.b]
 · have HT:=Lh (show takesF o=[o.a,o.b] by unfold takesF;simp [hk])
   clear hk
   go_enter Tryd.func29,Tryd.ntmps29
   go_upto_region 1 with fail
   rw [←HW.out]
   go_wp2
   go_ret
   refine ⟨_,rfl,?_⟩
   rw [HT.out]
   exact new_nums HB.out [o.a,o.b]
 · have HT:=Lh (show takesF o=[o.a,o.b] by unfold takesF;simp [hk])
   clear hk
   go_enter Tryd.func29,Tryd.ntmps29
   go_upto_region 1 with fail
   rw [←HW.out]
   go_wp2
   go_ret
   refine ⟨_,rfl,?_⟩
   rw [HT.out]
   exact new_nums HB.out [o.a,o.b]
 · have HT:=Lh (show takesF o=[o.a] by unfold takesF;simp [hk])
   clear hk
   go_enter Tryd.func29,Tryd.ntmps29
   go_upto_region 1 with fail
   rw [←HW.out]
   go_wp2
   go_ret
   refine ⟨_,rfl,?_⟩
   rw [HT.out]
   exact new_nums HB.out [o.a]
 · have HT:=Lh (show takesF o=[o.a] by unfold takesF;simp [hk])
   clear hk
   go_enter Tryd.func29,Tryd.ntmps29
   go_upto_region 1 with fail
   rw [←HW.out]
   go_wp2
   go_ret
   refine ⟨_,rfl,?_⟩
   rw [HT.out]
   exact new_nums HB.out [o.a]
 · have HT:=Lh (show takesF o=[o.a,o.b] by unfold takesF;simp [hk])
   clear hk
   go_enter Tryd.func29,Tryd.ntmps29
   go_upto_region 1 with fail
   rw [←HW.out]
   go_wp2
   go_ret
   refine ⟨_,rfl,?_⟩
   rw [HT.out]
   exact new_nums HB.out [o.a,o.b]
 · have HT:=Lh (show takesF o=[o.a,o.b,o.c] by unfold takesF;simp [hk])
   clear hk
   go_enter Tryd.func29,Tryd.ntmps29
   go_upto_region 1 with fail
   rw [←HW.out]
   go_wp2
   go_ret
   refine ⟨_,rfl,?_⟩
   rw [HT.out]
   exact new_nums HB.out [o.a,o.b,o.c]
 · have HT:=Lh (show takesF o=[o.a,o.b,o.c] by unfold takesF;simp [hk])
   clear hk
   go_enter Tryd.func29,Tryd.ntmps29
   go_upto_region 1 with fail
   rw [←HW.out]
   go_wp2
   go_ret
   refine ⟨_,rfl,?_⟩
   rw [HT.out]
   exact new_nums HB.out [o.a,o.b,o.c]
 · have HT:=Lh (show takesF o=[o.a,o.b,o.c] by unfold takesF;simp [hk])
   clear hk
   go_enter Tryd.func29,Tryd.ntmps29
   go_upto_region 1 with fail
   rw [←HW.out]
   go_wp2
   go_ret
   refine ⟨_,rfl,?_⟩
   rw [HT.out]
   exact new_nums HB.out [o.a,o.b,o.c]
 · by_cases ha:o.a = -1
   · have e1:(o.a != -1)=false:=by simpa using ha
     have HT:=Lh (show takesF o=[] by unfold takesF;simp [hk,ha])
     clear hk ha
     go_enter Tryd.func29,Tryd.ntmps29
     go_upto_region 1 with fail
     rw [←HW.out]
     go_wp2
     go_ret
     refine ⟨_,rfl,?_⟩
     rw [HT.out]
     exact new_none HB.out
   · have e1:(o.a != -1)=true:=by simpa using ha
     have HT:=Lh (show takesF o=[o.a] by unfold takesF;simp [hk,ha])
     clear hk ha
     go_enter Tryd.func29,Tryd.ntmps29
     go_upto_region 1 with fail
     rw [←HW.out]
     go_wp2
     go_ret
     refine ⟨_,rfl,?_⟩
     rw [HT.out]
     exact new_nums HB.out [o.a]
 · by_cases ha:o.a = -1
   · have e1:(o.a != -1)=false:=by simpa using ha
     have HT:=Lh (show takesF o=[o.b] by unfold takesF;simp [hk,ha])
     clear hk ha
     go_enter Tryd.func29,Tryd.ntmps29
     go_upto_region 1 with fail
     rw [←HW.out]
     go_wp2
     go_ret
     refine ⟨_,rfl,?_⟩
     rw [HT.out]
     exact new_nums HB.out [o.b]
   · have e1:(o.a != -1)=true:=by simpa using ha
     have HT:=Lh (show takesF o=[o.a,o.b] by unfold takesF;simp [hk,ha])
     clear hk ha
     go_enter Tryd.func29,Tryd.ntmps29
     go_upto_region 1 with fail
     rw [←HW.out]
     go_wp2
     go_ret
     refine ⟨_,rfl,?_⟩
     rw [HT.out]
     exact new_nums HB.out [o.a,o.b]
 · have HT:=Lh (show takesF o=[] by unfold takesF;simp [hk])
   clear hk
   go_enter Tryd.func29,Tryd.ntmps29
   go_upto_region 1 with fail
   rw [←HW.out]
   go_wp2
   go_ret
   refine ⟨_,rfl,?_⟩
   rw [HT.out]
   exact new_none HB.out
 · have HT:=Lh (show takesF o=[] by unfold takesF;simp [hk])
   clear hk
   go_enter Tryd.func29,Tryd.ntmps29
   go_upto_region 1 with fail
   rw [←HW.out]
   go_wp2
   go_ret
   refine ⟨_,rfl,?_⟩
   rw [HT.out]
   exact new_none HB.out
set_option maxHeartbeats 4000000 in
theorem Makes_any (o:LOp) (w:World) (h1:1≤o.kind) (h2:o.kind≤17):Calls Tryd.prog 28 #[.agg (opRow o).toArray] w fun e w'=>∃ v,e=.returned v∧NewNums w w' v (makesF o):=by
 obtain ⟨W,hW,hbW,hzW,hl_,hr_⟩:=boxed w (opRow o).toArray 47
 have hO:W.heap[w.heap.size]? = some (.cells (opRow o).toArray 47 (0,0)):=by rw [hW];exact heap_alloc_new w _
 have c0:W.cell? ⟨w.heap.size,0,none⟩=some (.int .i64 o.kind):=cell_row hO rfl
 have c1:W.cell? ⟨w.heap.size,1,none⟩=some (.int .i64 o.d):=cell_row hO rfl
 have c2:W.cell? ⟨w.heap.size,2,none⟩=some (.int .i64 o.e):=cell_row hO rfl
 have c3:W.cell? ⟨w.heap.size,3,none⟩=some (.int .i64 o.a):=cell_row hO rfl
 have c4:W.cell? ⟨w.heap.size,4,none⟩=some (.int .i64 o.b):=cell_row hO rfl
 have c5:W.cell? ⟨w.heap.size,5,none⟩=some (.int .i64 o.c):=cell_row hO rfl
 have HW:=Lh hW
 have HB:=Lh hbW
 clear hW hbW hzW hO hl_ hr_
 rcases kind_all h1 h2 with hk | hk | hk | hk | hk | hk | hk | hk | hk | hk | hk | hk | hk | hk | hk | hk | hk <;> rw [hk] at c0 <;> clear h1 h2
 · have HT:=Lh (show makesF o=[o.d] by unfold makesF;simp [hk])
   clear hk
   go_enter Tryd.func28,Tryd.ntmps28
   go_upto_region 1 with fail
   rw [←HW.out]
   go_wp2
   go_ret
   refine ⟨_,rfl,?_⟩
   rw [HT.out]
   exact new_nums HB.out [o.d]
 · have HT:=Lh (show makesF o=[o.d] by unfold makesF;simp [hk])
   clear hk
   go_enter Tryd.func28,Tryd.ntmps28
   go_upto_region 1 with fail
   rw [←HW.out]
   go_wp2
   go_ret
   refine ⟨_,rfl,?_⟩
   rw [HT.out]
   exact new_nums HB.out [o.d]
 · have HT:=Lh (show makesF o=[o.d] by unfold makesF;simp [hk])
   clear hk
   go_enter Tryd.func28,Tryd.ntmps28
   go_upto_region 1 with fail
   rw [←HW.out]
   go_wp2
   go_ret
   refine ⟨_,rfl,?_⟩
   rw [HT.out]
   exact new_nums HB.out [o.d]
 · have HT:=Lh (show makesF o=[o.d] by unfold makesF;simp [hk])
   clear hk
   go_enter Tryd.func28,Tryd.ntmps28
   go_upto_region 1 with fail
   rw [←HW.out]
   go_wp2
   go_ret
   refine ⟨_,rfl,?_⟩
   rw [HT.out]
   exact new_nums HB.out [o.d]
 · have HT:=Lh (show makesF o=[o.d] by unfold makesF;simp [hk])
   clear hk
   go_enter Tryd.func28,Tryd.ntmps28
   go_upto_region 1 with fail
   rw [←HW.out]
   go_wp2
   go_ret
   refine ⟨_,rfl,?_⟩
   rw [HT.out]
   exact new_nums HB.out [o.d]
 · have HT:=Lh (show makesF o=[o.d] by unfold makesF;simp [hk])
   clear hk
   go_enter Tryd.func28,Tryd.ntmps28
   go_upto_region 1 with fail
   rw [←HW.out]
   go_wp2
   go_ret
   refine ⟨_,rfl,?_⟩
   rw [HT.out]
   exact new_nums HB.out [o.d]
 · have HT:=Lh (show makesF o=[o.d] by unfold makesF;simp [hk])
   clear hk
   go_enter Tryd.func28,Tryd.ntmps28
   go_upto_region 1 with fail
   rw [←HW.out]
   go_wp2
   go_ret
   refine ⟨_,rfl,?_⟩
   rw [HT.out]
   exact new_nums HB.out [o.d]
 · have HT:=Lh (show makesF o=[o.d] by unfold makesF;simp [hk])
   clear hk
   go_enter Tryd.func28,Tryd.ntmps28
   go_upto_region 1 with fail
   rw [←HW.out]
   go_wp2
   go_ret
   refine ⟨_,rfl,?_⟩
   rw [HT.out]
   exact new_nums HB.out [o.d]
 · have HT:=Lh (show makesF o=[o.d] by unfold makesF;simp [hk])
   clear hk
   go_enter Tryd.func28,Tryd.ntmps28
   go_upto_region 1 with fail
   rw [←HW.out]
   go_wp2
   go_ret
   refine ⟨_,rfl,?_⟩
   rw [HT.out]
   exact new_nums HB.out [o.d]
 · have HT:=Lh (show makesF o=[o.d,o.e] by unfold makesF;simp [hk])
   clear hk
   go_enter Tryd.func28,Tryd.ntmps28
   go_upto_region 1 with fail
   rw [←HW.out]
   go_wp2
   go_ret
   refine ⟨_,rfl,?_⟩
   rw [HT.out]
   exact new_nums HB.out [o.d,o.e]
 · have HT:=Lh (show makesF o=[o.d,o.e] by unfold makesF;simp [hk])
   clear hk
   go_enter Tryd.func28,Tryd.ntmps28
   go_upto_region 1 with fail
   rw [←HW.out]
   go_wp2
   go_ret
   refine ⟨_,rfl,?_⟩
   rw [HT.out]
   exact new_nums HB.out [o.d,o.e]
 · have HT:=Lh (show makesF o=[o.d,o.e] by unfold makesF;simp [hk])
   clear hk
   go_enter Tryd.func28,Tryd.ntmps28
   go_upto_region 1 with fail
   rw [←HW.out]
   go_wp2
   go_ret
   refine ⟨_,rfl,?_⟩
   rw [HT.out]
   exact new_nums HB.out [o.d,o.e]
 · have HT:=Lh (show makesF o=[o.d] by unfold makesF;simp [hk])
   clear hk
   go_enter Tryd.func28,Tryd.ntmps28
   go_upto_region 1 with fail
   rw [←HW.out]
   go_wp2
   go_ret
   refine ⟨_,rfl,?_⟩
   rw [HT.out]
   exact new_nums HB.out [o.d]
 · have HT:=Lh (show makesF o=[o.d] by unfold makesF;simp [hk])
   clear hk
   go_enter Tryd.func28,Tryd.ntmps28
   go_upto_region 1 with fail
   rw [←HW.out]
   go_wp2
   go_ret
   refine ⟨_,rfl,?_⟩
   rw [HT.out]
   exact new_nums HB.out [o.d]
 · have HT:=Lh (show makesF o=[] by unfold makesF;simp [hk])
   clear hk
   go_enter Tryd.func28,Tryd.ntmps28
   go_upto_region 1 with fail
   rw [←HW.out]
   go_wp2
   go_ret
   refine ⟨_,rfl,?_⟩
   rw [HT.out]
   exact new_none HB.out
 · have HT:=Lh (show makesF o=[o.d] by unfold makesF;simp [hk])
   clear hk
   go_enter Tryd.func28,Tryd.ntmps28
   go_upto_region 1 with fail
   rw [←HW.out]
   go_wp2
   go_ret
   refine ⟨_,rfl,?_⟩
   rw [HT.out]
   exact new_nums HB.out [o.d]
 · have HT:=Lh (show makesF o=[] by unfold makesF;simp [hk])
   clear hk
   go_enter Tryd.func28,Tryd.ntmps28
   go_upto_region 1 with fail
   rw [←HW.out]
   go_wp2
   go_ret
   refine ⟨_,rfl,?_⟩
   rw [HT.out]
   exact new_none HB.out
end Go.Proofs.YtppoiahhaclleaaDoor
namespace Go.Proofs.YtppoiahhaclleaaDoor
open Go.RowKit
set_option maxRecDepth 100000
variable {aB aA kV kW aC aD kX kY kZ lA lB lC aE aF aG aH aI aJ aK aL aM aN aO aP aQ aR aS aT aU aV aW aX aY aZ a8 bA bB bC bD bE bF bG bH bI bJ bK bL bM bN bO bP bQ bS bT bU bV bW bX bY bZ b4 b6 cA cC cD cE cF cG cH cI cJ cK cL cM cN cO cP cQ cR cT cU cV cW cX cY cZ c8 dA dB dC dD dE dF dG dH dI dJ dK dL dM dN dO dP dQ dR dS dT dU dV dW dX dY dZ d7 eA eB eC eD eE eF eG eH eI eJ eK eL eM eN eO eP eQ eR eS eT eU eV eW eX eY eZ fA fB fC fD fE fF fG fH fI fJ fK fL fM fN fO fP fQ fR fS fT fU fV fW fX fY fZ gA gC gD gE gF gG gH gI gJ gK gL gM gN gO gP gQ gR gS gT gU gV gW gX gY gZ g9 hJ hY hZ iA iB iC iD iE : Value}
def findB (n:Nat):Code→Option Code
 | .block id c=>if id=n then some (.block id c) else findB n c
 | .seq a b=>match findB n a with
   | some c=>some c
   | none=>findB n b
 | .cond _ a b=>match findB n a with
   | some c=>some c
   | none=>findB n b
 | .loop c=>findB n c
 | .scope c=>findB n c
 | .rangeFunc _ _ a b=>match findB n a with
   | some c=>some c
   | none=>findB n b
 | _=>none
noncomputable def partL (f:Func) (n:Nat):Code:=match f.body.bind (findB n) with | some (.block _ c)=>c | _=>.skip
theorem any_next {T:Type} {p:T→Bool} {l:List T} {k:Nat} {x:T} (h:(l.take k).any p=false) (hx:l[k]? = some x) (hp:p x=false):(l.take (k+1)).any p=false:=by
 rw [List.take_add_one,hx,List.any_append,h]
 simp [hp]
theorem any_whole {T:Type} {p:T→Bool} {l:List T} {k:Nat} (h:(l.take k).any p=false) (hk:l.length≤k):l.any p=false:=by rwa [List.take_of_length_le hk] at h
theorem any_here {T:Type} {p:T→Bool} {l:List T} {k:Nat} {x:T} (hx:l[k]? = some x) (hp:p x=true):l.any p=true:=List.any_eq_true.2 ⟨x,List.mem_of_getElem? hx,hp⟩
set_option maxHeartbeats 4000000 in
theorem rchk_b6 {A A2:Option Addr} {n c n2 c2:Nat} {i:Int} {loops makes:List Int} {G G2:Nat→Prop} (w:World) (Q:Exit→Act→World→Prop) (hl:NumsAt w G (.slice A n c) loops) (hm:NumsAt w G2 (.slice A2 n2 c2) makes) (hn:loops.length≤9223372036854775807) (hn2:makes.length=n2) (hn3:n2≤1000)
   (k1:makes.any (fun r=>loops.contains r)=false→∀ (mP kL kN kO kP kQ kR kS kT kU m5 m6 m7 m8 mZ m9:Value),Q (.exit 6) ⟨#[aB,aA,mZ,m9,aC,aD,kX,.slice A n c,.int .i64 i,lA,.slice A2 n2 c2,lC,mP,aF,aG,aH,aI,aJ,aK,aL,aM,aN,aO,aP,aQ,aR,aS,aT,aU,aV,aW,aX,aY,aZ,a8,bA,bB,bC,bD,bE,bF,bG,bH,bI,bJ,bK,bL,bM,bN,bO,bP,bQ,bS,bT,bU,bV,bW,bX,bY,bZ,b4,b6,cA,cC,cD,cE,cF,cG,cH,cI,cJ,cK,cL,cM,cN,cO,cP,cQ,cR,cT,cU,cV,cW,cX,cY,cZ,c8,dA,dB,dC,dD,dE,dF,dG,dH,dI,dJ,dK,dL,dM,dN,dO,dP,dQ,dR,dS,dT,dU,dV,dW,dX,dY,dZ,d7,eA,eB,eC,eD,eE,eF,eG,eH,eI,kL,kN,kO,kP,kQ,kR,kS,kT,kU,m5,m6,m7,m8,eW,eX,eY,eZ,fA,fB,fC,fD,fE,fF,fG,fH,fI,fJ,fK,fL,fM,fN,fO,fP,fQ,fR,fS,fT,fU,fV,fW,fX,fY,fZ,gA,gC,gD,gE,gF,gG,gH,gI,gJ,gK,gL,gM,gN,gO,gP,gQ,gR,gS,gT,gU,gV,gW,gX,gY,gZ,g9,hJ,hY,hZ,iA,iB,iC,iD,iE],[]⟩ w) (k2:makes.any (fun r=>loops.contains r)=true→∀ (mP kL kN kO kP kQ kR kS kT kU m5 m6 m7 m8:Value),Q (.ret) ⟨#[aB,aA,.int .i64 i,.int .i64 9,aC,aD,kX,.slice A n c,.int .i64 i,lA,.slice A2 n2 c2,lC,mP,aF,aG,aH,aI,aJ,aK,aL,aM,aN,aO,aP,aQ,aR,aS,aT,aU,aV,aW,aX,aY,aZ,a8,bA,bB,bC,bD,bE,bF,bG,bH,bI,bJ,bK,bL,bM,bN,bO,bP,bQ,bS,bT,bU,bV,bW,bX,bY,bZ,b4,b6,cA,cC,cD,cE,cF,cG,cH,cI,cJ,cK,cL,cM,cN,cO,cP,cQ,cR,cT,cU,cV,cW,cX,cY,cZ,c8,dA,dB,dC,dD,dE,dF,dG,dH,dI,dJ,dK,dL,dM,dN,dO,dP,dQ,dR,dS,dT,dU,dV,dW,dX,dY,dZ,d7,eA,eB,eC,eD,eE,eF,eG,eH,eI,kL,kN,kO,kP,kQ,kR,kS,kT,kU,m5,m6,m7,m8,eW,eX,eY,eZ,fA,fB,fC,fD,fE,fF,fG,fH,fI,fJ,fK,fL,fM,fN,fO,fP,fQ,fR,fS,fT,fU,fV,fW,fX,fY,fZ,gA,gC,gD,gE,gF,gG,gH,gI,gJ,gK,gL,gM,gN,gO,gP,gQ,gR,gS,gT,gU,gV,gW,gX,gY,gZ,g9,hJ,hY,hZ,iA,iB,iC,iD,iE],[]⟩ w):(partL Tryd.f8 6).wp Tryd.prog Q ⟨#[aB,aA,kV,kW,aC,aD,kX,.slice A n c,.int .i64 i,lA,.slice A2 n2 c2,lC,.int .i64 0,aF,aG,aH,aI,aJ,aK,aL,aM,aN,aO,aP,aQ,aR,aS,aT,aU,aV,aW,aX,aY,aZ,a8,bA,bB,bC,bD,bE,bF,bG,bH,bI,bJ,bK,bL,bM,bN,bO,bP,bQ,bS,bT,bU,bV,bW,bX,bY,bZ,b4,b6,cA,cC,cD,cE,cF,cG,cH,cI,cJ,cK,cL,cM,cN,cO,cP,cQ,cR,cT,cU,cV,cW,cX,cY,cZ,c8,dA,dB,dC,dD,dE,dF,dG,dH,dI,dJ,dK,dL,dM,dN,dO,dP,dQ,dR,dS,dT,dU,dV,dW,dX,dY,dZ,d7,eA,eB,eC,eD,eE,eF,eG,eH,eI,eJ,eK,eL,eM,eN,eO,eP,eQ,eR,eS,eT,eU,eV,eW,eX,eY,eZ,fA,fB,fC,fD,fE,fF,fG,fH,fI,fJ,fK,fL,fM,fN,fO,fP,fQ,fR,fS,fT,fU,fV,fW,fX,fY,fZ,gA,gC,gD,gE,gF,gG,gH,gI,gJ,gK,gL,gM,gN,gO,gP,gQ,gR,gS,gT,gU,gV,gW,gX,gY,gZ,g9,hJ,hY,hZ,iA,iB,iC,iD,iE],[]⟩ w:=by
 have HIN:=Lh (fun r=>Rin_any (.slice A n c) r w G loops hn hl)
 have HM:=Lh hm
 have HN2:=Lh hn2
 have K1:=Lh k1
 have K2:=Lh k2
 clear hl hm hn hn2 k1 k2
 conv=>arg 2;whnf
 go_wp2
 go_loop [12] (fun j=>∃ k:Nat,k≤n2∧j=.int .i64 k∧Hid ((makes.take k).any (fun r=>loops.contains r)=false)) (fun j=>n2 - (intOf j).toNat)
 case atStart=>exact ⟨0,by omega,rfl,Lh (by simp)⟩
 case round =>
   obtain ⟨k,hk,rfl,HT⟩:=hrel
   by_cases hlt:k < n2
   · obtain ⟨x,hx⟩:∃ x,makes[k]? = some x:=⟨_,List.getElem?_eq_getElem (by have:=HN2.out;omega)⟩
     obtain ⟨b,o,rfl,_,hc⟩:=HM.out.at_ hx
     have HX:=Lh hx
     have HI:=HIN.out x
     have i0:(0:Int)≤(k:Int):=by omega
     have i1:(k:Int) < (n2:Int):=by omega
     clear hx
     cases he:loops.contains x
     · rw [he] at HI
       have HI:=Lh HI
       have HN:=Lh (any_next (p:=fun r=>loops.contains r) HT.out HX.out he)
       clear he
       go_wp2_with ((with_reducible refine (HI.out).mono ?_);rintro e w1 ⟨rfl,rfl⟩)
       go_round
       case rel=>exact ⟨k+1,by omega,by go_num,HN⟩
       case measure=>simp [intOf];omega
     · rw [he] at HI
       have HI:=Lh HI
       have HN:=Lh (any_here (p:=fun r=>loops.contains r) HX.out he)
       clear he
       go_wp2_with ((with_reducible refine (HI.out).mono ?_);rintro e w1 ⟨rfl,rfl⟩)
       exact K2.out HN.out _ _ _ _ _ _ _ _ _ _ _ _ _ _
   · have HN:=Lh (any_whole HT.out (by have:=HN2.out;omega))
     go_wp2
     exact K1.out HN.out _ _ _ _ _ _ _ _ _ _ _ _ _ _ _ _
def MadeAt (w:World) (g:Nat) (m:List Bool):Prop:=w.heap[g]? = some (.cells (m.map Value.bool).toArray 4 (0,0))
theorem MadeAt.cell {w:World} {g:Nat} {m:List Bool} (h:MadeAt w g m) {q:Nat} {x:Bool} (hx:m[q]? = some x):w.cell? ⟨g,q,none⟩=some (.bool x):=cell_row h (by rw [List.getElem?_map,hx];rfl)
theorem MadeAt.set {w:World} {g:Nat} {m:List Bool} (h:MadeAt w g m) (q:Nat) (x:Bool):MadeAt (w.setCell ⟨g,q,none⟩ (.bool x)) g (m.set q x):=by
 have:=setCell_row h q (.bool x)
 unfold MadeAt
 rw [this,List.map_set]
theorem madeF_get {m:List Bool} {q:Nat} {x:Bool} (h:m[q]? = some x):madeF m (q:Int)=x:=by unfold madeF;rw [Int.toNat_natCast,List.getD_eq_getElem?_getD,h];rfl
set_option maxHeartbeats 4000000 in
theorem rchk_b8 {A2:Option Addr} {gm nr cr n2 c2:Nat} {i:Int} {m:List Bool} {takes:List Int} {G2:Nat→Prop} (w:World) (Q:Exit→Act→World→Prop) (hg:MadeAt w gm m) (hnr:m.length=nr) (hm:NumsAt w G2 (.slice A2 n2 c2) takes) (hn2:takes.length=n2) (hn3:n2≤1000) (hr:∀ r∈takes,0≤r∧r < nr)
   (k1:takes.any (fun r=>!madeF m r)=false→∀ (nA nB nC nD nE nF nG nH nI nJ nK nL nM nN nO nP mZ m9:Value),Q (.exit 8) ⟨#[aB,aA,mZ,m9,aC,aD,.slice (some ⟨gm,0,none⟩) nr cr,kY,.int .i64 i,lA,lB,.slice A2 n2 c2,aE,nA,aG,aH,aI,aJ,aK,aL,aM,aN,aO,aP,aQ,aR,aS,aT,aU,aV,aW,aX,aY,aZ,a8,bA,bB,bC,bD,bE,bF,bG,bH,bI,bJ,bK,bL,bM,bN,bO,bP,bQ,bS,bT,bU,bV,bW,bX,bY,bZ,b4,b6,cA,cC,cD,cE,cF,cG,cH,cI,cJ,cK,cL,cM,cN,cO,cP,cQ,cR,cT,cU,cV,cW,cX,cY,cZ,c8,dA,dB,dC,dD,dE,dF,dG,dH,dI,dJ,dK,dL,dM,dN,dO,dP,dQ,dR,dS,dT,dU,dV,dW,dX,dY,dZ,d7,eA,eB,eC,eD,eE,eF,eG,eH,eI,eJ,eK,eL,eM,eN,eO,eP,eQ,eR,eS,eT,eU,eV,eW,eX,eY,eZ,fA,fB,fC,fD,fE,fF,fG,fH,fI,fJ,fK,fL,fM,fN,fO,fP,nB,nC,nD,nE,nF,nG,nH,nI,nJ,nK,nL,nM,nN,nO,nP,gG,gH,gI,gJ,gK,gL,gM,gN,gO,gP,gQ,gR,gS,gT,gU,gV,gW,gX,gY,gZ,g9,hJ,hY,hZ,iA,iB,iC,iD,iE],[]⟩ w) (k2:takes.any (fun r=>!madeF m r)=true→∀ (nA nB nC nD nE nF nG nH nI nJ nK nL nM nN nO nP:Value),Q (.ret) ⟨#[aB,aA,.int .i64 i,.int .i64 5,aC,aD,.slice (some ⟨gm,0,none⟩) nr cr,kY,.int .i64 i,lA,lB,.slice A2 n2 c2,aE,nA,aG,aH,aI,aJ,aK,aL,aM,aN,aO,aP,aQ,aR,aS,aT,aU,aV,aW,aX,aY,aZ,a8,bA,bB,bC,bD,bE,bF,bG,bH,bI,bJ,bK,bL,bM,bN,bO,bP,bQ,bS,bT,bU,bV,bW,bX,bY,bZ,b4,b6,cA,cC,cD,cE,cF,cG,cH,cI,cJ,cK,cL,cM,cN,cO,cP,cQ,cR,cT,cU,cV,cW,cX,cY,cZ,c8,dA,dB,dC,dD,dE,dF,dG,dH,dI,dJ,dK,dL,dM,dN,dO,dP,dQ,dR,dS,dT,dU,dV,dW,dX,dY,dZ,d7,eA,eB,eC,eD,eE,eF,eG,eH,eI,eJ,eK,eL,eM,eN,eO,eP,eQ,eR,eS,eT,eU,eV,eW,eX,eY,eZ,fA,fB,fC,fD,fE,fF,fG,fH,fI,fJ,fK,fL,fM,fN,fO,fP,nB,nC,nD,nE,nF,nG,nH,nI,nJ,nK,nL,nM,nN,nO,nP,gG,gH,gI,gJ,gK,gL,gM,gN,gO,gP,gQ,gR,gS,gT,gU,gV,gW,gX,gY,gZ,g9,hJ,hY,hZ,iA,iB,iC,iD,iE],[]⟩ w):(partL Tryd.f8 8).wp Tryd.prog Q ⟨#[aB,aA,kV,kW,aC,aD,.slice (some ⟨gm,0,none⟩) nr cr,kY,.int .i64 i,lA,lB,.slice A2 n2 c2,aE,.int .i64 0,aG,aH,aI,aJ,aK,aL,aM,aN,aO,aP,aQ,aR,aS,aT,aU,aV,aW,aX,aY,aZ,a8,bA,bB,bC,bD,bE,bF,bG,bH,bI,bJ,bK,bL,bM,bN,bO,bP,bQ,bS,bT,bU,bV,bW,bX,bY,bZ,b4,b6,cA,cC,cD,cE,cF,cG,cH,cI,cJ,cK,cL,cM,cN,cO,cP,cQ,cR,cT,cU,cV,cW,cX,cY,cZ,c8,dA,dB,dC,dD,dE,dF,dG,dH,dI,dJ,dK,dL,dM,dN,dO,dP,dQ,dR,dS,dT,dU,dV,dW,dX,dY,dZ,d7,eA,eB,eC,eD,eE,eF,eG,eH,eI,eJ,eK,eL,eM,eN,eO,eP,eQ,eR,eS,eT,eU,eV,eW,eX,eY,eZ,fA,fB,fC,fD,fE,fF,fG,fH,fI,fJ,fK,fL,fM,fN,fO,fP,fQ,fR,fS,fT,fU,fV,fW,fX,fY,fZ,gA,gC,gD,gE,gF,gG,gH,gI,gJ,gK,gL,gM,gN,gO,gP,gQ,gR,gS,gT,gU,gV,gW,gX,gY,gZ,g9,hJ,hY,hZ,iA,iB,iC,iD,iE],[]⟩ w:=by
 have HG:=Lh hg
 have HNR:=Lh hnr
 have HM:=Lh hm
 have HN2:=Lh hn2
 have HR:=Lh hr
 have K1:=Lh k1
 have K2:=Lh k2
 clear hg hnr hm hn2 hr k1 k2
 conv=>arg 2;whnf
 go_wp2
 go_loop [13] (fun j=>∃ k:Nat,k≤n2∧j=.int .i64 k∧Hid ((takes.take k).any (fun r=>!madeF m r)=false)) (fun j=>n2 - (intOf j).toNat)
 case atStart=>exact ⟨0,by omega,rfl,Lh (by simp)⟩
 case round =>
   obtain ⟨k,hk,rfl,HT⟩:=hrel
   by_cases hlt:k < n2
   · obtain ⟨x,hx⟩:∃ x,takes[k]? = some x:=⟨_,List.getElem?_eq_getElem (by have:=HN2.out;omega)⟩
     obtain ⟨b,o,rfl,_,hc⟩:=HM.out.at_ hx
     have hx2:=HR.out x (List.mem_of_getElem? hx)
     obtain ⟨q,rfl⟩:∃ q:Nat,x=q:=⟨x.toNat,by omega⟩
     obtain ⟨y,hy⟩:∃ y,m[q]? = some y:=⟨_,List.getElem?_eq_getElem (by have:=HNR.out;omega)⟩
     have hd:=HG.out.cell hy
     have HX:=Lh hx
     have HY:=Lh (madeF_get hy)
     have i0:(0:Int)≤(k:Int):=by omega
     have i1:(k:Int) < (n2:Int):=by omega
     have q0:(0:Int)≤(q:Int):=by omega
     have q1:(q:Int) < (nr:Int):=by omega
     clear hx hy hx2
     cases y
     · have HN:=Lh (any_here (p:=fun r=>!madeF m r) HX.out (by rw [HY.out];rfl))
       go_wp2
       exact K2.out HN.out _ _ _ _ _ _ _ _ _ _ _ _ _ _ _ _
     · have HN:=Lh (any_next (p:=fun r=>!madeF m r) HT.out HX.out (by rw [HY.out];rfl))
       go_wp2
       go_round
       case rel=>exact ⟨k+1,by omega,by go_num,HN⟩
       case measure=>simp [intOf];omega
   · have HN:=Lh (any_whole HT.out (by have:=HN2.out;omega))
     go_wp2
     exact K1.out HN.out _ _ _ _ _ _ _ _ _ _ _ _ _ _ _ _ _ _
set_option maxHeartbeats 4000000 in
theorem rchk_b10 {A2:Option Addr} {gm nr cr n2 c2:Nat} {m:List Bool} {makes:List Int} {G2:Nat→Prop} (w:World) (Q:Exit→Act→World→Prop) (hg:MadeAt w gm m) (hnr:m.length=nr) (hm:NumsAt w G2 (.slice A2 n2 c2) makes) (hG:∀ k,G2 k→k≠gm∧k < w.heap.size) (hn2:makes.length=n2) (hn3:n2≤1000) (hr:∀ r∈makes,0≤r∧r < nr)
   (k1:∀ (nQ nR nS nT nU nV nW nX nY nZ n8 n9 oA:Value) (w':World),Chg (fun k=>k=gm) w w'→MadeAt w' gm (putL makes m true)→Q (.exit 10) ⟨#[aB,aA,kV,kW,aC,aD,.slice (some ⟨gm,0,none⟩) nr cr,kY,kZ,lA,.slice A2 n2 c2,lC,aE,aF,nQ,aH,aI,aJ,aK,aL,aM,aN,aO,aP,aQ,aR,aS,aT,aU,aV,aW,aX,aY,aZ,a8,bA,bB,bC,bD,bE,bF,bG,bH,bI,bJ,bK,bL,bM,bN,bO,bP,bQ,bS,bT,bU,bV,bW,bX,bY,bZ,b4,b6,cA,cC,cD,cE,cF,cG,cH,cI,cJ,cK,cL,cM,cN,cO,cP,cQ,cR,cT,cU,cV,cW,cX,cY,cZ,c8,dA,dB,dC,dD,dE,dF,dG,dH,dI,dJ,dK,dL,dM,dN,dO,dP,dQ,dR,dS,dT,dU,dV,dW,dX,dY,dZ,d7,eA,eB,eC,eD,eE,eF,eG,eH,eI,eJ,eK,eL,eM,eN,eO,eP,eQ,eR,eS,eT,eU,eV,eW,eX,eY,eZ,fA,fB,fC,fD,fE,fF,fG,fH,fI,fJ,fK,fL,fM,fN,fO,fP,fQ,fR,fS,fT,fU,fV,fW,fX,fY,fZ,gA,gC,gD,gE,gF,nR,nS,nT,nU,nV,nW,nX,nY,nZ,n8,n9,oA,gS,gT,gU,gV,gW,gX,gY,gZ,g9,hJ,hY,hZ,iA,iB,iC,iD,iE],[]⟩ w'):(partL Tryd.f8 10).wp Tryd.prog Q ⟨#[aB,aA,kV,kW,aC,aD,.slice (some ⟨gm,0,none⟩) nr cr,kY,kZ,lA,.slice A2 n2 c2,lC,aE,aF,.int .i64 0,aH,aI,aJ,aK,aL,aM,aN,aO,aP,aQ,aR,aS,aT,aU,aV,aW,aX,aY,aZ,a8,bA,bB,bC,bD,bE,bF,bG,bH,bI,bJ,bK,bL,bM,bN,bO,bP,bQ,bS,bT,bU,bV,bW,bX,bY,bZ,b4,b6,cA,cC,cD,cE,cF,cG,cH,cI,cJ,cK,cL,cM,cN,cO,cP,cQ,cR,cT,cU,cV,cW,cX,cY,cZ,c8,dA,dB,dC,dD,dE,dF,dG,dH,dI,dJ,dK,dL,dM,dN,dO,dP,dQ,dR,dS,dT,dU,dV,dW,dX,dY,dZ,d7,eA,eB,eC,eD,eE,eF,eG,eH,eI,eJ,eK,eL,eM,eN,eO,eP,eQ,eR,eS,eT,eU,eV,eW,eX,eY,eZ,fA,fB,fC,fD,fE,fF,fG,fH,fI,fJ,fK,fL,fM,fN,fO,fP,fQ,fR,fS,fT,fU,fV,fW,fX,fY,fZ,gA,gC,gD,gE,gF,gG,gH,gI,gJ,gK,gL,gM,gN,gO,gP,gQ,gR,gS,gT,gU,gV,gW,gX,gY,gZ,g9,hJ,hY,hZ,iA,iB,iC,iD,iE],[]⟩ w:=by
 have HG:=Lh hg
 have HGG:=Lh hG
 have HNR:=Lh hnr
 have HM:=Lh hm
 have HN2:=Lh hn2
 have HR:=Lh hr
 have K1:=Lh k1
 clear hg hG hnr hm hn2 hr k1
 conv=>arg 2;whnf
 go_wp2
 go_loopw [14] (fun j wr=>∃ k:Nat,k≤n2∧j=.int .i64 k∧Chg (fun k=>k=gm) w wr∧MadeAt wr gm (putL (makes.take k) m true)) (fun j _=>n2 - (intOf j).toNat)
 case atStart=>exact ⟨0,by omega,rfl,Chg.refl _ _,by simpa [putL] using HG.out⟩
 case round =>
   obtain ⟨k,hk,rfl,hch,hca⟩:=hrel
   have HCH:=Lh hch
   have HCA:=Lh hca
   clear hch hca
   by_cases hlt:k < n2
   · obtain ⟨x,hx⟩:∃ x,makes[k]? = some x:=⟨_,List.getElem?_eq_getElem (by have:=HN2.out;omega)⟩
     obtain ⟨b,o,rfl,hb,hc⟩:=HM.out.at_ hx
     have hc2:=(World.cell?_of_block (w:=w) (w':=wr) (a:=⟨b,o+k,none⟩) (HCH.out.block b (HGG.out b hb).2 (HGG.out b hb).1)).trans hc
     have hx2:=HR.out x (List.mem_of_getElem? hx)
     obtain ⟨q,rfl⟩:∃ q:Nat,x=q:=⟨x.toNat,by omega⟩
     have hlen:(putL (makes.take k) m true).length=nr:=by rw [putL_len];exact HNR.out
     obtain ⟨y,hy⟩:∃ y,(putL (makes.take k) m true)[q]? = some y:=⟨_,List.getElem?_eq_getElem (by omega)⟩
     have hd:=HCA.out.cell hy
     have hf:wr.frozen? ⟨gm,q,none⟩=false:=frozen_row HCA.out q
     have HN:=Lh (show MadeAt (wr.setCell ⟨gm,q,none⟩ (.bool true)) gm (putL (makes.take (k+1)) m true) by
       rw [putL_take hx]
       unfold putF
       rw [if_pos (by omega),Int.toNat_natCast]
       exact HCA.out.set q true)
     have i0:(0:Int)≤(k:Int):=by omega
     have i1:(k:Int) < (n2:Int):=by omega
     have q0:(0:Int)≤(q:Int):=by omega
     have q1:(q:Int) < (nr:Int):=by omega
     clear hx hy hx2 hlen hc hb
     go_wp2
     go_roundw
     case rel=>exact ⟨k+1,by omega,by go_num,HCH.out.setCell (.inl rfl) _,HN.out⟩
     case measure=>simp [intOf];omega
   · have HN:=Lh (show MadeAt wr gm (putL makes m true) by have:=HCA.out;rwa [List.take_of_length_le (by have:=HN2.out;omega)] at this)
     go_wp2
     exact K1.out _ _ _ _ _ _ _ _ _ _ _ _ _ _ HCH.out HN.out
end Go.Proofs.YtppoiahhaclleaaDoor
