/- Part 18 of a claim; what it proves stands in its last text. -/
import Derived.Test.YtppoiahhaclleaaDoorAr17
import Derived.Test.YtppoiahhaclleaaDoorAr15
namespace Go.Proofs.YtppoiahhaclleaaDoor
open Go.RowKit
set_option maxRecDepth 100000
def blk (k:Nat) (l:List Int) (q:Nat):List Int:=(l.drop (q*k)).take k
theorem blk_pre {k q:Nat} {x t t':List Int} (h:q*k+k≤x.length):blk k (x++t) q=blk k (x++t') q:=by
 unfold blk
 rw [List.drop_append_of_le_length (by omega),List.drop_append_of_le_length (by omega),List.take_append_of_le_length (by rw [List.length_drop];omega),List.take_append_of_le_length (by rw [List.length_drop];omega)]
theorem blk_post {k q:Nat} {x x' t:List Int} (hl:x.length=x'.length) (h:x.length≤q*k):blk k (x++t) q=blk k (x'++t) q:=by
 unfold blk
 rw [show q*k=x.length+(q*k - x.length) by omega,List.drop_length_add_append,hl,List.drop_length_add_append]
theorem blk_at {k q:Nat} {x s y:List Int} (hx:x.length=q*k) (hs:s.length=k):blk k (x++s++y) q=s:=by
 unfold blk
 rw [←hx,List.append_assoc,List.drop_left,←hs,List.take_left]
theorem blk_last {k q:Nat} {x s:List Int} (hx:x.length=q*k) (hs:s.length≤k):blk k (x++s) q=s:=by
 unfold blk
 rw [←hx,List.drop_left,List.take_of_length_le hs]
theorem blk_nil {k q:Nat} {l:List Int} (h:l.length≤q*k):blk k l q=[]:=by
 unfold blk
 rw [List.drop_of_length_le h,List.take_nil]
theorem blk_one {k:Nat} {l:List Int} (h:l.length≤k):blk k l 0=l:=by
 unfold blk
 rw [Nat.zero_mul,List.drop_zero,List.take_of_length_le h]
def Done (key:Int→Int) (k:Nat) (l:List Int) (a:Nat):Prop:=∀ q,q*k+k≤a→Srt key (blk k l q)
theorem cut3 (l:List Int) (a k:Nat):l=l.take a++(l.drop a).take k++l.drop (a+k):=by
 rw [List.append_assoc,←List.drop_drop,List.take_append_drop,List.take_append_drop]
theorem cut4 (l:List Int) (a k:Nat):l=l.take a++(l.drop a).take k++(l.drop (a+k)).take k++l.drop (a+k+k):=by
 rw [List.append_assoc,←List.drop_drop (i:=k) (j:=a+k),List.take_append_drop,←cut3]
theorem cut4' (l:List Int) (a k:Nat):l=l.take a++(l.drop a).take k++l.drop (a+k)++[]:=by
 rw [List.append_nil,←cut3]
theorem done_more {key:Int→Int} {k j:Nat} {x s s' y:List Int} (hk:0 < k) (hx:x.length=j*k) (hs:s.length=k) (hs':s'.length=k) (hd:Done key k (x++s++y) (j*k)) (h:Srt key s'):Done key k (x++s'++y) (j*k+k):=by
 intro q hq
 have hqj:q≤j:=by
   have:q*k≤j*k:=by omega
   exact Nat.le_of_mul_le_mul_right this hk
 rcases Nat.lt_or_eq_of_le hqj with h1 | rfl
 · have h2:q*k+k≤j*k:=by
     have:=Nat.mul_le_mul_right k (show q+1≤j by omega)
     rw [Nat.add_mul,Nat.one_mul] at this
     exact this
   have:=hd q h2
   rw [List.append_assoc,blk_pre (t':=s'++y) (by omega),←List.append_assoc] at this
   exact this
 · rw [blk_at hx hs']
   exact h
theorem done_last {key:Int→Int} {k j:Nat} {x s s':List Int} (hx:x.length=j*k) (hs':s'.length≤k) (hd:Done key k (x++s) (j*k)) (h:Srt key s'):∀ q,Srt key (blk k (x++s') q):=by
 intro q
 rcases Nat.lt_trichotomy q j with h1 | rfl | h1
 · have h2:q*k+k≤j*k:=by
     have:=Nat.mul_le_mul_right k (show q+1≤j by omega)
     rw [Nat.add_mul,Nat.one_mul] at this
     exact this
   have:=hd q h2
   rw [blk_pre (t':=s') (by omega)] at this
   exact this
 · rw [blk_last hx hs']
   exact h
 · have h2:j*k+k≤q*k:=by
     have:=Nat.mul_le_mul_right k (show j+1≤q by omega)
     rw [Nat.add_mul,Nat.one_mul] at this
     exact this
   rw [blk_nil (by rw [List.length_append];omega)]
   exact List.Pairwise.nil
set_option maxHeartbeats 4000000 in
theorem isort_part {g n c gb gs m a b:Nat} {sp:List (Int×Int)} {x s y:List Int} {rest:List Value} (w:World) (hr:OrdAt w g (x++s++y) rest) (hl:n=x.length+s.length+y.length) (hk:KeysAt w gb gs m sp) (hm:m≤1000) (hn:n≤1000) (hmem:∀ z∈x++s++y,0≤z∧z < (m:Int)) (hg:gb≠g∧gs≠g) (ha:x.length=a) (hb:a+s.length=b) :
   Calls Tryd.prog 72 #[.slice (some ⟨g,0,none⟩) n c,.int .i64 a,.int .i64 b,.func (.func 35) #[] #[.pointer (some ⟨gb,0,none⟩)]] w fun e w'=>e=.returned (.tuple #[])∧∃ s',s'.Perm s∧Srt (keyF sp) s'∧OrdAt w' g (x++s'++y) rest∧Chg (fun k=>k=g) w w':=by
 obtain ⟨s',h1,h2,h3⟩:=ins_part (keyF sp) x s y
 refine (isort_any (c:=c) (a:=a) (b:=b) w hr (by simp only [List.length_append];omega) hk hm hn hmem hg (by omega) (by omega)).mono ?_
 rintro e w' ⟨rfl,h4,h5⟩
 rw [show b - (a+1)=s.length - 1 by omega,←ha,h3] at h4
 exact ⟨rfl,s',h1,h2,h4,h5⟩
set_option maxHeartbeats 16000000 in
theorem stable_all {g n c gb gs m:Nat} {sp:List (Int×Int)} {l:List Int} {rest:List Value} (w:World) (hr:OrdAt w g l rest) (hl:l.length=n) (hk:KeysAt w gb gs m sp) (hm:m≤1000) (hn:n≤1000) (hmem:∀ x∈l,0≤x∧x < (m:Int)) (hg:gb≠g∧gs≠g) :
   Calls Tryd.prog 53 #[.slice (some ⟨g,0,none⟩) n c,.int .i64 n,.func (.func 35) #[] #[.pointer (some ⟨gb,0,none⟩)]] w fun e w'=>e=.returned (.tuple #[])∧∃ s,s.Perm l∧Srt (keyF sp) s∧OrdAt w' g s rest∧Chg (fun k=>k=g) w w':=by
 have HI:=Lh hr
 have HL:=Lh hl
 have HK:=Lh hk
 have HM:=Lh hmem
 have HG:=Lh hg
 clear hr hl hk hmem hg
 go_enter Tryd.func53,Tryd.ntmps53
 go_wp2
 go_loopw [7,8] (fun va vb wr=>∃ (a b:Nat) (l1:List Int),va=.int .i64 a∧vb=.int .i64 b∧a≤1000∧b≤1020∧Hid (b=a+20∧a≤n∧(∃ j,a=j*20)∧l1.Perm l∧Done (keyF sp) 20 l1 a∧OrdAt wr g l1 rest∧Chg (fun k=>k=g) w wr)) (fun va _ _=>n - (intOf va).toNat)
 case atStart=>exact ⟨0,20,l,rfl,rfl,by omega,by omega,Lh ⟨rfl,Nat.zero_le _,⟨0,rfl⟩,List.Perm.refl _,fun q hq=>by omega,HI.out,Chg.refl _ _⟩⟩
 case round =>
   clear HI
   obtain ⟨a,b,l1,rfl,rfl,ha1,hb1,HJ⟩:=hrel
   have HLN:=Lh (show l1.length=n by rw [HJ.out.2.2.2.1.length_eq];exact HL.out)
   have HMM:=Lh (mem_perm HM.out HJ.out.2.2.2.1)
   have HKW:=Lh (KeysAt.chg HK.out HJ.out.2.2.2.2.2.2 HG.out.1 HG.out.2)
   by_cases hlt:b≤n
   · have hd:decide (b≤n)=true:=decide_eq_true hlt
     have HLT:=Lh hlt
     have HT:=Lh (show (l1.take a).length=a∧((l1.drop a).take 20).length=20 by
       have:=HJ.out.1;have:=HLN.out
       rw [List.length_take,List.length_take,List.length_drop];omega)
     have HC:=Lh (isort_part (n:=n) (c:=c) (gb:=gb) (gs:=gs) (m:=m) (sp:=sp) (a:=a) (b:=b) (x:=l1.take a) (s:=(l1.drop a).take 20) (y:=l1.drop (a+20)) (rest:=rest) wr (by rw [←cut3];exact HJ.out.2.2.2.2.2.1) (by have:=HT.out;have:=HJ.out.1;have:=HLN.out;rw [List.length_drop];omega) HKW.out hm hn (by rw [←cut3];exact HMM.out) HG.out HT.out.1 (by have:=HT.out;have:=HJ.out.1;omega))
     clear hlt
     go_wp2_with ((with_reducible refine (HC.out).mono ?_);rintro e w1 ⟨rfl,s',p1,c1,o1,h1⟩;have H1:=Lh (And.intro p1 (And.intro c1 (And.intro o1 h1)));clear p1 c1 o1 h1)
     go_roundw
     case rel=>exact ⟨b,b+20,l1.take a++s'++l1.drop (a+20),rfl,by go_num,by have:=HLT.out;omega,by have:=HLT.out;omega,Lh ⟨rfl,HLT.out,by obtain ⟨j,hj⟩:=HJ.out.2.2.1;exact ⟨j+1,by have:=HJ.out.1;omega⟩,by
       refine List.Perm.trans ?_ HJ.out.2.2.2.1
       have:=perm_mid (l1.take a) (l1.drop (a+20)) H1.out.1
       rw [←cut3] at this
       exact this,by
       obtain ⟨j,hj⟩:=HJ.out.2.2.1
       rw [HJ.out.1,hj]
       refine done_more (s:=(l1.drop (j*20)).take 20) (by omega) (by rw [←hj];exact HT.out.1) (by rw [←hj];exact HT.out.2) (by rw [H1.out.1.length_eq];exact HT.out.2) ?_ H1.out.2.1
       have:=HJ.out.2.2.2.2.1
       rw [hj] at this
       rw [←cut3]
       exact this,H1.out.2.2.1,HJ.out.2.2.2.2.2.2.trans H1.out.2.2.2⟩⟩
     case measure=>have:=HLT.out;have:=HJ.out.1;simp [intOf];omega
   · have hd:decide (b≤n)=false:=decide_eq_false hlt
     have HLT:=Lh hlt
     have HT:=Lh (show (l1.take a).length=a∧(l1.drop a).length=n - a by
       have:=HJ.out.2.1;have:=HLN.out
       rw [List.length_take,List.length_drop];omega)
     have HC:=Lh (isort_part (n:=n) (c:=c) (gb:=gb) (gs:=gs) (m:=m) (sp:=sp) (a:=a) (b:=n) (x:=l1.take a) (s:=l1.drop a) (y:=[]) (rest:=rest) wr (by rw [List.append_nil,List.take_append_drop];exact HJ.out.2.2.2.2.2.1) (by have:=HT.out;have:=HJ.out.2.1;simp only [List.length_nil];omega) HKW.out hm hn (by rw [List.append_nil,List.take_append_drop];exact HMM.out) HG.out HT.out.1 (by have:=HT.out;have:=HJ.out.2.1;omega))
     clear hlt
     go_wp2_with ((with_reducible refine (HC.out).mono ?_);rintro e w1 ⟨rfl,s',p1,c1,o1,h1⟩;have H1:=Lh (And.intro p1 (And.intro c1 (And.intro o1 h1)));clear p1 c1 o1 h1)
     have H2:=Lh (show (l1.take a++s').Perm l∧(∀ q,Srt (keyF sp) (blk 20 (l1.take a++s') q))∧OrdAt w1 g (l1.take a++s') rest∧Chg (fun k=>k=g) w w1 by
       refine ⟨?_,?_,by have:=H1.out.2.2.1;rw [List.append_nil] at this;exact this,HJ.out.2.2.2.2.2.2.trans H1.out.2.2.2⟩
       · refine List.Perm.trans ?_ HJ.out.2.2.2.1
         have:=H1.out.1.append_left (l1.take a)
         rw [List.take_append_drop] at this
         exact this
       · obtain ⟨j,hj⟩:=HJ.out.2.2.1
         refine done_last (s:=l1.drop a) (j:=j) (by rw [HT.out.1,hj]) (by rw [H1.out.1.length_eq,HT.out.2];have:=HJ.out.1;have:=HLT.out;omega) ?_ H1.out.2.1
         rw [List.take_append_drop,←hj]
         exact HJ.out.2.2.2.2.1)
     obtain ⟨l2,hl2⟩:∃ q,l1.take a++s'=q:=⟨_,rfl⟩
     rw [hl2] at H2
     clear HC HT HLT HMM HKW HLN HJ H1 hl2 hd
     obtain ⟨wo,rfl⟩:∃ wo:World,wo=w1:=⟨_,rfl⟩
     go_loopw [6] (fun vb wr=>∃ (bs:Nat) (l1:List Int),vb=.int .i64 bs∧bs≤2000∧Hid (0 < bs∧l1.Perm l∧(∀ q,Srt (keyF sp) (blk bs l1 q))∧OrdAt wr g l1 rest∧Chg (fun k=>k=g) w wr)) (fun vb _=>n - (intOf vb).toNat)
     case atStart=>exact ⟨20,l2,rfl,by omega,Lh ⟨by omega,H2.out⟩⟩
     case round =>
       clear H2
       obtain ⟨bs,l3,rfl,hbs1,HJ⟩:=hrel
       by_cases hlt:bs < n
       · have hd1:decide (bs < n)=true:=decide_eq_true hlt
         obtain ⟨d,hd⟩:∃ d,2*bs=d:=⟨_,rfl⟩
         have z1:(2:Int)*(bs:Int)=(d:Int):=by omega
         have z2:(bs:Int)*2=(d:Int):=by omega
         have hdd:d≤4000:=by omega
         have HD:=Lh (show d=bs+bs by omega)
         have HLT:=Lh hlt
         clear hd hlt
         go_wp2
         clear z1
         obtain ⟨wp,rfl⟩:∃ wp:World,wp=wr:=⟨_,rfl⟩
         go_loopw [7,8] (fun va vb wr=>∃ (a b:Nat) (l1:List Int),va=.int .i64 a∧vb=.int .i64 b∧a≤1000∧b≤5000∧Hid (b=a+d∧a≤n∧(∃ j,a=j*d)∧l1.Perm l∧Done (keyF sp) d l1 a∧(∀ q,a≤q*bs→Srt (keyF sp) (blk bs l1 q))∧OrdAt wr g l1 rest∧Chg (fun k=>k=g) w wr)) (fun va _ _=>n - (intOf va).toNat)
         case atStart=>exact ⟨0,d,l3,rfl,by first | rfl | go_num,by omega,by omega,Lh ⟨(Nat.zero_add d).symm,Nat.zero_le _,⟨0,(Nat.zero_mul d).symm⟩,HJ.out.2.1,fun q hq=>by have:=HJ.out.1;have:=HD.out;omega,fun q _=>HJ.out.2.2.1 q,HJ.out.2.2.2.1,HJ.out.2.2.2.2⟩⟩
         case round =>
           have HBS:=Lh HJ.out.1
           clear HJ
           obtain ⟨a,b,l4,rfl,rfl,ha1,hb1,HJ⟩:=hrel
           have HLN:=Lh (show l4.length=n by rw [HJ.out.2.2.2.1.length_eq];exact HL.out)
           have HMM:=Lh (mem_perm HM.out HJ.out.2.2.2.1)
           have HKW:=Lh (KeysAt.chg HK.out HJ.out.2.2.2.2.2.2.2 HG.out.1 HG.out.2)
           obtain ⟨mm,hmm⟩:∃ mm,a+bs=mm:=⟨_,rfl⟩
           have z3:(a:Int)+(bs:Int)=(mm:Int):=by omega
           have hmm1:mm≤3000:=by omega
           have HMN:=Lh hmm
           have HU:=Lh (show Srt (keyF sp) ((l4.drop a).take bs)∧Srt (keyF sp) ((l4.drop mm).take bs) by
             obtain ⟨j,hj⟩:=HJ.out.2.2.1
             have e1:a=(2*j)*bs:=by rw [hj,HD.out,←Nat.two_mul,←Nat.mul_assoc,Nat.mul_comm j 2]
             have e2:mm=(2*j+1)*bs:=by rw [Nat.add_mul,Nat.one_mul,←e1];exact hmm.symm
             have h1:=HJ.out.2.2.2.2.2.1 (2*j) (by omega)
             have h2:=HJ.out.2.2.2.2.2.1 (2*j+1) (by omega)
             unfold blk at h1 h2
             rw [←e1] at h1
             rw [←e2] at h2
             exact ⟨h1,h2⟩)
           clear hmm
           by_cases hbn:b≤n
           · have hd2:decide (b≤n)=true:=decide_eq_true hbn
             have HLT2:=Lh hbn
             have HT:=Lh (show (l4.take a).length=a∧((l4.drop a).take bs).length=bs∧((l4.drop mm).take bs).length=bs∧(l4.drop (mm+bs)).length=n - b by
               have:=HJ.out.1;have:=HLN.out;have:=HD.out;have:=HMN.out
               rw [List.length_take,List.length_take,List.length_take,List.length_drop,List.length_drop,List.length_drop];omega)
             have HCT:=Lh (show l4=l4.take a++(l4.drop a).take bs++(l4.drop mm).take bs++l4.drop (mm+bs) by rw [←HMN.out];exact cut4 l4 a bs)
             have HC:=Lh (sym_all (c:=c) (gb:=gb) (gs:=gs) (sp:=sp) (rest:=rest) hn hm HG.out n (l4.take a) ((l4.drop a).take bs) ((l4.drop mm).take bs) (l4.drop (mm+bs)) a mm b wr (by rw [←HCT.out];exact HJ.out.2.2.2.2.2.2.1) (by have:=HT.out;have:=HJ.out.1;have:=HD.out;have:=HMN.out;omega) HKW.out (by rw [←HCT.out];exact HMM.out) HT.out.1 (by have:=HT.out;have:=HMN.out;omega) (by have:=HT.out;have:=HMN.out;have:=HJ.out.1;have:=HD.out;omega) (by have:=HT.out;have:=HBS.out;omega) (by have:=HT.out;have:=HBS.out;omega) (by have:=HT.out;have:=HJ.out.1;have:=HD.out;omega))
             clear hbn
             go_wp2_with ((with_reducible refine (HC.out).mono ?_);rintro e w1 ⟨rfl,s',p1,c1,o1,h1⟩;have H1:=Lh (And.intro p1 (And.intro (c1 HU.out.1 HU.out.2) (And.intro o1 h1)));clear p1 c1 o1 h1)
             go_roundw
             case rel=>exact ⟨b,b+d,l4.take a++s'++l4.drop (mm+bs),rfl,by first | go_num | (congr 1;omega),by have:=HLT2.out;omega,by have:=HLT2.out;omega,Lh ⟨rfl,HLT2.out,by obtain ⟨j,hj⟩:=HJ.out.2.2.1;exact ⟨j+1,by have:=HJ.out.1;rw [Nat.add_mul,Nat.one_mul,←hj];exact this⟩,by
               refine List.Perm.trans ?_ HJ.out.2.2.2.1
               have:=perm_mid (l4.take a) (l4.drop (mm+bs)) H1.out.1
               rw [←List.append_assoc (l4.take a),←HCT.out] at this
               exact this,by
               obtain ⟨j,hj⟩:=HJ.out.2.2.1
               rw [HJ.out.1,hj]
               refine done_more (s:=(l4.drop a).take bs++(l4.drop mm).take bs) (by have:=HBS.out;have:=HD.out;omega) (by rw [←hj];exact HT.out.1) (by rw [List.length_append];have:=HT.out;have:=HD.out;omega) (by rw [H1.out.1.length_eq,List.length_append];have:=HT.out;have:=HD.out;omega) ?_ H1.out.2.1
               have:=HJ.out.2.2.2.2.1
               rw [hj] at this
               rw [←hj,←List.append_assoc (l4.take a),←HCT.out,hj]
               exact this,by
               intro q hq
               have h2:=HJ.out.2.2.2.2.2.1 q (by have:=HJ.out.1;omega)
               rw [HCT.out,List.append_assoc (l4.take a)] at h2
               rw [blk_post (x':=l4.take a++((l4.drop a).take bs++(l4.drop mm).take bs)) (by rw [List.length_append,List.length_append,H1.out.1.length_eq]) (by rw [List.length_append,H1.out.1.length_eq,List.length_append];have:=HT.out;have:=HD.out;have:=HJ.out.1;omega)]
               exact h2,H1.out.2.2.1,HJ.out.2.2.2.2.2.2.2.trans H1.out.2.2.2⟩⟩
             case measure=>have:=HLT2.out;have:=HJ.out.1;have:=HD.out;have:=HBS.out;simp [intOf];omega
           · have hd2:decide (b≤n)=false:=decide_eq_false hbn
             have HLT2:=Lh hbn
             clear hbn
             by_cases hmn:mm < n
             · have hd3:decide (mm < n)=true:=decide_eq_true hmn
               have HLT3:=Lh hmn
               have HT:=Lh (show (l4.take a).length=a∧((l4.drop a).take bs).length=bs∧(l4.drop mm).length=n - mm by
                 have:=HJ.out.1;have:=HLN.out;have:=HD.out;have:=HMN.out
                 rw [List.length_take,List.length_take,List.length_drop,List.length_drop];omega)
               have HCT:=Lh (show l4=l4.take a++(l4.drop a).take bs++l4.drop mm++[] by rw [←HMN.out];exact cut4' l4 a bs)
               have HU2:=Lh (show Srt (keyF sp) (l4.drop mm) by
                 have:=HU.out.2
                 rw [List.take_of_length_le (by have:=HT.out;have:=HLT2.out;have:=HJ.out.1;have:=HD.out;have:=HMN.out;omega)] at this
                 exact this)
               have HC:=Lh (sym_all (c:=c) (gb:=gb) (gs:=gs) (sp:=sp) (rest:=rest) hn hm HG.out n (l4.take a) ((l4.drop a).take bs) (l4.drop mm) [] a mm n wr (by rw [←HCT.out];exact HJ.out.2.2.2.2.2.2.1) (by have:=HT.out;have:=HMN.out;simp only [List.length_nil];omega) HKW.out (by rw [←HCT.out];exact HMM.out) HT.out.1 (by have:=HT.out;have:=HMN.out;omega) (by have:=HT.out;omega) (by have:=HT.out;have:=HBS.out;omega) (by have:=HT.out;omega) (by have:=HT.out;have:=HMN.out;omega))
               clear hmn
               go_wp2_with ((with_reducible refine (HC.out).mono ?_);rintro e w1 ⟨rfl,s',p1,c1,o1,h1⟩;have H1:=Lh (And.intro p1 (And.intro (c1 HU.out.1 HU2.out) (And.intro o1 h1)));clear p1 c1 o1 h1)
               go_roundw
               case rel=>exact ⟨d,l4.take a++s',by first | rfl | go_num,by have:=HLT.out;have:=HD.out;omega,Lh ⟨by have:=HD.out;have:=HBS.out;omega,by
                 refine List.Perm.trans ?_ HJ.out.2.2.2.1
                 have:=perm_mid (l4.take a) [] H1.out.1
                 rw [←List.append_assoc (l4.take a),←HCT.out,List.append_nil] at this
                 exact this,by
                 obtain ⟨j,hj⟩:=HJ.out.2.2.1
                 refine done_last (s:=l4.drop a) (j:=j) (by rw [HT.out.1,hj]) (by rw [H1.out.1.length_eq,List.length_append];have:=HT.out;have:=HLT2.out;have:=HJ.out.1;have:=HMN.out;have:=HD.out;omega) ?_ H1.out.2.1
                 rw [List.take_append_drop,←hj]
                 exact HJ.out.2.2.2.2.1,by have:=H1.out.2.2.1;rw [List.append_nil] at this;exact this,HJ.out.2.2.2.2.2.2.2.trans H1.out.2.2.2⟩⟩
               case measure=>have:=HLT.out;have:=HD.out;have:=HBS.out;simp [intOf];omega
             · have hd3:decide (mm < n)=false:=decide_eq_false hmn
               have HLT3:=Lh hmn
               clear hmn
               go_wp2
               go_roundw
               case rel=>exact ⟨d,l4,by first | rfl | go_num,by have:=HLT.out;have:=HD.out;omega,Lh ⟨by have:=HD.out;have:=HBS.out;omega,HJ.out.2.2.2.1,by
                 obtain ⟨j,hj⟩:=HJ.out.2.2.1
                 have hln:(l4.drop a).length≤bs:=by rw [List.length_drop];have:=HLN.out;have:=HLT3.out;have:=HMN.out;omega
                 have h1:=done_last (key:=keyF sp) (k:=d) (x:=l4.take a) (s:=l4.drop a) (s':=l4.drop a) (j:=j) (by rw [List.length_take,←hj];have:=HJ.out.2.1;have:=HLN.out;omega) (by have:=HD.out;omega) (by rw [List.take_append_drop,←hj];exact HJ.out.2.2.2.2.1) (by have:=HU.out.1;rw [List.take_of_length_le hln] at this;exact this)
                 rw [List.take_append_drop] at h1
                 exact h1,HJ.out.2.2.2.2.2.2.1,HJ.out.2.2.2.2.2.2.2⟩⟩
               case measure=>have:=HLT.out;have:=HD.out;have:=HBS.out;simp [intOf];omega
       · have hd1:decide (bs < n)=false:=decide_eq_false hlt
         have HLT:=Lh hlt
         clear hlt
         go_wp2
         refine bodyPost_end (v:=.tuple #[]) (results_none rfl _ _ _) rfl ?_
         refine ⟨rfl,l3,HJ.out.2.1,?_,HJ.out.2.2.2.1,HJ.out.2.2.2.2⟩
         have:=HJ.out.2.2.1 0
         rw [blk_one (by rw [HJ.out.2.1.length_eq,HL.out];have:=HLT.out;omega)] at this
         exact this
set_option maxHeartbeats 4000000 in
theorem SortStable_all {g n c gb gs m:Nat} {sp:List (Int×Int)} {l:List Int} {rest:List Value} (w:World) (hr:OrdAt w g l rest) (hl:l.length=n) (hk:KeysAt w gb gs m sp) (hm:m≤1000) (hn:n≤1000) (hmem:∀ x∈l,0≤x∧x < (m:Int)) (hg:gb≠g∧gs≠g) :
   Calls Tryd.prog 34 #[.slice (some ⟨g,0,none⟩) n c,.func (.func 35) #[] #[.pointer (some ⟨gb,0,none⟩)]] w fun e w'=>e=.returned (.tuple #[])∧∃ s,s.Perm l∧Srt (keyF sp) s∧OrdAt w' g s rest∧Chg (fun k=>k=g) w w':=by
 have HC:=Lh (stable_all (c:=c) (rest:=rest) w hr hl hk hm hn hmem hg)
 clear hr hl hk hmem hg
 go_enter Tryd.func34,Tryd.ntmps34
 go_wp2_with ((with_reducible refine (HC.out).mono ?_);rintro e w1 ⟨rfl,s,h1,h2,h3,h4⟩;have H2:=Lh (And.intro h1 (And.intro h2 (And.intro h3 h4)));clear h1 h2 h3 h4)
 refine bodyPost_end (v:=.tuple #[]) (results_none rfl _ _ _) rfl ?_
 exact ⟨rfl,s,H2.out⟩
end Go.Proofs.YtppoiahhaclleaaDoor
namespace Go.Proofs.YtppoiahhaclleaaDoor
open Go.RowKit
set_option maxRecDepth 100000
set_option maxHeartbeats 8000000 in
theorem Build_all (p:LP) (Ab Ao:Option Addr) (nb cb no co n pool:Nat) (w:World) (hp:ProgAt w (fun k=>k < w.heap.size) [.int .i64 p.regs,.slice Ab nb cb,.slice Ao no co] p) (h0:(checkF p 64).2=0) (hn:p.regs=n) (hpl:pool≤16)
   (hT:TzAt w) :
   Calls Tryd.prog 13 #[.agg #[.int .i64 p.regs,.slice Ab nb cb,.slice Ao no co],.int .i64 (pool:Nat)] w fun e w'=>∃ (go:Nat) (ord:List Int),e=.returned (.tuple #[.slice (some ⟨go,0,none⟩) n n,.int .i64 0])∧w.heap.size≤go∧ord.Perm (ordTo (spansF p) n)∧Srt (keyF (spansF p)) ord ∧
     EndsAt w' go (OF ord (plK (spansF p) ord pool) n (ordTo (spansF p) n).length)∧Below w.heap.size w w':=by
 obtain ⟨W,hW,hbW,hzW,hl_,hr_⟩:=boxed w #[.int .i64 p.regs,.slice Ab nb cb,.slice Ao no co] 25
 have c0:W.cell? ⟨w.heap.size,0,none⟩=some (.int .i64 p.regs):=by rw [hl_];rfl
 have c1:W.cell? ⟨w.heap.size,1,none⟩=some (.slice Ab nb cb):=by rw [hl_];rfl
 have c2:W.cell? ⟨w.heap.size,2,none⟩=some (.slice Ao no co):=by rw [hl_];rfl
 have hp1:=prog_next hp hbW
 have HC:=Lh (check_any p Ab Ao nb cb no co W hp1)
 have HSP:=Lh (fun wr (hb:Below W.heap.size W wr)=>spans_any p Ab Ao nb cb no co n wr (prog_next hp1 hb) h0 hn)
 have HW:=Lh hW
 have HB:=Lh hbW
 have hn64:n≤64:=by have:=(head_ok (check_run h0).1);omega
 have HLEN:=Lh (show (spansF p).length=n by rw [spans_len,hn];rfl)
 have HT:=Lh hT
 have HW0:=Lh (show 0 < w.heap.size from by
   have:=hT 0 (by decide)
   have:=lt_cell this
   exact this)
 have HRG:=Lh hn
 obtain ⟨sp,hsp⟩:∃ sp,spansF p=sp:=⟨_,rfl⟩
 rw [hsp] at HSP HLEN ⊢
 obtain ⟨x,hx⟩:∃ x,(checkF p 64).1=x:=⟨_,rfl⟩
 rw [hx,h0] at HC
 rw [hn] at c0 HC
 simp only [hn] at HSP
 have d1:decide ((pool:Int) < 0)=false:=decide_eq_false (by omega)
 have d2:decide ((16:Int) < (pool:Int))=false:=decide_eq_false (by omega)
 have d3:¬ 16 < pool:=by omega
 have hlt:w.heap.size < W.heap.size:=by omega
 have HLT:=Lh hlt
 clear hW hbW hzW hl_ hr_ hp hp1 hx h0 hn hT hlt hsp
 go_enter Tryd.func13,Tryd.ntmps13
 go_upto_region 1 with fail
 rw [←HW.out]
 go_upto_region 6 with ((with_reducible refine (HC.out).mono ?_);rintro e w1 ⟨rfl,hb1⟩;have HB1:=Lh hb1;clear hb1)
 have HSP1:=Lh (HSP.out w1 HB1.out)
 have e0:=(HB1.out.cell (p:=⟨w.heap.size,0,none⟩) HLT.out).trans c0
 have e1:=(HB1.out.cell (p:=⟨w.heap.size,1,none⟩) HLT.out).trans c1
 have e2:=(HB1.out.cell (p:=⟨w.heap.size,2,none⟩) HLT.out).trans c2
 have HE0:=Lh e0
 clear c0 c1 c2
 go_upto_region 7 with ((with_reducible refine (HSP1.out).mono ?_);rintro e w2 ⟨gs,rfl,hgs,hsp,hb2⟩;have HS2:=Lh (And.intro hgs (And.intro hsp hb2));clear hgs hsp hb2 e0 e1 e2)
 obtain ⟨gb,hgb⟩:∃ q,w2.heap.size=q:=⟨_,rfl⟩
 obtain ⟨W3,hW3⟩:∃ q,q=w2.alloc (.cells #[.slice (some ⟨gs,0,none⟩) n n] 66):=⟨_,rfl⟩
 rw [←hW3,hgb]
 have hb3:Below w2.heap.size w2 W3:=by rw [hW3];exact (Below.refl _ _).alloc (Nat.le_refl _) _
 have hz3:W3.heap.size=gb+1:=by rw [hW3,←hgb];simp
 have h3:W3.heap[gb]? = some (.cells #[.slice (some ⟨gs,0,none⟩) n n] 66 (0,0)):=by rw [hW3,←hgb];exact heap_alloc_new w2 _
 have HK3:=Lh (show KeysAt W3 gb gs n sp from ⟨by simp only [World.cell?,h3];rfl,HS2.out.2.1.next hb3,HLEN.out⟩)
 have HGS:=Lh (show w1.heap.size≤gs∧gs < gb from ⟨HS2.out.1,by have:=lt_of_block HS2.out.2.1;omega⟩)
 have HBW3:=Lh (show Below w.heap.size w W3 from HB.out.trans ((HB1.out.trans ((HS2.out.2.2.trans (hb3.mono HS2.out.2.2.size)).mono HB1.out.size)).mono HB.out.size))
 have HW1:=Lh (show w.heap.size < w1.heap.size from Nat.lt_of_lt_of_le HLT.out HB1.out.size)
 have e3:W3.cell? ⟨w.heap.size,0,none⟩=some (.int .i64 n):=by
   rw [((HS2.out.2.2.trans (hb3.mono HS2.out.2.2.size)).cell (p:=⟨w.heap.size,0,none⟩) HW1.out)]
   exact HE0.out
 obtain ⟨go,hgo⟩:∃ q,W3.heap.size=q:=⟨_,rfl⟩
 have hmk:=make_ints n (by omega) W3
 obtain ⟨W4,hW4⟩:∃ q,q=W3.alloc (.cells (intV (List.replicate n 0)).toArray 3):=⟨_,rfl⟩
 have hb4:Below W3.heap.size W3 W4:=by rw [hW4];exact (Below.refl _ _).alloc (Nat.le_refl _) _
 have h4:W4.heap[go]? = some (.cells (intV (List.replicate n 0)).toArray 3 (0,0)):=by rw [hW4,←hgo];exact heap_alloc_new W3 _
 have hz4:W4.heap.size=go+1:=by rw [hW4,←hgo];simp
 rw [←hW4,hgo] at hmk
 have e4:W4.cell? ⟨w.heap.size,0,none⟩=some (.int .i64 n):=(hb4.cell (p:=⟨w.heap.size,0,none⟩) (by have:=HGS.out;have:=HW1.out;simp only [];omega)).trans e3
 obtain ⟨g0,hg0⟩:∃ q,W4.heap.size=q:=⟨_,rfl⟩
 have hmk2:=make_none n (by omega) W4
 obtain ⟨W5,hW5⟩:∃ q,q=W4.alloc (.cells (intV (List.replicate n 0)).toArray 3):=⟨_,rfl⟩
 have hb5:Below W4.heap.size W4 W5:=by rw [hW5];exact (Below.refl _ _).alloc (Nat.le_refl _) _
 have h5:W5.heap[g0]? = some (.cells (intV (List.replicate n 0)).toArray 3 (0,0)):=by rw [hW5,←hg0];exact heap_alloc_new W4 _
 have hz5:W5.heap.size=g0+1:=by rw [hW5,←hg0];simp
 rw [←hW5,hg0] at hmk2
 have HZ:=Lh (show gb+1=go∧go+1=g0∧W5.heap.size=g0+1∧W3.heap.size=go∧W4.heap.size=g0 from ⟨by omega,by omega,hz5,hgo,hg0⟩)
 have HK5:=Lh (show KeysAt W5 gb gs n sp from (HK3.out.next hb4).next hb5)
 have HEO:=Lh (show EndsAt W5 go (List.replicate n 0) from (hb5.block go (lt_of_block h4)).trans h4)
 have HOWN:=Lh (own_none W5 g0 n (intV (List.replicate n 0)) (by simp [intV]) (by omega) h5)
 have HBW5:=Lh (show Below w.heap.size w W5 from HBW3.out.trans ((hb4.trans (hb5.mono hb4.size)).mono HBW3.out.size))
 have b5:=HK5.out.box
 clear hW3 hb3 hz3 h3 hb4 h4 hz4 hW4 hb5 h5 hz5 hW5 hg0 hgo hgb
 go_upto_region 8 with fail
 clear hmk e3
 go_upto_region 9 with fail
 clear hmk2 e4
 go_wp2
 refine wp_code (c:=partL Tryd.f13 0) (by kernel_rfl) ?_
 refine build_l0 (gs:=gs) (base:=g0) (sp:=sp) _ _ HK5.out.row ⟨HLEN.out,by omega⟩ ⟨by have:=HGS.out;have:=HZ.out;omega,by have:=HZ.out;omega⟩ HOWN.out ?_
 intro g c mO mP lG lH lI lJ lK lL lM lN lO lP lQ lR w6 hb6 hown6
 clear b5
 obtain ⟨rest,hor,hgg⟩:=own_ord hown6
 have HGG:=Lh hgg
 have HOR:=Lh hor
 have HB6:=Lh hb6
 have HK6:=Lh (show KeysAt w6 gb gs n sp from KeysAt.chg HK5.out (F:=fun j=>g0≤j) ⟨hb6.os,hb6.tape,hb6.output,hb6.size,fun j _ hj=>hb6.block j (Nat.lt_of_not_le hj)⟩ (show ¬ g0≤gb by have:=HGS.out;have:=HZ.out;omega) (show ¬ g0≤gs by have:=HGS.out;have:=HZ.out;omega))
 obtain ⟨ln,hln⟩:∃ q,(ordTo sp n).length=q:=⟨_,rfl⟩
 rw [hln]
 have hln0:ln≤64:=by rw [←hln];exact Nat.le_trans (ord_len sp n) hn64
 have hln1:ln≤1000:=by omega
 have HSO:=Lh (SortStable_all (n:=ln) (c:=c) (l:=ordTo sp n) w6 HOR.out hln HK6.out (by omega) (by omega) (fun x hx=>ord_mem x hx) ⟨by have:=HGS.out;have:=HZ.out;omega,by have:=HGS.out;have:=HZ.out;omega⟩)
 have HLN:=Lh hln
 have HLN0:=Lh hln0
 clear hb6 hown6 hor hgg hln
 go_upto_region 16 with ((with_reducible refine (HSO.out).mono ?_);rintro e w7 ⟨rfl,ord,hpm,hsr,h1,h2⟩;have H7:=Lh (And.intro h1 h2);clear h1 h2;have HPM:=Lh hpm;have HSR:=Lh hsr;have HOL:=Lh (And.intro (show ord.length=ln by rw [hpm.length_eq];exact HLN.out) (show ∀ x∈ord,0≤x∧x < (n:Int) from fun x hx=>ord_mem x (hpm.mem_iff.1 hx)));clear hpm hsr)
 refine wp_code (c:=partR Tryd.f13 16) (by kernel_rfl) ?_
 refine build_r16 (pool:=pool) _ _ hpl ?_
 intro lV lW lX lY lZ w8 hw8
 have h7g:g < w7.heap.size:=lt_of_block H7.out.1
 have hb8:Below w7.heap.size w7 w8:=by rw [hw8];exact (Below.refl _ _).alloc (Nat.le_refl _) _
 have hk8:KeepAt w8 w7.heap.size (2 ^ pool - 1) 18446744073709551615 (.slice none 0 0):=by rw [hw8];exact heap_alloc_new w7 _
 obtain ⟨kb,hkb⟩:∃ q,w7.heap.size=q:=⟨_,rfl⟩
 have hz8:w8.heap.size=kb+1:=by rw [hw8,←hkb];simp
 have hsz:W5.heap.size≤w6.heap.size∧w6.heap.size≤w7.heap.size:=⟨HB6.out.size,H7.out.2.size⟩
 have hall:w.heap.size < w1.heap.size∧w1.heap.size≤gs∧gs < gb∧gb < go∧go < g0∧g0≤g∧g < kb∧g0 < kb:=by
   have:=HZ.out;have:=HGS.out;have:=HGG.out;have:=HW1.out
   omega
 have HALL:=Lh hall
 have HBW7:=Lh (show Below w.heap.size w w7 from (HBW5.out.trans (HB6.out.mono (by omega))).trans (H7.out.2.below (B:=w.heap.size) (fun j hj (e:j=g)=>by omega) (Nat.le_trans HBW5.out.size hsz.1)))
 have HBW8:=Lh (show Below w.heap.size w w8 from HBW7.out.trans (hb8.mono HBW7.out.size))
 have HK8:=Lh (show KeysAt w8 gb gs n sp from (KeysAt.chg HK6.out H7.out.2 (by omega) (by omega)).next hb8)
 have HO8:=Lh (show OrdAt w8 g ord rest from H7.out.1.next hb8)
 have HE8:=Lh (show EndsAt w8 go (List.replicate n 0) from by
   have h6:EndsAt w6 go (List.replicate n 0):=(HB6.out.block go (by omega)).trans HEO.out
   exact (hb8.block go (by omega)).trans (EndsAt.chg h6 H7.out.2 (by omega)))
 rw [hkb] at hk8 ⊢
 obtain ⟨St,Sf,hs0,hfr,htk,hst⟩:=keeps_all (sp:=sp) (ord:=ord) hpl (by rw [HOL.out.1];exact HLN0.out) w8 kb gs g gb go w.heap.size hk8 (HT.out.next HBW8.out HW0.out) HW0.out HBW8.out.size (by omega) ⟨by omega,by omega,by omega,by omega⟩ ⟨by omega,by omega,by omega,by omega,by omega⟩
 have HST:=Lh (And.intro hs0 (And.intro hfr (And.intro htk hst)))
 clear hs0 hfr htk hst hall hsz hz8 hkb hk8 hb8 hw8 h7g
 go_wp2
 refine wp_code (c:=partL Tryd.f13 2) (by kernel_rfl) ?_
 refine build_l2g (gs:=gs) (m:=n) (B:=w.heap.size) (sp:=sp) (ord:=ord) (rest:=rest) (O:=OF ord (plK sp ord pool) n) (pl:=plK sp ord pool) (St:=St) (Sf:=Sf) _ _ HK8.out HO8.out HE8.out ⟨HOL.out.1,hln1,by omega⟩ HOL.out.2 HST.out.1 HST.out.2.1 HST.out.2.2.1 (fun k=>⟨OF_len,fun q hq=>by rw [OF,List.getD_eq_getElem?_getD,hq];rfl⟩) ⟨by have:=HALL.out;omega,by have:=HALL.out;omega,by have:=HALL.out;omega,by have:=HALL.out;omega⟩ HST.out.2.2.2 ?_
 intro pQ l7 l8 l9 mA mB mC mD mE mF mG mH mI mJ mY iS iT iU iV iW iX iY iZ w9 h9
 have H9:=Lh h9
 clear h9
 go_wp2
 go_ret2
 refine ⟨go,ord,rfl,by have:=HALL.out;omega,HPM.out,HSR.out,by first | exact H9.out.2.1 | (rw [HLN.out];exact H9.out.2.1),HBW8.out.trans (H9.out.1.below (B:=w.heap.size) (fun j hj e=>by have:=e.1;omega) HBW8.out.size)⟩
end Go.Proofs.YtppoiahhaclleaaDoor
