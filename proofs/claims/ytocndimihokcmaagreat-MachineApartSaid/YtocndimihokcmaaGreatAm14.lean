/- Part 14 of a claim; what it proves stands in its last text. -/
import Derived.Test.YtocndimihokcmaaGreatAm7
import Derived.Test.YtocndimihokcmaaGreatAm13
import Derived.Test.YtocndimihokcmaaGreatAm9
import Derived.Test.YtocndimihokcmaaGreatAm10
import Derived.Lib.BufferRead
namespace Go.Proofs.YtocndimihokcmaaGreat
theorem chkI_fields {i:Ins} (h:chkI i=true):∃ hd hs ht hm k,formI i.op=some (hd,hs,ht,hm,k)∧hasOk hd i.d=true∧hasOk hs i.s=true∧hasOk ht i.t=true∧(if hm then placeOk i else noPlace i)=true∧(ht=true→i.d≠i.s)∧immOk k i.imm=true:=by
 unfold chkI at h
 split at h
 · cases h
 · rename_i hd hs ht hm k e
   simp only [Bool.and_eq_true] at h
   obtain ⟨⟨⟨⟨⟨h1,h2⟩,h3⟩,h4⟩,h5⟩,h6⟩:=h
   refine ⟨hd,hs,ht,hm,k,e,h1,h2,h3,h4,fun e=>?_,h6⟩
   rw [e] at h5
   simpa using h5
theorem reg_yes {r:Int} (h:hasOk true r=true):0≤r∧r < 16:=by
 simp only [hasOk,regOk,if_true,Bool.and_eq_true,decide_eq_true_eq] at h
 omega
theorem reg_no {r:Int} (h:hasOk false r=true):r=0:=by
 simpa [hasOk] using h
theorem place_no {i:Ins} (h:noPlace i=true):i.base=0∧i.index=0∧i.scale=0∧i.disp=0:=by
 simp only [noPlace,Bool.and_eq_true,decide_eq_true_eq] at h
 exact ⟨h.1.1.1,h.1.1.2,h.1.2,h.2⟩
theorem place_yes {i:Ins} (h:placeOk i=true):PlcOk i:=by
 simp only [placeOk,regOk,smallI,Bool.and_eq_true,decide_eq_true_eq] at h
 obtain ⟨⟨h1,h2⟩,h3⟩:=h
 refine ⟨by omega,?_,h2⟩
 split at h3
 · rename_i e
   exact .inl ⟨e,by simpa using h3⟩
 · simp only [Bool.and_eq_true,Bool.or_eq_true,decide_eq_true_eq] at h3
   exact .inr (by omega)
theorem imm_one {n:Int} (h:immOk 1 n=true):-2147483648≤n∧n≤2147483647:=by
 simpa [immOk,smallI] using h
theorem imm_bits {n:Int} (h:immOk 3 n=true):1≤n∧n≤63:=by
 simpa [immOk] using h
theorem imm_none {n:Int} (h:immOk 0 n=true):n=0:=by
 simpa [immOk] using h
theorem instP_iff {s:List Nat} {r:Ins×Cur} {i:Ins} {n:Nat} (h:instP r s=some (i,n)) (hl:r.2.1.length≤s.length):n=(encF i).length∧∃ rest,s=encF i++rest:=by
 unfold instP at h
 split at h
 · cases h
 · rename_i h1
   cases h
   simp only [not_or,Bool.not_eq_false,ne_eq,Decidable.not_not] at h1
   refine ⟨?_,s.drop (s.length - r.2.1.length),?_⟩
   · rw [h1.2.2,List.length_take];omega
   · rw [h1.2.2,List.take_append_drop]
def DecTo (f:Nat) (i:Ins) (rest:List Nat):Prop:=anyC (f+2) (encF i++rest,false)=(i,(rest,false))∧ranyC (encF i++rest,false)=(i,(rest,false))
theorem decTo_wide {f:Nat} {i:Ins} {rest tl:List Nat} {r:Nat} (he:encF i=r :: tl) (hr:72≤r∧r < 80) (h:wideC r (tl++rest,false)=(i,(rest,false))∧rwideC r (tl++rest,false)=(i,(rest,false))):DecTo f i rest:=by
 unfold DecTo
 rw [he,List.cons_append,any_wide hr.1 hr.2,rany_wide hr.1 hr.2]
 exact h
theorem reg_low:∀ x:Fin 16,(x:Nat) % 8 ||| 8=x % 8+8:=by decide
theorem dec_all (f:Nat) {i:Ins} (h:chkI i=true) (hi:-9223372036854775808≤i.imm∧i.imm≤9223372036854775807) (rest:List Nat):DecTo f i rest:=by
 obtain ⟨hd,hs,ht,hm,k,e,h1,h2,h3,h4,h5,h6⟩:=chkI_fields h
 obtain ⟨op,d,s,t,ba,ix,sc,di,im⟩:=i
 simp only at h1 h2 h3 h4 h5 h6 e hi
 by_cases hop:op=1∨(6≤op∧op≤14)
 · unfold formI at e
   rw [if_pos (by omega)] at e
   cases e
   have hd:=reg_yes h1
   have hs:=reg_yes h2
   have ht:=reg_no h3
   obtain ⟨p1,p2,p3,p4⟩:=place_no h4
   have hz:=imm_none h6
   simp only at p1 p2 p3 p4
   subst ht;subst p1;subst p2;subst p3;subst p4;subst hz
   refine decTo_wide (r:=rexF s 0 d) (tl:=[rrF op,bothF s d]) ?_ (rex_lt hs.2 (by decide) hd.2) ?_
   · unfold encF
     repeat rw [if_neg (by simp only;omega)]
   · exact dec_rr hs hd hop rest
 unfold formI at e
 by_cases hop2:op=20∨op=21∨op=26∨op=27
 · rw [if_pos (by omega)] at e
   cases e
   have hd:=reg_yes h1
   have hs:=reg_yes h2
   have ht:=reg_no h3
   obtain ⟨p1,p2,p3,p4⟩:=place_no h4
   have hz:=imm_none h6
   simp only at p1 p2 p3 p4
   subst ht;subst p1;subst p2;subst p3;subst p4;subst hz
   have hr:=rex_lt (m:=d) (x:=0) (l:=s) hd.2 (by decide) hs.2
   have m1:=both_mid (n:=s) hd (show (0:Int) < 16 by decide) hs.2
   have m2:=both_last (n:=d) hd.2 (show (0:Int) < 16 by decide) hs
   rcases hop2 with rfl | rfl | rfl | rfl
   · constructor
     · show anyC (f+2) (102 :: rexF d 0 s :: 15 :: 56 :: 246 :: bothF d s :: rest,false)=_
       unfold anyC
       simp [byteC_cons,m1,m2,insR]
     · show ranyC (102 :: rexF d 0 s :: 15 :: 56 :: 246 :: bothF d s :: rest,false)=_
       unfold ranyC
       simp [byteC_cons,m1,m2,insR]
   · constructor
     · show anyC (f+2) (243 :: rexF d 0 s :: 15 :: 56 :: 246 :: bothF d s :: rest,false)=_
       unfold anyC
       simp [byteC_cons,m1,m2,insR]
     · show ranyC (243 :: rexF d 0 s :: 15 :: 56 :: 246 :: bothF d s :: rest,false)=_
       unfold ranyC
       simp [byteC_cons,m1,m2,insR]
   · exact decTo_wide (r:=rexF d 0 s) (tl:=[15,66,bothF d s]) rfl hr (dec_cmov hd hs (.inl ⟨rfl,rfl⟩) rest)
   · exact decTo_wide (r:=rexF d 0 s) (tl:=[15,69,bothF d s]) rfl hr (dec_cmov hd hs (.inr ⟨rfl,rfl⟩) rest)
 rw [if_neg (by omega)] at e
 by_cases hop3:op=2
 · subst hop3
   rw [if_pos rfl] at e
   cases e
   have hd:=reg_yes h1
   have hs:=reg_no h2
   have ht:=reg_no h3
   obtain ⟨p1,p2,p3,p4⟩:=place_no h4
   simp only at p1 p2 p3 p4
   subst ht;subst p1;subst p2;subst p3;subst p4;subst hs
   exact decTo_wide (r:=rexF 0 0 d) (tl:=(184+lo3 d) :: littleF im 8) rfl (rex_lt (by decide) (by decide) hd.2) (dec_imm hd hi rest)
 rw [if_neg hop3] at e
 by_cases hop4:op=3∨op=5
 · rw [if_pos hop4] at e
   cases e
   have hd:=reg_yes h1
   have hs:=reg_no h2
   have ht:=reg_no h3
   have hp:=place_yes h4
   have hz:=imm_none h6
   subst ht;subst hz;subst hs
   have hx:=hp.lt
   have hb:=hp.base
   rcases hop4 with rfl | rfl
   · exact decTo_wide (r:=rexF d ix ba) (tl:=139 :: placeY d ⟨3,d,0,0,ba,ix,sc,di,0⟩) rfl (rex_lt hd.2 hx hb.2) (dec_place (op:=3) hp hd (.inl ⟨rfl,rfl⟩) rest)
   · exact decTo_wide (r:=rexF d ix ba) (tl:=141 :: placeY d ⟨5,d,0,0,ba,ix,sc,di,0⟩) rfl (rex_lt hd.2 hx hb.2) (dec_place (op:=5) hp hd (.inr (.inl ⟨rfl,rfl⟩)) rest)
 rw [if_neg hop4] at e
 by_cases hop5:op=4
 · subst hop5
   rw [if_pos rfl] at e
   cases e
   have hd:=reg_no h1
   have hs:=reg_yes h2
   have ht:=reg_no h3
   have hp:=place_yes h4
   have hz:=imm_none h6
   subst ht;subst hz;subst hd
   exact decTo_wide (r:=rexF s ix ba) (tl:=137 :: placeY s ⟨4,0,s,0,ba,ix,sc,di,0⟩) rfl (rex_lt hs.2 hp.lt hp.base.2) (dec_place (op:=4) hp hs (.inr (.inr ⟨rfl,rfl⟩)) rest)
 rw [if_neg hop5] at e
 by_cases hop6:15≤op∧op≤18
 · rw [if_pos hop6] at e
   cases e
   have hd:=reg_yes h1
   have hs:=reg_no h2
   have ht:=reg_no h3
   obtain ⟨p1,p2,p3,p4⟩:=place_no h4
   have hz:=imm_one h6
   simp only at p1 p2 p3 p4
   subst ht;subst p1;subst p2;subst p3;subst p4;subst hs
   have hn:=num_little 4 im rest false (by omega) (by omega)
   have hr:=rex_lt (m:=0) (x:=0) (l:=d) (by decide) (by decide) hd.2
   rcases (by omega:op=15∨op=16∨op=17∨op=18) with rfl | rfl | rfl | rfl
   · exact decTo_wide (r:=rexF 0 0 d) (tl:=129 :: bothF 0 d :: littleF im 4) rfl hr (dec_group (m:=0) hd (by decide) (.inl rfl) rfl (by decide) (littleF im 4) rest (.inr ⟨by decide,hn⟩))
   · exact decTo_wide (r:=rexF 0 0 d) (tl:=129 :: bothF 4 d :: littleF im 4) rfl hr (dec_group (m:=4) hd (by decide) (.inl rfl) rfl (by decide) (littleF im 4) rest (.inr ⟨by decide,hn⟩))
   · exact decTo_wide (r:=rexF 0 0 d) (tl:=129 :: bothF 5 d :: littleF im 4) rfl hr (dec_group (m:=5) hd (by decide) (.inl rfl) rfl (by decide) (littleF im 4) rest (.inr ⟨by decide,hn⟩))
   · exact decTo_wide (r:=rexF 0 0 d) (tl:=129 :: bothF 7 d :: littleF im 4) rfl hr (dec_group (m:=7) hd (by decide) (.inl rfl) rfl (by decide) (littleF im 4) rest (.inr ⟨by decide,hn⟩))
 rw [if_neg hop6] at e
 by_cases hop7:op=19
 · subst hop7
   rw [if_pos rfl] at e
   cases e
   have hd:=reg_yes h1
   have hs:=reg_yes h2
   have ht:=reg_yes h3
   obtain ⟨p1,p2,p3,p4⟩:=place_no h4
   have hz:=imm_none h6
   simp only at p1 p2 p3 p4
   subst p1;subst p2;subst p3;subst p4;subst hz
   obtain ⟨D,rfl⟩:∃ D:Nat,d=D:=⟨d.toNat,by omega⟩
   obtain ⟨S,rfl⟩:∃ D:Nat,s=D:=⟨s.toNat,by omega⟩
   obtain ⟨T,rfl⟩:∃ D:Nat,t=D:=⟨t.toNat,by omega⟩
   have ex:encF ⟨19,D,S,T,0,0,0,0,0⟩=[196,66+128*(1 - D / 8)+32*(1 - T / 8),131+8*(15 - S),246,192+8*(D % 8)+T % 8]:=by
     show [196,66+128*(1 - hi3 (D:Int))+32*(1 - hi3 (T:Int)),131+8*(15 - (S:Int)).toNat,246,bothF D T]=_
     rw [hi3_nat,hi3_nat,show (15 - (S:Int)).toNat=15 - S by omega]
     unfold bothF
     rw [lo3_nat,lo3_nat]
   obtain ⟨x,hx⟩:∃ x,x=66+128*(1 - D / 8)+32*(1 - T / 8):=⟨_,rfl⟩
   obtain ⟨y,hy⟩:∃ y,y=131+8*(15 - S):=⟨_,rfl⟩
   obtain ⟨z,hz⟩:∃ z,z=192+8*(D % 8)+T % 8:=⟨_,rfl⟩
   rw [←hx,←hy,←hz] at ex
   constructor
   · rw [ex]
     unfold anyC
     simp [byteC_cons,insR]
     unfold midC lastC
     refine ⟨?_,?_,?_⟩ <;> omega
   · rw [ex]
     unfold ranyC
     simp [byteC_cons,insR]
     refine ⟨?_,?_,?_⟩ <;> omega
 rw [if_neg hop7] at e
 by_cases hop8:op=22∨op=23∨op=29
 · rw [if_pos hop8] at e
   cases e
   have hd:=reg_yes h1
   have hs:=reg_no h2
   have ht:=reg_no h3
   obtain ⟨p1,p2,p3,p4⟩:=place_no h4
   have hz:=imm_none h6
   simp only at p1 p2 p3 p4
   subst ht;subst p1;subst p2;subst p3;subst p4;subst hs;subst hz
   have hr:=rex_lt (m:=0) (x:=0) (l:=d) (by decide) (by decide) hd.2
   rcases hop8 with rfl | rfl | rfl
   · exact decTo_wide (r:=rexF 0 0 d) (tl:=[247,bothF 3 d]) rfl hr (dec_group (m:=3) hd (by decide) (.inr (.inl rfl)) rfl (by decide) [] rest (.inl ⟨rfl,rfl,rfl⟩))
   · exact decTo_wide (r:=rexF 0 0 d) (tl:=[247,bothF 2 d]) rfl hr (dec_group (m:=2) hd (by decide) (.inr (.inl rfl)) rfl (by decide) [] rest (.inl ⟨rfl,rfl,rfl⟩))
   · obtain ⟨D,rfl⟩:∃ D:Nat,d=D:=⟨d.toNat,by omega⟩
     have ex:encF ⟨29,D,0,0,0,0,0,0,0⟩=if 7 < D then [65,88+D % 8] else [88+D % 8]:=by
       show (if (7:Int) < (D:Int) then [65,88+lo3 (D:Int)] else [88+lo3 (D:Int)])=_
       rw [lo3_nat]
       by_cases h:7 < D
       · rw [if_pos h,if_pos (by omega)]
       · rw [if_neg h,if_neg (by omega)]
     unfold DecTo
     rw [ex]
     obtain ⟨x,hx⟩:∃ x,x=88+D % 8:=⟨_,rfl⟩
     rw [←hx]
     have c1:¬ x=195:=by omega
     have c2:¬ x / 8=10:=by omega
     have c3:x / 8=11:=by omega
     have c4:¬ x < 88:=by omega
     have c5:x < 96:=by omega
     have c6:88≤x:=by omega
     by_cases h:7 < D
     · have ho:=reg_low ⟨D,by omega⟩
       simp only at ho
       rw [if_pos h]
       constructor
       · unfold anyC
         simp only [List.cons_append,List.nil_append,byteC_cons]
         unfold anyC
         simp [byteC_cons,insR,c1,c3]
         rw [show ((x:Int) % 8).toNat=D % 8 by omega,ho]
         omega
       · unfold ranyC
         simp [byteC_cons,insR,c4]
         omega
     · rw [if_neg h]
       constructor
       · unfold anyC
         simp [byteC_cons,insR,c1,c3]
         omega
       · unfold ranyC
         simp [byteC_cons,insR,c1,c4,c5,c6]
         omega
 rw [if_neg hop8] at e
 by_cases hop9:op=24∨op=25
 · rw [if_pos hop9] at e
   cases e
   have hd:=reg_yes h1
   have hs:=reg_no h2
   have ht:=reg_no h3
   obtain ⟨p1,p2,p3,p4⟩:=place_no h4
   have hz:=imm_bits h6
   simp only at p1 p2 p3 p4
   subst ht;subst p1;subst p2;subst p3;subst p4;subst hs
   have hn:=num_little 1 im rest false (by omega) (by omega)
   have hr:=rex_lt (m:=0) (x:=0) (l:=d) (by decide) (by decide) hd.2
   rcases hop9 with rfl | rfl
   · exact decTo_wide (r:=rexF 0 0 d) (tl:=193 :: bothF 4 d :: littleF im 1) rfl hr (dec_group (m:=4) hd (by decide) (.inr (.inr rfl)) rfl (by decide) (littleF im 1) rest (.inr ⟨by decide,hn⟩))
   · exact decTo_wide (r:=rexF 0 0 d) (tl:=193 :: bothF 5 d :: littleF im 1) rfl hr (dec_group (m:=5) hd (by decide) (.inr (.inr rfl)) rfl (by decide) (littleF im 1) rest (.inr ⟨by decide,hn⟩))
 rw [if_neg hop9] at e
 by_cases hop10:op=28
 · subst hop10
   rw [if_pos rfl] at e
   cases e
   have hd:=reg_no h1
   have hs:=reg_yes h2
   have ht:=reg_no h3
   obtain ⟨p1,p2,p3,p4⟩:=place_no h4
   have hz:=imm_none h6
   simp only at p1 p2 p3 p4
   subst ht;subst p1;subst p2;subst p3;subst p4;subst hd;subst hz
   obtain ⟨D,rfl⟩:∃ D:Nat,s=D:=⟨s.toNat,by omega⟩
   have ex:encF ⟨28,0,D,0,0,0,0,0,0⟩=if 7 < D then [65,80+D % 8] else [80+D % 8]:=by
     show (if (7:Int) < (D:Int) then [65,80+lo3 (D:Int)] else [80+lo3 (D:Int)])=_
     rw [lo3_nat]
     by_cases h:7 < D
     · rw [if_pos h,if_pos (by omega)]
     · rw [if_neg h,if_neg (by omega)]
   unfold DecTo
   rw [ex]
   obtain ⟨x,hx⟩:∃ x,x=80+D % 8:=⟨_,rfl⟩
   rw [←hx]
   have c1:¬ x=195:=by omega
   have c2:x / 8=10:=by omega
   have c4:x < 88:=by omega
   have c6:80≤x:=by omega
   by_cases h:7 < D
   · have ho:=reg_low ⟨D,by omega⟩
     simp only at ho
     rw [if_pos h]
     constructor
     · unfold anyC
       simp only [List.cons_append,List.nil_append,byteC_cons]
       unfold anyC
       simp [byteC_cons,insR,c1,c2]
       rw [show ((x:Int) % 8).toNat=D % 8 by omega,ho]
       omega
     · unfold ranyC
       simp [byteC_cons,insR,c4]
       omega
   · rw [if_neg h]
     constructor
     · unfold anyC
       simp [byteC_cons,insR,c1,c2]
       omega
     · unfold ranyC
       simp [byteC_cons,insR,c1,c4,c6]
       omega
 rw [if_neg hop10] at e
 by_cases hop11:op=30∨op=31∨op=32
 · rw [if_pos hop11] at e
   cases e
   have hd:=reg_no h1
   have hs:=reg_no h2
   have ht:=reg_no h3
   obtain ⟨p1,p2,p3,p4⟩:=place_no h4
   have hz:=imm_one h6
   simp only at p1 p2 p3 p4
   subst ht;subst p1;subst p2;subst p3;subst p4;subst hd;subst hs
   have hn:=num_little 4 im rest false (by omega) (by omega)
   rcases hop11 with rfl | rfl | rfl
   · constructor
     · show anyC (f+2) (233 :: (littleF im 4++rest),false)=_
       unfold anyC
       simp [byteC_cons,hn,insR]
     · show ranyC (233 :: (littleF im 4++rest),false)=_
       unfold ranyC
       simp [byteC_cons,hn,insR]
   · constructor
     · show anyC (f+2) (15 :: 133 :: (littleF im 4++rest),false)=_
       unfold anyC
       simp [byteC_cons,hn,insR]
     · show ranyC (15 :: 133 :: (littleF im 4++rest),false)=_
       unfold ranyC
       simp [byteC_cons,hn,insR]
   · constructor
     · show anyC (f+2) (15 :: 130 :: (littleF im 4++rest),false)=_
       unfold anyC
       simp [byteC_cons,hn,insR]
     · show ranyC (15 :: 130 :: (littleF im 4++rest),false)=_
       unfold ranyC
       simp [byteC_cons,hn,insR]
 rw [if_neg hop11] at e
 by_cases hop12:op=33
 · subst hop12
   rw [if_pos rfl] at e
   cases e
   have hd:=reg_no h1
   have hs:=reg_no h2
   have ht:=reg_no h3
   obtain ⟨p1,p2,p3,p4⟩:=place_no h4
   have hz:=imm_none h6
   simp only at p1 p2 p3 p4
   subst ht;subst p1;subst p2;subst p3;subst p4;subst hd;subst hs;subst hz
   exact ⟨rfl,rfl⟩
 rw [if_neg hop12] at e
 cases e
def LenOk (l:List Nat):Prop:=1≤l.length∧l.length≤10
theorem lenOk_ite {c:Prop} [Decidable c] {a b:List Nat} (ha:LenOk a) (hb:LenOk b):LenOk (if c then a else b):=by
 split
 · exact ha
 · exact hb
theorem enc_len (i:Ins):1≤(encF i).length∧(encF i).length≤10:=by
 have hp:∀ m,1≤(placeY m i).length∧(placeY m i).length≤6:=by
   intro m
   unfold placeY
   rw [List.length_append,little_len]
   have h1:dispN (modF i)≤4:=by unfold dispN;split;decide;split <;> decide
   split
   · simp only [List.length_cons,List.length_nil];omega
   · simp only [List.length_cons,List.length_nil];omega
 have h1:=hp i.d
 have h2:=hp i.s
 show LenOk (encF i)
 unfold encF
 repeat' with_reducible refine lenOk_ite ?_ ?_
 all_goals unfold LenOk
 all_goals simp only [List.length_cons,List.length_nil,little_len]
 all_goals omega
theorem instP_some {r:Ins×Cur} {s:List Nat} {i:Ins} {n:Nat} (h:instP r s=some (i,n)):chkI i=true∧encF i=s.take n∧i=r.1∧n=s.length - r.2.1.length:=by
 unfold instP at h
 split at h
 · cases h
 · rename_i h1
   cases h
   simp only [not_or,Bool.not_eq_false,ne_eq,Decidable.not_not] at h1
   exact ⟨h1.2.1,h1.2.2,rfl,rfl⟩
structure DecOk (D:Cur→Ins×Cur):Prop where
 back:∀ i rest,chkI i=true→(-9223372036854775808≤i.imm∧i.imm≤9223372036854775807)→D (encF i++rest,false)=(i,(rest,false))
 num:∀ s,(∀ b∈s,b < 256)→-9223372036854775808≤(D (s,false)).1.imm∧(D (s,false)).1.imm≤9223372036854775807
 less:∀ s,(D (s,false)).2.1.length≤s.length
theorem dec_as {D D':Cur→Ins×Cur} (h:DecOk D) (h':DecOk D') {s:List Nat} (hs:∀ b∈s,b < 256) {i:Ins} {n:Nat} (he:instP (D (s,false)) s=some (i,n)) (t:List Nat) (ht:s <+: t∨(10≤t.length∧t <+: s)):instP (D' (t,false)) t=some (i,n):=by
 obtain ⟨e1,rest,e2⟩:=instP_iff he (h.less s)
 obtain ⟨h1,_,h3,_⟩:=instP_some he
 have hn:=h.num s hs
 rw [←h3] at hn
 obtain ⟨r2,hr⟩:∃ r2,t=encF i++r2:=by
   rcases ht with ⟨u,hu⟩ | ⟨h10,u,hu⟩
   · exact ⟨rest++u,by rw [←hu,e2,List.append_assoc]⟩
   · have hl:=(enc_len i).2
     refine ⟨t.drop (encF i).length,?_⟩
     have e3:t.take (encF i).length=encF i:=by
       have e4:(t++u).take (encF i).length=encF i:=by rw [hu,e2,List.take_left]
       rw [List.take_append_of_le_length (by omega)] at e4
       exact e4
     conv=>rhs;rw [←e3]
     rw [List.length_take,Nat.min_eq_left (by omega),List.take_append_drop]
 subst hr
 unfold instP
 rw [h'.back i r2 h1 hn,if_neg]
 · simp [e1]
 · simp [h1]
theorem dec_eq {D D':Cur→Ins×Cur} (h:DecOk D) (h':DecOk D') (s:List Nat) (hs:∀ b∈s,b < 256):instP (D (s.take 16,false)) (s.take 16)=instP (D' (s,false)) s:=by
 cases e:instP (D (s.take 16,false)) (s.take 16) with
 | some x=>exact (dec_as h h' (fun b hb=>hs b (List.mem_of_mem_take hb)) e s (.inl (List.take_prefix _ _))).symm
 | none =>
   cases e':instP (D' (s,false)) s with
   | none=>rfl
   | some x =>
     rcases Nat.lt_or_ge s.length 16 with hl | hl
     · rw [List.take_of_length_le (by omega)] at e
       rw [dec_as h' h hs e' s (.inl (List.prefix_refl _))] at e
       cases e
     · rw [dec_as h' h hs e' (s.take 16) (.inr ⟨by rw [List.length_take];omega,List.take_prefix _ _⟩)] at e
       cases e
theorem bless (c:Cur):(byteC c).2.1.length≤c.1.length:=by
 obtain ⟨l,b⟩:=c
 cases l <;> simp [byteC]
theorem rless (k:Nat):∀ c:Cur,(rawC k c).2.1.length≤c.1.length:=by
 induction k with
 | zero=>intro c;exact Nat.le_refl _
 | succ k ih=>intro c;exact Nat.le_trans (ih _) (bless c)
theorem nless (k:Nat) (c:Cur):(numC k c).2.1.length≤c.1.length:=rless k c
theorem p1less (r rm:Nat) (c:Cur):(place1 r rm c).2.1.length≤c.1.length:=by
 unfold place1
 split
 · exact bless c
 · exact Nat.le_refl _
theorem pless (r rm:Nat) (c:Cur):(placeC r rm c).2.1.length≤c.1.length:=by
 unfold placeC
 dsimp only
 split
 · exact Nat.le_trans (nless _ _) (p1less _ _ _)
 · split
   · exact Nat.le_trans (nless _ _) (p1less _ _ _)
   · exact p1less _ _ _
def CurOk (c:Cur):Prop:=∀ b∈c.1,b < 256
theorem bok {c:Cur} (h:CurOk c):CurOk (byteC c).2∧(byteC c).1 < 256:=by
 obtain ⟨l,b⟩:=c
 cases l with
 | nil=>exact ⟨fun x hx=>(nomatch hx),show 0 < 256 by decide⟩
 | cons y t=>exact ⟨fun x hx=>h x (List.mem_cons_of_mem _ hx),h y (List.mem_cons_self ..)⟩
theorem rok (k:Nat):∀ {c:Cur},CurOk c→CurOk (rawC k c).2∧(rawC k c).1 < 256 ^ k:=by
 induction k with
 | zero=>intro c h;exact ⟨h,show 0 < 256 ^ 0 by decide⟩
 | succ k ih =>
   intro c h
   have h1:=ih (bok h).1
   refine ⟨h1.1,?_⟩
   have h2:=(bok h).2
   have h3:=h1.2
   show (byteC c).1+256*(rawC k (byteC c).2).1 < 256 ^ (k+1)
   rw [Nat.pow_succ]
   omega
theorem nok {k:Nat} {c:Cur} (h:CurOk c):CurOk (numC k c).2∧-((256 ^ k:Nat):Int)≤2*(numC k c).1∧2*(numC k c).1 < (256 ^ k:Nat):=by
 have h1:=rok k h
 refine ⟨h1.1,?_⟩
 unfold numC sgnC
 have h2:=h1.2
 generalize 256 ^ k=p at *
 dsimp only
 split <;> omega
def ImmOk (x:Ins×Cur):Prop:=x.2.1.length≤x.2.1.length∧(-9223372036854775808≤x.1.imm∧x.1.imm≤9223372036854775807)
theorem immOk_0 {op d s t:Int} {c:Cur}:ImmOk (insR op d s t 0,c):=⟨Nat.le_refl _,(by show (-9223372036854775808:Int)≤0∧(0:Int)≤9223372036854775807;decide)⟩
theorem immOk_p {op d s:Int} {p:Plc} {c:Cur}:ImmOk (insP op d s p,c):=⟨Nat.le_refl _,(by show (-9223372036854775808:Int)≤0∧(0:Int)≤9223372036854775807;decide)⟩
theorem immOk_n {op d s t:Int} {k:Nat} {c c':Cur} (h:CurOk c) (hk:k≤8):ImmOk (insR op d s t (numC k c).1,c'):=by
 refine ⟨Nat.le_refl _,?_⟩
 have h1:=(nok (k:=k) h).2
 have h2:256 ^ k≤256 ^ 8:=Nat.pow_le_pow_right (by decide) hk
 show -9223372036854775808≤(numC k c).1∧(numC k c).1≤9223372036854775807
 omega
theorem immOk_ite {q:Prop} [Decidable q] {a b:Ins×Cur} (ha:ImmOk a) (hb:ImmOk b):ImmOk (if q then a else b):=by
 split
 · exact ha
 · exact hb
theorem groupC_le (b m:Nat):(groupC b m).2≤8:=by
 unfold groupC
 repeat' split
 all_goals decide
theorem wide_imm (r:Nat) {c:Cur} (h:CurOk c):ImmOk (wideC r c):=by
 unfold wideC
 dsimp only
 have h1:=(bok h).1
 refine immOk_ite immOk_0 (immOk_ite immOk_p (immOk_ite (immOk_ite immOk_0 immOk_p) (immOk_ite (immOk_n h1 (by decide)) (immOk_ite immOk_0 (immOk_ite (immOk_n (bok h1).1 (groupC_le _ _)) immOk_0)))))
theorem any_imm (f:Nat):∀ {c:Cur},CurOk c→ImmOk (anyC f c):=by
 induction f with
 | zero=>intro c _;exact immOk_0
 | succ f ih =>
   intro c h
   have h1:=(bok h).1
   have h2:=ih h1
   unfold anyC
   dsimp only
   exact immOk_ite immOk_0 (immOk_ite immOk_0 (immOk_ite immOk_0 (immOk_ite (immOk_ite h2 h2) (immOk_ite (immOk_n h1 (by decide)) (immOk_ite (immOk_n (bok h1).1 (by decide)) (immOk_ite immOk_0 (immOk_ite immOk_0 (wide_imm _ h1))))))))
theorem rwide_imm (r:Nat) {c:Cur} (h:CurOk c):ImmOk (rwideC r c):=by
 unfold rwideC
 dsimp only
 have h1:=(bok h).1
 have h2:=(bok h1).1
 have hp:∀ {b:Nat} {u v w:Ins} {c:Cur},ImmOk (u,c)→ImmOk (v,c)→ImmOk (w,c)→ImmOk ((if b=139 then u else if b=137 then v else w),c):=by
   intro b u v w c h1 h2 h3
   split
   · exact h1
   · split
     · exact h2
     · exact h3
 exact immOk_ite (immOk_n h1 (by decide)) (immOk_ite immOk_0 (immOk_ite (hp immOk_p immOk_p immOk_p) (immOk_ite (immOk_n h2 (by decide)) (immOk_ite immOk_0 (immOk_ite immOk_0 (immOk_ite (immOk_n h2 (by decide)) (immOk_ite (immOk_n h2 (by decide)) immOk_0)))))))
theorem rany_imm {c:Cur} (h:CurOk c):ImmOk (ranyC c):=by
 have h1:=(bok h).1
 unfold ranyC
 dsimp only
 exact immOk_ite immOk_0 (immOk_ite immOk_0 (immOk_ite immOk_0 (immOk_ite (immOk_ite immOk_0 immOk_0) (immOk_ite (immOk_n h1 (by decide)) (immOk_ite (immOk_n (bok h1).1 (by decide)) (immOk_ite immOk_0 (immOk_ite immOk_0 (rwide_imm _ h1))))))))
def LessC (n:Nat) (x:Ins×Cur):Prop:=x.2.1.length≤n
theorem lessC_ite {n:Nat} {q:Prop} [Decidable q] {a b:Ins×Cur} (ha:LessC n a) (hb:LessC n b):LessC n (if q then a else b):=by
 split
 · exact ha
 · exact hb
theorem wide_less (r:Nat) (c:Cur):LessC c.1.length (wideC r c):=by
 have h1:=bless c
 have h2:=bless (byteC c).2
 have h3:=Nat.le_trans h2 h1
 unfold wideC
 dsimp only
 exact lessC_ite h3 (lessC_ite (Nat.le_trans (pless _ _ _) h3) (lessC_ite (lessC_ite h3 (Nat.le_trans (pless _ _ _) h3)) (lessC_ite (Nat.le_trans (nless _ _) h1) (lessC_ite (Nat.le_trans (bless _) h3) (lessC_ite (Nat.le_trans (nless _ _) h3) h3)))))
theorem any_less (f:Nat):∀ (c:Cur),LessC c.1.length (anyC f c):=by
 induction f with
 | zero=>intro c;exact Nat.le_refl _
 | succ f ih =>
   intro c
   have h1:=bless c
   have h2:LessC c.1.length (anyC f (byteC c).2):=Nat.le_trans (ih _) h1
   have h3:=Nat.le_trans (bless (byteC c).2) h1
   unfold anyC
   dsimp only
   exact lessC_ite h1 (lessC_ite h1 (lessC_ite h1 (lessC_ite (lessC_ite h2 h2) (lessC_ite (Nat.le_trans (nless _ _) h1) (lessC_ite (Nat.le_trans (nless _ _) h3) (lessC_ite (Nat.le_trans (bless _) (Nat.le_trans (bless _) (Nat.le_trans (bless _) h3))) (lessC_ite (Nat.le_trans (bless _) (Nat.le_trans (bless _) (Nat.le_trans (bless _) (Nat.le_trans (bless _) h3)))) (Nat.le_trans (wide_less _ _) h1))))))))
theorem rwide_less (r:Nat) (c:Cur):LessC c.1.length (rwideC r c):=by
 have h1:=bless c
 have h2:=bless (byteC c).2
 have h3:=Nat.le_trans h2 h1
 unfold rwideC
 dsimp only
 have h4:∀ k,(numC k (byteC (byteC c).2).2).2.1.length≤c.1.length:=fun k=>Nat.le_trans (nless _ _) h3
 exact lessC_ite (Nat.le_trans (nless _ _) h1) (lessC_ite (Nat.le_trans (bless _) h3) (lessC_ite (Nat.le_trans (pless _ _ _) h3) (lessC_ite (h4 4) (lessC_ite h3 (lessC_ite h3 (lessC_ite (h4 1) (lessC_ite (h4 1) h3)))))))
theorem rany_less (c:Cur):LessC c.1.length (ranyC c):=by
 have h1:=bless c
 have h3:=Nat.le_trans (bless (byteC c).2) h1
 unfold ranyC
 dsimp only
 exact lessC_ite h1 (lessC_ite h1 (lessC_ite h1 (lessC_ite (lessC_ite h3 h3) (lessC_ite (Nat.le_trans (nless _ _) h1) (lessC_ite (Nat.le_trans (nless _ _) h3) (lessC_ite (Nat.le_trans (bless _) (Nat.le_trans (bless _) (Nat.le_trans (bless _) h3))) (lessC_ite (Nat.le_trans (bless _) (Nat.le_trans (bless _) (Nat.le_trans (bless _) (Nat.le_trans (bless _) h3)))) (Nat.le_trans (rwide_less _ _) h1))))))))
theorem any_ok:DecOk fun c=>anyC (c.1.length+1) c:=by
 refine ⟨fun i rest hc hi=>?_,fun s hs=>(any_imm _ (show CurOk (s,false) from hs)).2,fun s=>any_less _ _⟩
 obtain ⟨f,hf⟩:∃ f,(encF i++rest).length+1=f+2:=⟨(encF i++rest).length - 1,by have:=(enc_len i).1;rw [List.length_append];omega⟩
 show anyC ((encF i++rest).length+1) _=_
 rw [hf]
 exact (dec_all f hc hi rest).1
theorem rany_ok:DecOk ranyC:=⟨fun _ rest hc hi=>(dec_all 0 hc hi rest).2,fun s hs=>(rany_imm (show CurOk (s,false) from hs)).2,fun _=>rany_less _⟩
def decF (s:List Nat):Option (Ins×Nat):=instP (ranyC (s,false)) s
theorem decF_any {s:List Nat} (hs:∀ b∈s,b < 256):instP (anyC ((s.take 16).length+1) (s.take 16,false)) (s.take 16)=decF s:=dec_eq any_ok rany_ok s hs
theorem decF_more {s:List Nat} (hs:∀ b∈s,b < 256) {x:Ins×Nat} (h:decF s=some x) (t:List Nat):decF (s++t)=some x:=dec_as rany_ok rany_ok hs h (s++t) (.inl (List.prefix_append _ _))
end Go.Proofs.YtocndimihokcmaaGreat
namespace Go.Proofs.YtocndimihokcmaaGreat
theorem placeB_eq (i:Ins):placeB i=placeOk i:=by
 unfold placeB placeOk
 rfl
theorem chk_of9 {i:Ins} {hd hs ht hm:Bool} {k:Nat} (hf:formI i.op=some (hd,hs,ht,hm,k)) (h0:(!(formF i.op).name.isEmpty)=true) (h1:hasB (formF i.op).is 1=hd) (h2:hasB (formF i.op).is 2=hs) (h4:hasB (formF i.op).is 4=ht) (h8:hasB (formF i.op).is 8=hm) (hn:∀ n,numB (formF i.op).is n=immOk k n):chkP i=chkI i:=by
 unfold chkP chkI
 rw [hf,h0,h1,h2,h4,h8,hn,placeB_eq]
 simp only [Bool.true_and]
 generalize immOk k i.imm=a
 generalize (hasOk hd i.d && hasOk hs i.s && hasOk ht i.t)=b
 generalize (if hm=true then placeOk i else noPlace i)=c
 have e:(!(ht && i.d == i.s))=(!ht || decide (i.d≠i.s)):=by
   cases ht
   · rfl
   · by_cases h:i.d=i.s <;> simp [h]
 rw [e]
 generalize (!ht || decide (i.d≠i.s))=d
 cases a <;> cases b <;> cases c <;> cases d <;> rfl
theorem chk_eq (i:Ins):chkP i=chkI i:=by
 obtain ⟨op,d,s,t,ba,ix,sc,di,im⟩:=i
 by_cases hr:1≤op∧op≤33
 · rcases (by omega:op=1∨op=2∨op=3∨op=4∨op=5∨op=6∨op=7∨op=8∨op=9∨op=10∨op=11∨op=12∨op=13∨op=14∨op=15∨op=16∨op=17∨op=18∨op=19∨op=20∨op=21∨op=22∨op=23∨op=24∨op=25∨op=26∨op=27∨op=28∨op=29∨op=30∨op=31∨op=32∨op=33) with rfl | rfl | rfl | rfl | rfl | rfl | rfl | rfl | rfl | rfl | rfl | rfl | rfl | rfl | rfl | rfl | rfl | rfl | rfl | rfl | rfl | rfl | rfl | rfl | rfl | rfl | rfl | rfl | rfl | rfl | rfl | rfl | rfl
   all_goals exact chk_of9 rfl (by kernel_rfl) (by kernel_rfl) (by kernel_rfl) (by kernel_rfl) (by kernel_rfl) (by intro n;kernel_rfl)
 · have h1:formI op=none:=by
     unfold formI
     repeat rw [if_neg (by omega)]
   have h2:formF op=noForm:=by
     rcases (by omega:op < 0∨op=0∨34≤op) with h | h | h
     · exact formF_out _ (.inl h)
     · rw [h];rfl
     · exact formF_out _ (.inr h)
   unfold chkP chkI
   rw [h1,h2]
   rfl
end Go.Proofs.YtocndimihokcmaaGreat
namespace Go.Proofs.YtocndimihokcmaaGreat
open Go.RowKit
set_option maxRecDepth 100000
open Go.Maps (Keyed)
open Go.Maps
def strB (l:List UInt8):Value:=.string ⟨l.toArray⟩
def toB (l:List Nat):List UInt8:=l.map UInt8.ofNat
theorem toB_len (l:List Nat):(toB l).length=l.length:=List.length_map ..
theorem exec_alloc {P:Program} {o:Oper} {a:Act} {w w':World} {t:TypeId} {v:Value} (ho:o.op=.alloc t) (h:(Instr.alloc t true (.tuple #[])).run P w=.ok v w'):(execOp a.eval o).run P w=.ok (.value v) w':=by
 unfold execOp
 simp only [ho,Sem.run_bind,Sem.run_pure,h,Result.andThen_ok]
theorem alloc_way (w:World):(Instr.alloc 143 true (.tuple #[])).run Tryz.prog w=.ok (.pointer (some ⟨w.heap.size,0,none⟩)) (w.alloc (.cells #[.int .u8 0,.int .u8 0,.nilFunc] 143)):=by kernel_rfl
theorem map_ne {P:Program} {k:TypeId} {Rr:Value→Option (DataW Unit×List MemPlace)} {w:World} {b g n:Nat} {D:DataW Unit} {cs:Array Value} {t:TypeId} {f:Nat×Nat} (h:w.ownsMap P k Rr b n D) (hc:w.heap[g]? = some (.cells cs t f)):b≠g:=by
 rintro rfl
 obtain ⟨es,clock,hb,_⟩:=h
 rw [hc] at hb
 cases hb
theorem grown_setRow (w:World) (g:Nat) (cs:Array Value):w.grownBy (w.setRow g cs) (some g):=⟨rfl,rfl,rfl,by simp [World.setRow],fun k _ hne=>setRow_other _ _ _ _ (fun e=>hne (by rw [e]))⟩
theorem wpList_valJ {P:Program} {ops:Array Oper} {rest:List Oper} {o:Oper} {a:Act} {w:World} {Q:Exit→Act→World→Prop} (hg:o.guard=none) {v:Value} (h:(execOp a.eval o).run P w=.ok (.value v) w) (k:wpList P ops Q rest (a.put o.dst v) w):wpList P ops Q (o :: rest) a w :=
 wpList_plain hg fun K hK=>by unfold Oper.wp;rw [h];exact hK _ _ k
theorem infoWay3:(Tryz.prog.info? 143).map (·.size)=some 3:=by kernel_rfl
theorem conv8 {w:World} {base n c:Nat} {A:Option Addr} {l:List Nat} (h:w.ownsRow base 5 1 (.slice A n c) n (u8V l)) (hb:∀ x∈l,x < 256) (h0:0 < n):(convert 70 9 (.slice A n c)).run Tryz.prog w=.ok (strB (toB l)) w:=by
 have hn:n=l.length:=by have:=h.1;rw [u8V_len] at this;omega
 cases A with
 | none =>
   obtain ⟨A',c',e,hz⟩:=own_formB h
   cases e
   have:=(hz rfl).1
   omega
 | some ad =>
   have hc:=own_cells8 h
   have hh:=run_convert_bytes_back (P:=Tryz.prog) w 70 9 5 ad c (toB l) Tryz.underlying70 Tryz.underlying5 Tryz.underlying9 (fun j hj=>by
     have hj2:j < l.length:=by rw [toB_len] at hj;exact hj
     have h1:(u8V l)[j]? = some (.int .u8 (l[j]:Nat)):=by unfold u8V;rw [List.getElem?_map,List.getElem?_eq_getElem hj2];rfl
     have h2:=hc j _ h1
     rw [h2]
     have h3:(toB l)[j].toNat=l[j]:=by
       have e1:(toB l)[j]? = some (UInt8.ofNat l[j]):=by unfold toB;rw [List.getElem?_map,List.getElem?_eq_getElem hj2];rfl
       have e2:(toB l)[j]=UInt8.ofNat l[j]:=Option.some.inj ((List.getElem?_eq_getElem hj).symm.trans e1)
       have:=hb l[j] (List.getElem_mem ..)
       rw [e2]
       simp;omega
     rw [h3])
   rw [toB_len,←hn] at hh
   exact hh
set_option maxHeartbeats 8000000 in
theorem Inst_bad (i:Ins) (hi:InsOk i) (hc:chkP i=false) (w:World):Calls Tryz.prog 44 #[.agg (insRow i).toArray] w fun e w'=>e=.returned (.tuple #[strB [],.int .i64 2])∧Below w.heap.size w w':=by
 have HCK:=Lh (fun w_=>show Calls Tryz.prog 75 #[.agg (insRow i).toArray] w_ (fun e w'=>e=.returned (.int .i64 2)∧Below w_.heap.size w_ w') from chk_no hc▸iCheck_any i hi w_)
 obtain ⟨W,hW⟩:∃ W,W=w.alloc (.cells (insRow i).toArray 40):=⟨_,rfl⟩
 have HB:=Lh (show Below w.heap.size w W by rw [hW];exact (Below.refl _ _).alloc (Nat.le_refl _) _)
 have hi1:W.heap[w.heap.size]? = some (.cells (insRow i).toArray 40 (0,0)):=by rw [hW];exact heap_alloc_new w _
 have HI:=Lh hi1
 have HW:=Lh hW
 clear hW hi1 hi hc
 go_enter Tryz.func44,Tryz.ntmps44
 go_upto_region 1 with go_in
 rw [←HW.out]
 clear HW
 go_wp2_with (first
   | (refine wpList_valJ rfl (exec_load_row 40 _ rfl w.heap.size rfl (insRow i).toArray 40 _ HI.out _ Tryz.underlying40 rfl (infoIns9' i)) ?_)
   | ((with_reducible refine (HCK.out _).mono ?_);rintro e_ w1 ⟨rfl,hb1⟩;have HB1:=Lh hb1;clear hb1)
   | go_in)
 go_ret2
 exact ⟨rfl,HB.out.trans (HB1.out.mono HB.out.size)⟩
theorem way_form {w:World} {g c m N:Nat} (h:w.heap[g]? = some (.cells #[.int .u8 (c:Nat),.int .u8 (m:Nat),.func (.func N) #[] #[]] 143 (0,0))):∀ (j:Nat) (v:Value),(#[Value.int .u8 (c:Nat),.int .u8 (m:Nat)]:Array Value).toList[j]? = some v→w.cell? ((⟨g,0,none⟩:Addr).add j)=some v:=by
 intro j v hv
 rw [add_plain,Nat.zero_add]
 simp only [World.cell?,h]
 match j,hv with
 | 0,hv=>simpa using hv
 | 1,hv=>simpa using hv
 | j+2,hv=>simp at hv
set_option maxHeartbeats 8000000 in
theorem Inst_put (i:Ins) (hi:InsOk i) (hc:chkP i=true) (c m N:Nat) (hcm:(0≤(c:Int)∧(c:Int) < 256)∧(0≤(m:Int)∧(m:Int) < 256)) (hkw:(Lit.int .i64 i.op).wf=true) (hway:waysD.atKey (.int .i64 i.op) (.lit (.int .i64 (-1)))=wayN c m N) (l:List Nat) (hput:∀ w,Calls Tryz.prog N #[.agg #[.int .u8 (c:Nat),.int .u8 (m:Nat)],.agg (insRow i).toArray] w (BytesTold l w)) (hent:∀ args w,(callFunc N args).run Tryz.prog w=.ok (.enter N args) w) (hl:0 < l.length) (hlb:∀ x∈l,x < 256) (w:World) :
   Calls Tryz.prog 44 #[.agg (insRow i).toArray] w fun e w'=>e=.returned (.tuple #[strB (toB l),.int .i64 0])∧Below w.heap.size w w':=by
 have HCK:=Lh (fun w_=>show Calls Tryz.prog 75 #[.agg (insRow i).toArray] w_ (fun e w'=>e=.returned (.int .i64 0)∧Below w_.heap.size w_ w') from (show errOf (chkP i)=0 by rw [hc];rfl)▸iCheck_any i hi w_)
 obtain ⟨W,hW⟩:∃ W,W=w.alloc (.cells (insRow i).toArray 40):=⟨_,rfl⟩
 have HB:=Lh (show Below w.heap.size w W by rw [hW];exact (Below.refl _ _).alloc (Nat.le_refl _) _)
 have hi1:W.heap[w.heap.size]? = some (.cells (insRow i).toArray 40 (0,0)):=by rw [hW];exact heap_alloc_new w _
 have HI:=Lh hi1
 have HW:=Lh hW
 have HWY:=Lh (fun w_=>ways_any w_)
 have HCM:=Lh hcm
 have HKW:=Lh hkw
 have HWAY:=Lh hway
 have HPUT:=Lh hput
 have HLB:=Lh hlb
 have HL1:=Lh hl
 clear hW hi1 hi hc hcm hkw hway hput hlb hl
 go_enter Tryz.func44,Tryz.ntmps44
 go_upto_region 1 with go_in
 rw [←HW.out]
 clear HW
 go_upto_region 4 with (first | (refine wpList_valJ rfl (exec_load_row 40 _ rfl w.heap.size rfl (insRow i).toArray 40 _ HI.out _ Tryz.underlying40 rfl (infoIns9' i)) ?_) | ((with_reducible refine (HCK.out _).mono ?_);rintro e_ w1 ⟨rfl,hb1⟩;have HB1:=Lh hb1;clear hb1) | go_in)
 obtain ⟨W1,hW1⟩:∃ W1,W1=w1:=⟨_,rfl⟩
 subst hW1
 have HI1:=Lh (fun (w_:World) (h_:Below W1.heap.size W1 w_)=>((h_.block _ (by have:=HB1.out.size;have:=lt_of_block HI.out;omega)).trans ((HB1.out.block _ (lt_of_block HI.out)).trans HI.out):w_.heap[w.heap.size]? = some (.cells (insRow i).toArray 40 (0,0))))
 have HOPC:=Lh (fun (w_:World) (h_:Below W1.heap.size W1 w_)=>(by simp [World.cell?,HI1.out w_ h_,insRow]:w_.cell? ⟨w.heap.size,0,none⟩=some (.int .i64 i.op)))
 refine wp_region_grow (Below W1.heap.size W1) (by kernel_rfl) (by kernel_rfl) (Below.refl _ W1).drew ?_
 have hSx0:=(Below.refl W1.heap.size W1).drew
 obtain ⟨x0,hx0⟩:∃ x0,x0=W1.drew:=⟨_,rfl⟩
 rw [←hx0] at hSx0 ⊢
 clear hx0
 show runC _ _ _ 6 _ [0,1,2,3,4,5] _ _
 refine runC_at 1 (v:=?_) (by rfl) (by rfl) (by rfl) (by kernel_rfl) (by rfl) ?_ ?_
 rotate_left
 focus (intro w_ hw_;have f0_:=HOPC.out w_ hw_;go_simp;(try with_reducible rfl);done)
 (try dsimp only [Act.put])
 show runC _ _ _ 5 _ [0,2,3,4,5] _ _
 try simp only [List.setIfInBounds_toArray,List.set_cons_zero,List.set_cons_succ]
 refine runC_at 2 (v:=?_) (by rfl) (by rfl) (by rfl) (by kernel_rfl) (by rfl) ?_ ?_
 rotate_left
 focus (intro w_ hw_;have f0_:=HOPC.out w_ hw_;go_simp;(try with_reducible rfl);done)
 (try dsimp only [Act.put])
 show runC _ _ _ 4 _ [0,3,4,5] _ _
 try simp only [List.setIfInBounds_toArray,List.set_cons_zero,List.set_cons_succ]
 refine runC_two 0 4 (by kernel_rfl) (by kernel_rfl) (by rfl) (by rfl) (by rfl) (by rfl) ?_ ?_
 · refine tdoes_call (f:=?_) (args:=?_) (w1:=?_) ?_ ?_
   rotate_left 3
   focus (go_simp;refine ⟨⟨?_,?_⟩,?_⟩ <;> with_reducible rfl)
   refine (HWY.out x0).mono ?_
   rintro e_ x1 ⟨rfl,hm_,hb_⟩
   have hSx1:=hSx0.trans (hb_.mono hSx0.size)
   obtain ⟨bm,hbm⟩:∃ b,b=x0.heap.size:=⟨_,rfl⟩
   rw [←hbm] at hm_
   have hRx1:=hm_
   have HBx1:=Lh hb_
   rw [←hbm]
   clear hb_ hbm hm_
   refine ⟨_,rfl,moreS (fun w_=>w_.ownsMap Tryz.prog 3 wayE bm 33 waysD) hSx1 hRx1 ?_⟩
   (try dsimp only [Act.put])
   try simp only [List.setIfInBounds_toArray,List.set_cons_zero,List.set_cons_succ]
   show runC _ _ _ 3 _ [3,4,5] _ _
   refine runC_at 3 (v:=.agg #[.int .u8 (c:Nat),.int .u8 (m:Nat),.func (.func N) #[] #[]]) (by rfl) (by rfl) (by rfl) (by kernel_rfl) (by rfl) (fun w_ hw_=>exec_look _ _ rfl rfl rfl (way_look hw_.2 HKW.out HCM.out.1 HCM.out.2 HWAY.out)) ?_
   (try dsimp only [Act.put])
   show runC _ _ _ 2 _ [4,5] _ _
   try simp only [List.setIfInBounds_toArray,List.set_cons_zero,List.set_cons_succ]
   refine runC_one 4 (by kernel_rfl) (by kernel_rfl) (by rfl) (by rfl) ?_
   obtain ⟨x2,h_⟩:∃ q,q=x1.alloc (.cells #[.int .u8 0,.int .u8 0,.nilFunc] 143):=⟨_,rfl⟩
   have hb_:Below x1.heap.size x1 x2:=by rw [h_];exact (Below.refl _ _).alloc (Nat.le_refl _) _
   have hSx2:=hSx1.trans (hb_.mono hSx1.size)
   have hRx2:=(fun {a b:World} (h_:a.ownsMap Tryz.prog 3 wayE bm 33 waysD) (g_:Below a.heap.size a b)=>World.ownsMap.kept h_ (grownB_below (r:=none) g_) (by simp)) hRx1 hb_
   refine tdoes_op (w1:=x2) (v:=.pointer (some ⟨x1.heap.size,0,none⟩)) (by rw [h_];exact exec_alloc rfl (alloc_way x1)) (sameS ⟨hSx2,hRx2⟩ ?_)
   (try dsimp only [Act.put])
   try simp only [List.setIfInBounds_toArray,List.set_cons_zero,List.set_cons_succ]
   obtain ⟨gW,hg_⟩:∃ q,q=x1.heap.size:=⟨_,rfl⟩
   have HZ:=Lh (show x2.heap[gW]? = some (.cells #[.int .u8 0,.int .u8 0,.nilFunc] 143 (0,0)) by rw [h_,hg_];exact heap_alloc_new x1 _)
   have HGW:=Lh (show W1.heap.size≤gW by rw [hg_];exact hSx1.size)
   have HBx2:=Lh hb_
   rw [←hg_]
   clear h_ hg_ hb_
   show runC _ _ _ 1 _ [5] _ _
   refine runC_one 5 (by kernel_rfl) (by kernel_rfl) (by rfl) (by rfl) ?_
   have hz_:x2.heap[gW]? = some (.cells #[.int .u8 0,.int .u8 0,.nilFunc] 143 (0,0)):=by first | exact HZ.out | exact (HBx2.out.block _ (lt_of_block HZ.out)).trans HZ.out
   have hSx3:=Below.setRow hSx2 HGW.out #[.int .u8 (c:Nat),.int .u8 (m:Nat),.func (.func N) #[] #[]]
   have hRx3:=World.ownsMap.kept hRx2 (grown_setRow x2 gW #[.int .u8 (c:Nat),.int .u8 (m:Nat),.func (.func N) #[] #[]]) (by have:=map_ne hRx2 hz_;simpa using this)
   have hrow_:=setRow_heap x2 gW _ #[.int .u8 (c:Nat),.int .u8 (m:Nat),.func (.func N) #[] #[]] _ _ hz_
   refine tdoes_skip (w1:=x2.setRow gW #[.int .u8 (c:Nat),.int .u8 (m:Nat),.func (.func N) #[] #[]]) (exec_store_row 143 _ _ rfl gW #[.int .u8 (c:Nat),.int .u8 (m:Nat),.func (.func N) #[] #[]] rfl rfl 143 _ hz_ infoWay3 rfl (by simp [Value.oneCell'])) (sameS ⟨hSx3,hRx3⟩ ?_)
   (try dsimp only [Act.put])
   try simp only [List.setIfInBounds_toArray,List.set_cons_zero,List.set_cons_succ]
   obtain ⟨x3,h_⟩:∃ q,q=x2.setRow gW #[.int .u8 (c:Nat),.int .u8 (m:Nat),.func (.func N) #[] #[]]:=⟨_,rfl⟩
   rw [←h_] at hSx3 hRx3 hrow_ ⊢
   have HROW:=Lh hrow_
   clear h_ hz_ hrow_
   show runC _ _ _ 0 _ [] _ _
   refine runC_nil ?_
   (try dsimp only [Act.put])
   try simp only [List.setIfInBounds_toArray,List.set_cons_zero,List.set_cons_succ]
   have HS:=Lh hSx3
   have hin:=(HI1.out _ HS.out)
   clear hSx3 hRx3
   have q2_:x3.cell? ⟨gW,2,none⟩=some (.func (.func N) #[] #[]):=by simp [World.cell?,HROW.out]
   go_wp2_with (first
     | (refine wpList_valJ rfl (exec_load 139 _ rfl ⟨gW,0,none⟩ rfl #[.int .u8 (c:Nat),.int .u8 (m:Nat)] _ Tryz.underlying139 rfl infoForm2 (way_form HROW.out)) ?_)
     | (refine wpList_valJ rfl (exec_load_row 40 _ rfl w.heap.size rfl (insRow i).toArray 40 _ hin _ Tryz.underlying40 rfl (infoIns9' i)) ?_)
     | (go_at_fn N;refine (HPUT.out _).mono ?_;rintro e_ w5 ⟨A5,n5,c5,rfl,ho5,hn5,hb5⟩;have HB5:=Lh hb5;have hcv:=conv8 ho5 HLB.out (by rw [hn5];exact HL1.out);clear ho5 hn5 hb5)
     | go_in)
   go_ret2
   exact ⟨rfl,HB.out.trans ((HB1.out.trans ((HS.out.trans (HB5.out.mono HS.out.size)).mono HB1.out.size)).mono HB.out.size)⟩
 · obtain ⟨x4,h_⟩:∃ q,q=x0.alloc (.cells #[.int .u8 0,.int .u8 0,.nilFunc] 143):=⟨_,rfl⟩
   have hb_:Below x0.heap.size x0 x4:=by rw [h_];exact (Below.refl _ _).alloc (Nat.le_refl _) _
   have hSx4:=hSx0.trans (hb_.mono hSx0.size)
   refine tdoes_op (w1:=x4) (v:=.pointer (some ⟨x0.heap.size,0,none⟩)) (by rw [h_];exact exec_alloc rfl (alloc_way x0)) (sameS hSx4 ?_)
   (try dsimp only [Act.put])
   try simp only [List.setIfInBounds_toArray,List.set_cons_zero,List.set_cons_succ]
   obtain ⟨gW,hg_⟩:∃ q,q=x0.heap.size:=⟨_,rfl⟩
   have HZ:=Lh (show x4.heap[gW]? = some (.cells #[.int .u8 0,.int .u8 0,.nilFunc] 143 (0,0)) by rw [h_,hg_];exact heap_alloc_new x0 _)
   have HGW:=Lh (show W1.heap.size≤gW by rw [hg_];exact hSx0.size)
   have HBx4:=Lh hb_
   rw [←hg_]
   clear h_ hg_ hb_
   show runC _ _ _ 3 _ [0,3,5] _ _
   refine runC_one 0 (by kernel_rfl) (by kernel_rfl) (by rfl) (by rfl) ?_
   refine tdoes_call (f:=?_) (args:=?_) (w1:=?_) ?_ ?_
   rotate_left 3
   focus (go_simp;refine ⟨⟨?_,?_⟩,?_⟩ <;> with_reducible rfl)
   refine (HWY.out x4).mono ?_
   rintro e_ x5 ⟨rfl,hm_,hb_⟩
   have hSx5:=hSx4.trans (hb_.mono hSx4.size)
   obtain ⟨bm,hbm⟩:∃ b,b=x4.heap.size:=⟨_,rfl⟩
   rw [←hbm] at hm_
   have hRx5:=hm_
   have HBx5:=Lh hb_
   rw [←hbm]
   clear hb_ hbm hm_
   refine ⟨_,rfl,moreS (fun w_=>w_.ownsMap Tryz.prog 3 wayE bm 33 waysD) hSx5 hRx5 ?_⟩
   (try dsimp only [Act.put])
   try simp only [List.setIfInBounds_toArray,List.set_cons_zero,List.set_cons_succ]
   show runC _ _ _ 2 _ [3,5] _ _
   refine runC_at 3 (v:=.agg #[.int .u8 (c:Nat),.int .u8 (m:Nat),.func (.func N) #[] #[]]) (by rfl) (by rfl) (by rfl) (by kernel_rfl) (by rfl) (fun w_ hw_=>exec_look _ _ rfl rfl rfl (way_look hw_.2 HKW.out HCM.out.1 HCM.out.2 HWAY.out)) ?_
   (try dsimp only [Act.put])
   show runC _ _ _ 1 _ [5] _ _
   try simp only [List.setIfInBounds_toArray,List.set_cons_zero,List.set_cons_succ]
   refine runC_one 5 (by kernel_rfl) (by kernel_rfl) (by rfl) (by rfl) ?_
   have hz_:x5.heap[gW]? = some (.cells #[.int .u8 0,.int .u8 0,.nilFunc] 143 (0,0)):=by first | exact HZ.out | exact (HBx5.out.block _ (lt_of_block HZ.out)).trans HZ.out
   have hSx6:=Below.setRow hSx5 HGW.out #[.int .u8 (c:Nat),.int .u8 (m:Nat),.func (.func N) #[] #[]]
   have hRx6:=World.ownsMap.kept hRx5 (grown_setRow x5 gW #[.int .u8 (c:Nat),.int .u8 (m:Nat),.func (.func N) #[] #[]]) (by have:=map_ne hRx5 hz_;simpa using this)
   have hrow_:=setRow_heap x5 gW _ #[.int .u8 (c:Nat),.int .u8 (m:Nat),.func (.func N) #[] #[]] _ _ hz_
   refine tdoes_skip (w1:=x5.setRow gW #[.int .u8 (c:Nat),.int .u8 (m:Nat),.func (.func N) #[] #[]]) (exec_store_row 143 _ _ rfl gW #[.int .u8 (c:Nat),.int .u8 (m:Nat),.func (.func N) #[] #[]] rfl rfl 143 _ hz_ infoWay3 rfl (by simp [Value.oneCell'])) (sameS ⟨hSx6,hRx6⟩ ?_)
   (try dsimp only [Act.put])
   try simp only [List.setIfInBounds_toArray,List.set_cons_zero,List.set_cons_succ]
   obtain ⟨x6,h_⟩:∃ q,q=x5.setRow gW #[.int .u8 (c:Nat),.int .u8 (m:Nat),.func (.func N) #[] #[]]:=⟨_,rfl⟩
   rw [←h_] at hSx6 hRx6 hrow_ ⊢
   have HROW:=Lh hrow_
   clear h_ hz_ hrow_
   show runC _ _ _ 0 _ [] _ _
   refine runC_nil ?_
   (try dsimp only [Act.put])
   try simp only [List.setIfInBounds_toArray,List.set_cons_zero,List.set_cons_succ]
   have HS:=Lh hSx6
   have hin:=(HI1.out _ HS.out)
   clear hSx6 hRx6
   have q2_:x6.cell? ⟨gW,2,none⟩=some (.func (.func N) #[] #[]):=by simp [World.cell?,HROW.out]
   go_wp2_with (first
     | (refine wpList_valJ rfl (exec_load 139 _ rfl ⟨gW,0,none⟩ rfl #[.int .u8 (c:Nat),.int .u8 (m:Nat)] _ Tryz.underlying139 rfl infoForm2 (way_form HROW.out)) ?_)
     | (refine wpList_valJ rfl (exec_load_row 40 _ rfl w.heap.size rfl (insRow i).toArray 40 _ hin _ Tryz.underlying40 rfl (infoIns9' i)) ?_)
     | (go_at_fn N;refine (HPUT.out _).mono ?_;rintro e_ w5 ⟨A5,n5,c5,rfl,ho5,hn5,hb5⟩;have HB5:=Lh hb5;have hcv:=conv8 ho5 HLB.out (by rw [hn5];exact HL1.out);clear ho5 hn5 hb5)
     | go_in)
   go_ret2
   exact ⟨rfl,HB.out.trans ((HB1.out.trans ((HS.out.trans (HB5.out.mono HS.out.size)).mono HB1.out.size)).mono HB.out.size)⟩
end Go.Proofs.YtocndimihokcmaaGreat
namespace Go.Proofs.YtocndimihokcmaaGreat
open Go.RowKit
set_option maxRecDepth 100000
def natsB (L:List UInt8):List Nat:=L.map UInt8.toNat
def flg (q l:Bool):Bool:=if q then !l else l
def curV (q:Bool) (L:List UInt8) (c:Cur):List Value:=[strB L,.int .i64 ((L.length - c.1.length:Nat):Int),.bool (flg q c.2)]
structure CurAt (t:TypeId) (q:Bool) (L:List UInt8) (b:Nat) (w:World) (c:Cur):Prop where
 suf:c.1 <:+ natsB L
 blk:w.heap[b]? = some (.cells (curV q L c).toArray t (0,0))
def CurSay (t:TypeId) (q:Bool) (L:List UInt8) (b:Nat) (w:World) (c:Cur) (v:Value) (e:Ending) (w':World):Prop:=e=.returned v∧CurAt t q L b w' c∧Chg (fun j=>j=b) w w'
section
variable {t:TypeId} {q:Bool} {L:List UInt8} {b:Nat} {w w':World} {c:Cur}
theorem natsB_len:(natsB L).length=L.length:=List.length_map ..
theorem CurAt.len (h:CurAt t q L b w c):c.1.length≤L.length:=by have:=h.suf.length_le;rwa [natsB_len] at this
theorem CurAt.drop (h:CurAt t q L b w c):c.1=(natsB L).drop (L.length - c.1.length):=by
 obtain ⟨a,ha⟩:=h.suf
 have hl:a.length+c.1.length=L.length:=by rw [←natsB_len (L:=L),←ha,List.length_append]
 rw [show L.length - c.1.length=a.length by omega,←ha,List.drop_left]
theorem CurAt.lt (h:CurAt t q L b w c):b < w.heap.size:=lt_of_block h.blk
theorem CurAt.chg {F:Nat→Prop} (h:CurAt t q L b w c) (hc:Chg F w w') (hF:¬ F b):CurAt t q L b w' c:=⟨h.suf,(hc.block _ h.lt hF).trans h.blk⟩
theorem byteC_nil {c:Cur} (h:c.1=[]):byteC c=(0,([],true)):=by
 obtain ⟨l,x⟩:=c
 subst h;rfl
theorem byteC_at {c:Cur} (h:CurAt t q L b w c) {n:Nat} (hn:n=L.length - c.1.length) (hl:n < L.length):byteC c=(L[n].toNat,((natsB L).drop (n+1),c.2)):=by
 have hd:=h.drop
 rw [←hn] at hd
 have hl2:n < (natsB L).length:=by rw [natsB_len];exact hl
 rw [List.drop_eq_getElem_cons hl2] at hd
 obtain ⟨l,x⟩:=c
 subst hd
 have e:(natsB L)[n]=L[n].toNat:=by simp [natsB]
 show ((natsB L)[n],((natsB L).drop (n+1),x))=_
 rw [e]
theorem heap_setCell_row {w:World} {b ty:Nat} {row:List Value} (h:w.heap[b]? = some (.cells row.toArray ty (0,0))) (k:Nat) (v:Value):(w.setCell ⟨b,k,none⟩ v).heap[b]? = some (.cells (row.set k v).toArray ty (0,0)):=by
 rw [World.setCell]
 simp only [Array.getElem?_modify,if_pos,h,Option.map_some]
 simp
theorem row3 {w:World} {b ty:Nat} {x y z:Value} (h:w.heap[b]? = some (.cells [x,y,z].toArray ty (0,0))):w.cell? ⟨b,0,none⟩=some x∧w.cell? ⟨b,1,none⟩=some y∧w.cell? ⟨b,2,none⟩=some z∧w.frozen? ⟨b,1,none⟩=false∧w.frozen? ⟨b,2,none⟩=false:=by
 refine ⟨?_,?_,?_,?_,?_⟩ <;> simp [World.cell?,World.frozen?,h]
theorem Chg.one {w:World} {b k:Nat} (v:Value):Chg (fun j=>j=b) w (w.setCell ⟨b,k,none⟩ v):=(Chg.refl (fun j=>j=b) w).setCell (p:=⟨b,k,none⟩) (.inl rfl) v
end
set_option maxHeartbeats 2000000 in
theorem byte_any {L:List UInt8} {b:Nat} {c:Cur} {w:World} (hL:L.length≤1000000000) (h:CurAt 104 false L b w c):Calls Tryz.prog 69 #[.pointer (some ⟨b,0,none⟩)] w (CurSay 104 false L b w (byteC c).2 (.int .i64 (byteC c).1)):=by
 obtain ⟨n,hn⟩:∃ n,n=L.length - c.1.length:=⟨_,rfl⟩
 obtain ⟨s,hs⟩:∃ s:ByteArray,s=⟨L.toArray⟩:=⟨_,rfl⟩
 have hsz:s.size=L.length:=by rw [hs];simp [ByteArray.size]
 have hblk:=h.blk
 have hlen:=h.len
 unfold curV strB at hblk
 rw [←hs,←hn] at hblk
 obtain ⟨k0,k1,k2,k3,k4⟩:=row3 hblk
 have HK0:=Lh k0
 have HK1:=Lh k1
 have HB:=Lh hblk
 have HN:=Lh hn
 have HS:=Lh hs
 have HH:=Lh h
 have HSZ:=Lh hsz
 have hn3:n≤L.length:=by omega
 clear hblk hn hs h
 by_cases hlt:n < L.length
 · have e1:(n:Int)≠(s.size:Int):=by rw [hsz];omega
   have d1:((n:Int) ==(s.size:Int))=false:=beq_eq_false_iff_ne.2 e1
   have d2:decide (s.size≤n)=false:=decide_eq_false (by rw [hsz];omega)
   have hn2:n < s.size:=by rw [hsz];exact hlt
   have hnb:n < 1000000000:=by omega
   have fw:IntKind.i64.wrap (n:Int)=n:=wraps_i64 _ (by omega) (by omega)
   have HLT:=Lh hlt
   clear e1 hsz
   go_enter Tryz.func69,Tryz.ntmps69
   go_wp2
   (refine wp_region_lines (fun w_=>w_.cell? ⟨b,0,none⟩=some (.string s)∧w_.cell? ⟨b,1,none⟩=some (.int .i64 n)) (by kernel_rfl) (by kernel_rfl) ⟨HK0.out,HK1.out⟩ ?_)
   (try simp only [])
   repeat (first | (refine runL_no (by rfl) ?_;(try simp only [Act.put,List.setIfInBounds_toArray,List.set_cons_zero,List.set_cons_succ])) | (refine runL_val (v:=?_) (by rfl) ?_ ?_;rotate_left;(focus (intro w_ hw_;obtain ⟨f1_,f2_⟩:=hw_;go_simp;(try with_reducible rfl);done));(try simp only [Act.put,List.setIfInBounds_toArray,List.set_cons_zero,List.set_cons_succ])))
   (refine runL_nil ?_)
   go_wp2
   (refine wp_region_lines (fun w_=>w_.cell? ⟨b,0,none⟩=some (.string s)∧w_.cell? ⟨b,1,none⟩=some (.int .i64 ((n:Int)+1))) (by kernel_rfl) (by kernel_rfl) (by have h3:=row3 (heap_setCell_row (w:=w.drew) (row:=[_,_,_]) HB.out 1 (.int .i64 ((n:Int)+1)));exact ⟨h3.1,h3.2.1⟩) ?_)
   (try simp only [])
   repeat (first | (refine runL_no (by rfl) ?_;(try simp only [Act.put,List.setIfInBounds_toArray,List.set_cons_zero,List.set_cons_succ])) | (refine runL_val (v:=?_) (by rfl) ?_ ?_;rotate_left;(focus (intro w_ hw_;obtain ⟨f1_,f2_⟩:=hw_;go_simp;(try with_reducible rfl);done));(try simp only [Act.put,List.setIfInBounds_toArray,List.set_cons_zero,List.set_cons_succ])))
   (refine runL_nil ?_)
   go_wp2
   go_ret
   rw [byteC_at HH.out HN.out hlt]
   refine ⟨?_,⟨?_,?_⟩,((Chg.refl _ w).drew.trans (Chg.one _)).drew⟩
   · have e:s[n]=L[n]:=by have h1:=HS.out;subst h1;rfl
     show Ending.returned (.int .i64 (IntKind.i64.wrap (s[n].toNat:Int)))=Ending.returned (.int .i64 (L[n].toNat:Int))
     rw [←e,wraps_i64 _ (by omega) (by have:=s[n].toNat_lt;omega)]
   · exact List.drop_suffix _ _
   · have h1:=heap_setCell_row (w:=w.drew) (row:=[_,_,_]) HB.out 1 (.int .i64 ((n:Int)+1))
     refine h1.trans ?_
     unfold curV strB
     rw [←HS.out,List.length_drop,natsB_len,show L.length - (L.length - (n+1))=n+1 by have:=HLT.out;omega]
     rfl
 · have HE:=Lh (show n=L.length by omega)
   have HE2:=Lh (show c.1=[] from List.eq_nil_of_length_eq_zero (by have:=HN.out;omega))
   have d1:((n:Int) ==(s.size:Int))=true:=beq_iff_eq.2 (by rw [hsz];omega)
   have d2:decide (s.size≤n)=true:=decide_eq_true (by rw [hsz];omega)
   clear hsz hn3 hlt
   go_enter Tryz.func69,Tryz.ntmps69
   go_wp2
   (refine wp_region_lines (fun w_=>w_.cell? ⟨b,0,none⟩=some (.string s)∧w_.cell? ⟨b,1,none⟩=some (.int .i64 n)) (by kernel_rfl) (by kernel_rfl) ⟨HK0.out,HK1.out⟩ ?_)
   (try simp only [])
   repeat (first | (refine runL_no (by rfl) ?_;(try simp only [Act.put,List.setIfInBounds_toArray,List.set_cons_zero,List.set_cons_succ])) | (refine runL_val (v:=?_) (by rfl) ?_ ?_;rotate_left;(focus (intro w_ hw_;obtain ⟨f1_,f2_⟩:=hw_;go_simp;(try with_reducible rfl);done));(try simp only [Act.put,List.setIfInBounds_toArray,List.set_cons_zero,List.set_cons_succ])))
   (refine runL_nil ?_)
   go_wp2
   go_ret
   rw [byteC_nil HE2.out]
   refine ⟨rfl,⟨List.nil_suffix,?_⟩,(Chg.refl _ w).drew.trans (Chg.one _)⟩
   have h1:=heap_setCell_row (w:=w.drew) (row:=[_,_,_]) HB.out 2 (.bool (flg false true))
   refine h1.trans ?_
   unfold curV strB
   rw [←HS.out,HE.out]
   rfl
end Go.Proofs.YtocndimihokcmaaGreat
namespace Go.Proofs.YtocndimihokcmaaGreat
open Go.RowKit
def skipC:Nat→Cur→Cur
 | 0,c=>c
 | k+1,c=>(byteC (skipC k c)).2
theorem raw_snoc (k:Nat):∀ c:Cur,rawC (k+1) c=((rawC k c).1+256 ^ k*(byteC (rawC k c).2).1,(byteC (rawC k c).2).2):=by
 induction k with
 | zero=>intro c;simp [rawC]
 | succ k ih =>
   intro c
   have e:rawC (k+1+1) c=((byteC c).1+256*(rawC (k+1) (byteC c).2).1,(rawC (k+1) (byteC c).2).2):=rfl
   rw [e,ih]
   have e2:rawC (k+1) c=((byteC c).1+256*(rawC k (byteC c).2).1,(rawC k (byteC c).2).2):=rfl
   rw [e2]
   refine Prod.ext ?_ rfl
   show _=_
   dsimp only
   rw [Nat.pow_succ]
   generalize (rawC k (byteC c).2).1=x
   generalize (byteC (rawC k (byteC c).2).2).1=y
   generalize 256 ^ k=p
   rw [Nat.mul_add,Nat.mul_comm p 256,Nat.mul_assoc]
   omega
theorem CurAt.ok {t:TypeId} {q:Bool} {L:List UInt8} {b:Nat} {w:World} {c:Cur} (h:CurAt t q L b w c):CurOk c:=by
 intro x hx
 have h1:=h.suf.subset hx
 unfold natsB at h1
 obtain ⟨y,_,rfl⟩:=List.mem_map.1 h1
 exact y.toNat_lt
theorem num_join {j v x:Nat} (hj:j < 8) (hv:v < 256 ^ j) (hx:x < 256):Go.bits .or .u64 (v:Int) (IntKind.u64.wrap ((x:Int)*2 ^ (8*j)))=((v+256 ^ j*x:Nat):Int):=by
 have hw:∀ n:Int,0≤n→n < 2 ^ 64→IntKind.u64.wrap n=n:=fun n h0 h1=>by rw [IntKind.wrap_u64];omega
 have key:∀ i:Nat,i≤56→v < 2 ^ i→(x:Int)*2 ^ i < 2 ^ 64→Go.bits .or .u64 (v:Int) (IntKind.u64.wrap ((x:Int)*2 ^ i))=((v+2 ^ i*x:Nat):Int):=by
   intro i hi h1 h2
   have h3:((2 ^ i:Nat):Int)=2 ^ i:=by simp
   have h4:(0:Int)≤(x:Int)*2 ^ i:=by rw [←h3];exact Int.mul_nonneg (Int.natCast_nonneg _) (Int.natCast_nonneg _)
   have h5:(2:Int) ^ i≤2 ^ 56:=by rw [←h3];exact_mod_cast Nat.pow_le_pow_right (by decide) hi
   have h6:(v:Int) < 2 ^ i:=by rw [←h3];exact_mod_cast h1
   rw [hw _ h4 h2,bits_or_comm,Go.bits_join .u64 64 (by decide) hw i _ _ h4 (Int.mul_emod_left _ _) h2 (Int.natCast_nonneg _) h6 (by omega)]
   push_cast
   rw [Int.mul_comm (2 ^ i),Int.add_comm]
 have e:(256:Nat) ^ j=2 ^ (8*j):=by rw [Nat.pow_mul]
 rw [e] at hv ⊢
 refine key (8*j) (by omega) hv ?_
 have:j=0∨j=1∨j=2∨j=3∨j=4∨j=5∨j=6∨j=7:=by omega
 rcases this with rfl | rfl | rfl | rfl | rfl | rfl | rfl | rfl <;> (simp only [Nat.reduceMul,Int.reducePow];omega)
theorem num_sign {k v:Nat} (hk:k≤8) (h0:0 < k) (hv:v < 256 ^ k):wrap64 (IntKind.u64.wrap ((v:Int)*2 ^ (64 - 8*k))) / 2 ^ (64 - 8*k)=sgnC k v:=by
 unfold sgnC
 have:k=1∨k=2∨k=3∨k=4∨k=5∨k=6∨k=7∨k=8:=by omega
 rcases this with rfl | rfl | rfl | rfl | rfl | rfl | rfl | rfl <;> (rw [IntKind.wrap_u64];unfold wrap64;simp only [Nat.reduceMul,Nat.reduceSub,Nat.reducePow,Int.reducePow] at hv ⊢;split <;> omega)
set_option maxHeartbeats 2000000 in
theorem skip_any {L:List UInt8} {b:Nat} {c:Cur} {w:World} (n:Nat) (hn:n≤3) (hL:L.length≤1000000000) (h:CurAt 104 false L b w c):Calls Tryz.prog 71 #[.pointer (some ⟨b,0,none⟩),.int .i64 n] w (CurSay 104 false L b w (skipC n c) (.pointer (some ⟨b,0,none⟩))):=by
 have HB:=Lh (fun (c_:Cur) (w_:World) (h_:CurAt 104 false L b w_ c_)=>byte_any hL h_)
 have HH:=Lh h
 clear h hL
 go_enter Tryz.func71,Tryz.ntmps71
 go_wp2
 go_loopw [6] (fun s6 wr=>∃ j:Nat,j≤n∧s6=.int .i64 j∧CurAt 104 false L b wr (skipC j c)∧Chg (fun j=>j=b) w wr) (fun s6 _=>n - (intOf s6).toNat)
 case atStart=>exact ⟨0,Nat.zero_le _,rfl,HH.out,Chg.refl _ _⟩
 case round =>
   obtain ⟨j,hj,rfl,hc,hg⟩:=hrel
   have HC:=Lh hc
   have HG:=Lh hg
   clear hc hg
   by_cases hlt:j < n
   · have d1:decide (j < n)=true:=decide_eq_true hlt
     go_wp2_with ((with_reducible refine (HB.out _ _ HC.out).mono ?_);rintro e_ w1 ⟨rfl,hc1,hg1⟩;have HC1:=Lh hc1;have HG1:=Lh hg1;clear hc1 hg1)
     go_roundw
     case rel=>exact ⟨j+1,hlt,by go_num,HC1.out,HG.out.trans HG1.out⟩
     case measure=>simp [intOf];omega
   · have d1:decide (j < n)=false:=decide_eq_false hlt
     have HE:=Lh (show j=n by omega)
     go_wp2
     go_ret
     exact ⟨rfl,HE.out▸HC.out,HG.out⟩
set_option maxHeartbeats 2000000 in
theorem dnumber_any {L:List UInt8} {b:Nat} {c:Cur} {w:World} (k:Nat) (hk:k≤8) (hk0:0 < k) (hL:L.length≤1000000000) (h:CurAt 104 false L b w c):Calls Tryz.prog 70 #[.pointer (some ⟨b,0,none⟩),.int .i64 k] w (CurSay 104 false L b w (numC k c).2 (.int .i64 (numC k c).1)):=by
 have HB:=Lh (fun (c_:Cur) (w_:World) (h_:CurAt 104 false L b w_ c_)=>byte_any hL h_)
 have HH:=Lh h
 clear h hL
 go_enter Tryz.func70,Tryz.ntmps70
 go_wp2
 go_loopw [9,5] (fun s9 s5 wr=>∃ (j:Nat) (v:Nat),j≤k∧s9=.int .i64 j∧s5=.int .u64 v∧v=(rawC j c).1∧CurAt 104 false L b wr (rawC j c).2∧Chg (fun j=>j=b) w wr) (fun s9 _ _=>k - (intOf s9).toNat)
 case atStart=>exact ⟨0,0,Nat.zero_le _,rfl,rfl,rfl,HH.out,Chg.refl _ _⟩
 case round =>
   obtain ⟨j,v,hj,rfl,rfl,hv,hc,hg⟩:=hrel
   have hb:=(rok j HH.out.ok).2
   rw [←hv] at hb
   have HC:=Lh hc
   have HG:=Lh hg
   have HV:=Lh hv
   clear hc hg hv
   by_cases hlt:j < k
   · have d1:decide (j < k)=true:=decide_eq_true hlt
     obtain ⟨x,hx⟩:∃ x,x=(byteC (rawC j c).2).1:=⟨_,rfl⟩
     have hx2:x < 256:=by rw [hx];exact (bok HC.out.ok).2
     have HX:=Lh hx
     have HB1:=Lh (show ∀ w_,CurAt 104 false L b w_ (rawC j c).2→Calls Tryz.prog 69 #[.pointer (some ⟨b,0,none⟩)] w_ (CurSay 104 false L b w_ (byteC (rawC j c).2).2 (.int .i64 x)) from fun w_ h_=>hx▸HB.out _ _ h_)
     clear hx
     go_wp2_with ((with_reducible refine (HB1.out _ HC.out).mono ?_);rintro e_ w1 ⟨rfl,hc1,hg1⟩;have HC1:=Lh hc1;have HG1:=Lh hg1;clear hc1 hg1)
     go_roundw
     case rel =>
       rw [num_join (by omega) hb hx2]
       have e:=raw_snoc j c
       refine ⟨j+1,_,hlt,by go_num,rfl,?_,?_,HG.out.trans HG1.out⟩
       · rw [e,HV.out,HX.out]
       · rw [e];exact HC1.out
     case measure=>simp [intOf];omega
   · have d1:decide (j < k)=false:=decide_eq_false hlt
     have HE:=Lh (show j=k by omega)
     go_wp2
     go_ret
     refine ⟨?_,?_,HG.out⟩
     · show Ending.returned (.int .i64 (wrap64 (IntKind.u64.wrap ((v:Int)*2 ^ (64 - 8*k))) / 2 ^ (64 - 8*k)))=_
       have h1:=HE.out
       subst h1
       rw [num_sign hk hk0 hb,HV.out]
       rfl
     · have h1:=HE.out
       subst h1
       exact HC.out
end Go.Proofs.YtocndimihokcmaaGreat
namespace Go.Proofs.YtocndimihokcmaaGreat
open Go.RowKit
theorem or_low (a b:Nat) (ha:a < 8) (hb:b < 2):Go.bits .or .i64 (a:Int) ((b:Int)*8)=((a+b*8:Nat):Int):=by
 rw [bits_or_comm,i64_join 3 _ _ (by omega) (by omega) (by omega) (by omega) (by omega) (by omega)]
 omega
set_option maxHeartbeats 1000000 in
theorem dmid_any (r rm:Nat) (w:World):Calls Tryz.prog 72 #[.int .i64 r,.int .i64 rm] w fun e w'=>e=.returned (.int .i64 (midC r rm:Nat))∧w'=w:=by
 have f1:Go.bits .and .i64 ((rm:Int) / 8:Int) 7=((rm / 8 % 8:Nat):Int):=by rw [i64_and7];omega
 have f2:Go.bits .and .i64 ((r:Int) / 4:Int) 1=((r / 4 % 2:Nat):Int):=by rw [i64_and1];omega
 have hp:rm / 8 % 8 < 8:=by omega
 have hq:r / 4 % 2 < 2:=by omega
 have HS:=Lh (show rm / 8 % 8+r / 4 % 2*8=midC r rm from rfl)
 generalize rm / 8 % 8=p at *
 generalize r / 4 % 2=q at *
 generalize midC r rm=R at *
 have f3:=or_low p q hp hq
 rw [HS.out] at f3
 go_enter Tryz.func72,Tryz.ntmps72
 go_wp2
 go_ret
 exact ⟨rfl,rfl⟩
set_option maxHeartbeats 1000000 in
theorem dlast_any (r rm:Nat) (w:World):Calls Tryz.prog 73 #[.int .i64 r,.int .i64 rm] w fun e w'=>e=.returned (.int .i64 (lastC r rm:Nat))∧w'=w:=by
 have f1:Go.bits .and .i64 ((rm:Int):Int) 7=((rm % 8:Nat):Int):=by rw [i64_and7];omega
 have f2:Go.bits .and .i64 ((r:Int):Int) 1=((r % 2:Nat):Int):=by rw [i64_and1];omega
 have hp:rm % 8 < 8:=by omega
 have hq:r % 2 < 2:=by omega
 have HS:=Lh (show rm % 8+r % 2*8=lastC r rm from rfl)
 generalize rm % 8=p at *
 generalize r % 2=q at *
 generalize lastC r rm=R at *
 have f3:=or_low p q hp hq
 rw [HS.out] at f3
 go_enter Tryz.func73,Tryz.ntmps73
 go_wp2
 go_ret
 exact ⟨rfl,rfl⟩
set_option maxHeartbeats 1000000 in
theorem didx_any (r rm:Nat) (w:World):Calls Tryz.prog 202 #[.int .i64 r,.int .i64 rm] w fun e w'=>e=.returned (.int .i64 (idxC r rm:Nat))∧w'=w:=by
 have f1:Go.bits .and .i64 ((rm:Int) / 8:Int) 7=((rm / 8 % 8:Nat):Int):=by rw [i64_and7];omega
 have f2:Go.bits .and .i64 ((r:Int) / 2:Int) 1=((r / 2 % 2:Nat):Int):=by rw [i64_and1];omega
 have hp:rm / 8 % 8 < 8:=by omega
 have hq:r / 2 % 2 < 2:=by omega
 have HS:=Lh (show rm / 8 % 8+r / 2 % 2*8=idxC r rm from rfl)
 generalize rm / 8 % 8=p at *
 generalize r / 2 % 2=q at *
 generalize idxC r rm=R at *
 have f3:=or_low p q hp hq
 rw [HS.out] at f3
 go_enter Tryz.func202,Tryz.ntmps202
 go_wp2
 go_ret
 exact ⟨rfl,rfl⟩
end Go.Proofs.YtocndimihokcmaaGreat
