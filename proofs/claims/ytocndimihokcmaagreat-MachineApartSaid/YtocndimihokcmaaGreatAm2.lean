/- Part 2 of a claim; what it proves stands in its last text. -/
import Derived.RowKit
import Derived.Test.YtocndimihokcmaaGreatAm1
import Derived.Laws.Bits64
import Derived.Laws.Bits64b
import Derived.Outline
import Derived.Deep.DeepCutAuto
import Derived.Maps.AppendAt
namespace Go.Proofs.YtocndimihokcmaaGreat
def addF (a b:Nat) (c:Bool):Nat×Bool:=((a+b+c.toNat) % 18446744073709551616,decide (18446744073709551616≤a+b+c.toNat))
def subF (a b:Nat) (c:Bool):Nat×Bool:=((18446744073709551616+a - b - c.toNat) % 18446744073709551616,decide (a < b+c.toNat))
def mulF (a b:Nat):Nat×Nat:=(a*b / 18446744073709551616,a*b % 18446744073709551616)
def topB (a:Nat):Bool:=decide (9223372036854775808≤a)
theorem topB_bit {x:Nat} (h:x < 18446744073709551616):topB x=x.testBit 63:=by
 rw [Nat.testBit_eq_decide_div_mod_eq]
 unfold topB
 rw [decide_eq_decide]
 have e:(2:Nat) ^ 63=9223372036854775808:=rfl
 rw [e];omega
theorem topB_div {x:Nat} (h:x < 18446744073709551616):(x / 9223372036854775808 == 1)=topB x:=by
 unfold topB
 rw [Bool.eq_iff_iff,beq_iff_eq,decide_eq_true_eq]
 omega
theorem xor_lt {x y:Nat} (h:x < 18446744073709551616) (h':y < 18446744073709551616):x ^^^ y < 18446744073709551616:=Nat.xor_lt_two_pow (n:=64) h h'
theorem and_lt {x y:Nat} (h:x < 18446744073709551616):x &&& y < 18446744073709551616:=Nat.lt_of_le_of_lt Nat.and_le_left h
theorem or_lt {x y:Nat} (h:x < 18446744073709551616) (h':y < 18446744073709551616):x ||| y < 18446744073709551616:=Nat.or_lt_two_pow (n:=64) h h'
theorem topB_xor {x y:Nat} (h:x < 18446744073709551616) (h':y < 18446744073709551616):topB (x ^^^ y)=(topB x != topB y):=by
 rw [topB_bit (xor_lt h h'),topB_bit h,topB_bit h',Nat.testBit_xor]
theorem topB_and {x y:Nat} (h:x < 18446744073709551616) (h':y < 18446744073709551616):topB (x &&& y)=(topB x && topB y):=by
 rw [topB_bit (and_lt h),topB_bit h,topB_bit h',Nat.testBit_and]
theorem ofSum {a b r:Nat} (ha:a < 18446744073709551616) (hb:b < 18446744073709551616) (hr:r < 18446744073709551616) :
   (((a ^^^ r) &&& (b ^^^ r)) / 9223372036854775808 == 1)=((topB a == topB b) && (topB r != topB a)):=by
 rw [topB_div (and_lt (xor_lt ha hr)),topB_and (xor_lt ha hr) (xor_lt hb hr),topB_xor ha hr,topB_xor hb hr]
 cases topB a <;> cases topB b <;> cases topB r <;> rfl
theorem ofRest {a b r:Nat} (ha:a < 18446744073709551616) (hb:b < 18446744073709551616) (hr:r < 18446744073709551616) :
   (((a ^^^ b) &&& (a ^^^ r)) / 9223372036854775808 == 1)=((topB a != topB b) && (topB r != topB a)):=by
 rw [topB_div (and_lt (xor_lt ha hb)),topB_and (xor_lt ha hb) (xor_lt ha hr),topB_xor ha hb,topB_xor ha hr]
 cases topB a <;> cases topB b <;> cases topB r <;> rfl
theorem mul_halves {a b:Nat} (_ha:a < 18446744073709551616) (_hb:b < 18446744073709551616) (x y u v m n:Nat) (hx:x=a / 4294967296) (hy:y=a % 4294967296) (hu:u=b / 4294967296) (hv:v=b % 4294967296)
   (hm:m=x*v+y*v / 4294967296) (hn:n=y*u+m % 4294967296):x*u+m / 4294967296+n / 4294967296=a*b / 18446744073709551616:=by
 have h1:a=4294967296*x+y:=by omega
 have h2:b=4294967296*u+v:=by omega
 have h3:a*b=18446744073709551616*(x*u)+4294967296*(x*v)+4294967296*(y*u)+y*v:=by
   rw [h1,h2]
   rw [Nat.add_mul,Nat.mul_add,Nat.mul_add]
   rw [show 4294967296*x*(4294967296*u)=18446744073709551616*(x*u) by
     rw [Nat.mul_mul_mul_comm],show 4294967296*x*v=4294967296*(x*v) from Nat.mul_assoc ..,show y*(4294967296*u)=4294967296*(y*u) from Nat.mul_left_comm ..]
   omega
 generalize x*u=xu at *
 generalize x*v=xv at *
 generalize y*u=yu at *
 generalize y*v=yv at *
 omega
theorem addF_lt (a b:Nat) (c:Bool):(addF a b c).1 < 18446744073709551616:=Nat.mod_lt _ (by decide)
theorem subF_lt (a b:Nat) (c:Bool):(subF a b c).1 < 18446744073709551616:=Nat.mod_lt _ (by decide)
structure St where
 regs:List Nat
 pc:Nat
 cf:Bool
 of_:Bool
 zf:Bool
structure StOk (s:St):Prop where
 len:s.regs.length=16
 regs:∀ r∈s.regs,r < 18446744073709551616
 pc:s.pc < 18446744073709551616
structure Ins where
 op:Int
 d:Int
 s:Int
 t:Int
 base:Int
 index:Int
 scale:Int
 disp:Int
 imm:Int
def ugly (r:Int):Bool:=decide (r < 0) || decide (15 < r)
def regOk (r:Int):Bool:=decide (0≤r) && decide (r≤15)
def smallI (n:Int):Bool:=decide (-2147483648≤n) && decide (n≤2147483647)
def placeOk (i:Ins):Bool:=(regOk i.base && smallI i.disp) && (if i.index = -1 then decide (i.scale=1) else (regOk i.index && decide (i.index≠4)) && (decide (i.scale=1) || decide (i.scale=2) || decide (i.scale=4) || decide (i.scale=8)))
def noPlace (i:Ins):Bool:=decide (i.base=0) && decide (i.index=0) && decide (i.scale=0) && decide (i.disp=0)
def formI (op:Int):Option (Bool×Bool×Bool×Bool×Nat) :=
 if op=1∨(6≤op∧op≤14)∨op=20∨op=21∨op=26∨op=27 then some (true,true,false,false,0)
 else if op=2 then some (true,false,false,false,2)
 else if op=3∨op=5 then some (true,false,false,true,0)
 else if op=4 then some (false,true,false,true,0)
 else if 15≤op∧op≤18 then some (true,false,false,false,1)
 else if op=19 then some (true,true,true,false,0)
 else if op=22∨op=23∨op=29 then some (true,false,false,false,0)
 else if op=24∨op=25 then some (true,false,false,false,3)
 else if op=28 then some (false,true,false,false,0)
 else if op=30∨op=31∨op=32 then some (false,false,false,false,1)
 else if op=33 then some (false,false,false,false,0)
 else none
def hasOk (has:Bool) (r:Int):Bool:=if has then regOk r else decide (r=0)
def immOk (k:Nat) (n:Int):Bool:=match k with | 0=>decide (n=0) | 1=>smallI n | 2=>true | _=>decide (1≤n) && decide (n≤63)
def chkI (i:Ins):Bool:=match formI i.op with
 | none=>false
 | some (hd,hs,ht,hm,k)=>(hasOk hd i.d && hasOk hs i.s && hasOk ht i.t) && (if hm then placeOk i else noPlace i) && (!ht || decide (i.d≠i.s)) && immOk k i.imm
def valueF (s:St) (op:Int) (d b:Nat):Option (St×Nat) :=
 if op=1∨op=2 then some (s,b)
 else if op=6∨op=15 then some (sumS s d b false)
 else if op=7 then some (sumS s d b s.cf)
 else if op=8∨op=17∨op=13∨op=18 then some (restS s d b false)
 else if op=9 then some (restS s d b s.cf)
 else if op=10∨op=16∨op=14 then some (plainS s (d &&& b))
 else if op=11 then some (plainS s (d ||| b))
 else if op=12 then some (plainS s (d ^^^ b))
 else if op=22 then some (restS s 0 d false)
 else if op=23 then some (s,18446744073709551615 - d)
 else if op=24 then some (shiftS s (d*2 ^ b % 18446744073709551616) (d / 2 ^ (64 - b)))
 else if op=25 then some (shiftS s (d / 2 ^ b) (d / 2 ^ (b - 1)))
 else if op=20 then some ({ s with cf:=(addF d b s.cf).2 },(addF d b s.cf).1)
 else if op=21 then some ({ s with of_:=(addF d b s.of_).2 },(addF d b s.of_).1)
 else if op=26 then some (s,if s.cf then b else d)
 else if op=27 then some (s,if s.zf then d else b)
 else none
where
 sumS (s:St) (a b:Nat) (c:Bool):St×Nat :=
   let r:=(addF a b c).1
   ({ s with cf:=(addF a b c).2,of_:=(topB a == topB b) && (topB r != topB a),zf:=r == 0 },r)
 restS (s:St) (a b:Nat) (c:Bool):St×Nat :=
   let r:=(subF a b c).1
   ({ s with cf:=(subF a b c).2,of_:=(topB a != topB b) && (topB r != topB a),zf:=r == 0 },r)
 plainS (s:St) (r:Nat):St×Nat:=({ s with cf:=false,of_:=false,zf:=r == 0 },r)
 shiftS (s:St) (r bit:Nat):St×Nat:=({ s with cf:=bit % 2 == 1,zf:=r == 0 },r)
def regF (s:St) (r:Int):Nat:=if ugly r then 0 else s.regs.getD r.toNat 0
def u64 (z:Int):Nat:=(z % 18446744073709551616).toNat
def addrF (s:St) (i:Ins):Nat:=(regF s i.base+regF s i.index*u64 i.scale+u64 i.disp) % 18446744073709551616
end Go.Proofs.YtocndimihokcmaaGreat
namespace Go.Proofs.YtocndimihokcmaaGreat
def hi3 (r:Int):Nat:=(max r 0).toNat / 8
def lo3 (r:Int):Nat:=(r % 8).toNat
def rexF (m x l:Int):Nat:=72+4*hi3 m+2*hi3 x+hi3 l
def bothF (m l:Int):Nat:=192+8*lo3 m+lo3 l
def littleF (n:Int):Nat→List Nat
 | 0=>[]
 | k+1=>(n % 256).toNat :: littleF (n / 256) k
def scaleF (s:Int):Nat:=if s=2 then 1 else if s=4 then 2 else if s=8 then 3 else 0
def modF (i:Ins):Nat:=if i.disp=0∧lo3 i.base≠5 then 0 else if -128≤i.disp∧i.disp < 128 then 1 else 2
def dispN (m:Nat):Nat:=if m=0 then 0 else if m=1 then 1 else 4
def placeY (mid:Int) (i:Ins):List Nat :=
 (if i.index≠-1∨lo3 i.base=4 then [64*modF i+8*lo3 mid+4,64*scaleF i.scale+8*(if i.index = -1 then 4 else lo3 i.index)+lo3 i.base] else [64*modF i+8*lo3 mid+lo3 i.base])++littleF i.disp (dispN (modF i))
def rrF (op:Int):Nat:=if op=1 then 137 else if op=6 then 1 else if op=7 then 17 else if op=8 then 41 else if op=9 then 25 else if op=10 then 33 else if op=11 then 9 else if op=12 then 49 else if op=13 then 57 else 133
def encF (i:Ins):List Nat :=
 if i.op=2 then rexF 0 0 i.d :: (184+lo3 i.d) :: littleF i.imm 8
 else if i.op=3 then rexF i.d i.index i.base :: 139 :: placeY i.d i
 else if i.op=4 then rexF i.s i.index i.base :: 137 :: placeY i.s i
 else if i.op=5 then rexF i.d i.index i.base :: 141 :: placeY i.d i
 else if i.op=15 then rexF 0 0 i.d :: 129 :: bothF 0 i.d :: littleF i.imm 4
 else if i.op=16 then rexF 0 0 i.d :: 129 :: bothF 4 i.d :: littleF i.imm 4
 else if i.op=17 then rexF 0 0 i.d :: 129 :: bothF 5 i.d :: littleF i.imm 4
 else if i.op=18 then rexF 0 0 i.d :: 129 :: bothF 7 i.d :: littleF i.imm 4
 else if i.op=19 then [196,66+128*(1 - hi3 i.d)+32*(1 - hi3 i.t),131+8*(15 - i.s).toNat,246,bothF i.d i.t]
 else if i.op=20 then [102,rexF i.d 0 i.s,15,56,246,bothF i.d i.s]
 else if i.op=21 then [243,rexF i.d 0 i.s,15,56,246,bothF i.d i.s]
 else if i.op=22 then [rexF 0 0 i.d,247,bothF 3 i.d]
 else if i.op=23 then [rexF 0 0 i.d,247,bothF 2 i.d]
 else if i.op=24 then [rexF 0 0 i.d,193,bothF 4 i.d,(i.imm % 256).toNat]
 else if i.op=25 then [rexF 0 0 i.d,193,bothF 5 i.d,(i.imm % 256).toNat]
 else if i.op=26 then [rexF i.d 0 i.s,15,66,bothF i.d i.s]
 else if i.op=27 then [rexF i.d 0 i.s,15,69,bothF i.d i.s]
 else if i.op=28 then (if 7 < i.s then [65,80+lo3 i.s] else [80+lo3 i.s])
 else if i.op=29 then (if 7 < i.d then [65,88+lo3 i.d] else [88+lo3 i.d])
 else if i.op=30 then 233 :: littleF i.imm 4
 else if i.op=31 then 15 :: 133 :: littleF i.imm 4
 else if i.op=32 then 15 :: 130 :: littleF i.imm 4
 else if i.op=33 then [195]
 else [rexF i.s 0 i.d,rrF i.op,bothF i.s i.d]
abbrev Cur:=List Nat×Bool
def byteC:Cur→Nat×Cur
 | ([],_)=>(0,([],true))
 | (b :: t,l)=>(b,(t,l))
def rawC:Nat→Cur→Nat×Cur
 | 0,c=>(0,c)
 | k+1,c=>((byteC c).1+256*(rawC k (byteC c).2).1,(rawC k (byteC c).2).2)
def sgnC (k v:Nat):Int:=if 2*v < 256 ^ k then v else (v:Int) - (256 ^ k:Nat)
def numC (k:Nat) (c:Cur):Int×Cur:=(sgnC k (rawC k c).1,(rawC k c).2)
def midC (r rm:Nat):Nat:=rm / 8 % 8+r / 4 % 2*8
def idxC (r sib:Nat):Nat:=sib / 8 % 8+r / 2 % 2*8
def lastC (r rm:Nat):Nat:=rm % 8+r % 2*8
structure Plc where
 base:Int
 index:Int
 scale:Int
 disp:Int
def sibC (r sib:Nat):Plc:=if idxC r sib=4 then ⟨lastC r sib,-1,1,0⟩ else ⟨lastC r sib,idxC r sib,(2 ^ (sib / 64):Nat),0⟩
def place1 (r rm:Nat) (c:Cur):Plc×Cur:=if rm % 8=4 then (sibC r (byteC c).1,(byteC c).2) else (⟨lastC r rm,-1,1,0⟩,c)
def placeC (r rm:Nat) (c:Cur):Plc×Cur :=
 let p:=place1 r rm c
 if rm / 64=1 then ({ p.1 with disp:=(numC 1 p.2).1 },(numC 1 p.2).2)
 else if rm / 64=2 then ({ p.1 with disp:=(numC 4 p.2).1 },(numC 4 p.2).2)
 else p
def insP (op d s:Int) (p:Plc):Ins:=⟨op,d,s,0,p.base,p.index,p.scale,p.disp,0⟩
def insR (op d s t imm:Int):Ins:=⟨op,d,s,t,0,0,0,0,imm⟩
def pairC (b:Nat):Int:=if b=1 then 6 else if b=17 then 7 else if b=41 then 8 else if b=25 then 9 else if b=33 then 10 else if b=9 then 11 else if b=49 then 12 else if b=57 then 13 else if b=133 then 14 else 0
def groupC (b m:Nat):Int×Nat :=
 if b=129 then (if m=0 then (15,4) else if m=4 then (16,4) else if m=5 then (17,4) else if m=7 then (18,4) else (0,0))
 else if b=247 then (if m=3 then (22,0) else if m=2 then (23,0) else (0,0))
 else if b=193 then (if m=4 then (24,1) else if m=5 then (25,1) else (0,0))
 else (0,0)
def wideC (r:Nat) (c:Cur):Ins×Cur :=
 let b:=(byteC c).1
 let c:=(byteC c).2
 if pairC b≠0 then (let x:=byteC c;(insR (pairC b) (lastC r x.1) (midC r x.1) 0 0,x.2))
 else if b=139∨b=141 then (let x:=byteC c;let p:=placeC r x.1 x.2;(insP (if b=139 then 3 else 5) (midC r x.1) 0 p.1,p.2))
 else if b=137 then (let x:=byteC c;if x.1 / 64=3 then (insR 1 (lastC r x.1) (midC r x.1) 0 0,x.2) else let p:=placeC r x.1 x.2;(insP 4 0 (midC r x.1) p.1,p.2))
 else if b / 8=23 then (let x:=numC 8 c;(insR 2 (lastC r b) 0 0 x.1,x.2))
 else if b=15 then (let k:=byteC c;let x:=byteC k.2;(insR (if k.1=66 then 26 else if k.1=69 then 27 else 0) (midC r x.1) (lastC r x.1) 0 0,x.2))
 else (let x:=byteC c;let g:=groupC b (x.1 / 8 % 8);if 0 < g.2 then (let y:=numC g.2 x.2;(insR g.1 (lastC r x.1) 0 0 y.1,y.2)) else (insR g.1 (lastC r x.1) 0 0 0,x.2))
def anyC:Nat→Cur→Ins×Cur
 | 0,c=>(insR 0 0 0 0 0,c)
 | f+1,c0 =>
   let b:=(byteC c0).1
   let c:=(byteC c0).2
   if b=195 then (insR 33 0 0 0 0,c)
   else if b / 8=10 then (insR 28 0 (b % 8:Nat) 0 0,c)
   else if b / 8=11 then (insR 29 (b % 8:Nat) 0 0 0,c)
   else if b=65 then (let x:=anyC f c;if x.1.op=28 then ({ x.1 with s:=(x.1.s.toNat ||| 8:Nat) },x.2) else ({ x.1 with d:=(x.1.d.toNat ||| 8:Nat) },x.2))
   else if b=233 then (let x:=numC 4 c;(insR 30 0 0 0 x.1,x.2))
   else if b=15 then (let k:=byteC c;let x:=numC 4 k.2;(insR (if k.1=133 then 31 else if k.1=130 then 32 else 0) 0 0 0 x.1,x.2))
   else if b=196 then (let x:=byteC c;let y:=byteC x.2;let z:=byteC y.2;let rm:=byteC z.2;let r:=(1 - x.1 / 128)*4+(1 - x.1 / 32 % 2);(insR 19 (midC r rm.1) ((15:Int) - (y.1 / 8 % 16:Nat)) (lastC r rm.1) 0,rm.2))
   else if b=102∨b=243 then (let x:=byteC c;let y:=byteC (byteC (byteC (byteC x.2).2).2).2;(insR (if b=102 then 20 else 21) (midC x.1 y.1) (lastC x.1 y.1) 0 0,y.2))
   else wideC b c
def rwideC (r:Nat) (c:Cur):Ins×Cur :=
 let b:=(byteC c).1
 let c:=(byteC c).2
 if 184≤b∧b < 192 then (let x:=numC 8 c;(insR 2 (lastC r b) 0 0 x.1,x.2))
 else if b=15 then (let k:=byteC c;let x:=byteC k.2;(insR (if k.1=66 then 26 else if k.1=69 then 27 else 0) (midC r x.1) (lastC r x.1) 0 0,x.2))
 else
   let x:=byteC c
   let mid:=midC r x.1
   let last:=lastC r x.1
   if b=139∨(b=137∧x.1 < 192)∨b=141 then (let p:=placeC r x.1 x.2;(if b=139 then insP 3 mid 0 p.1 else if b=137 then insP 4 0 mid p.1 else insP 5 mid 0 p.1,p.2))
   else if b=129 then (let y:=numC 4 x.2;(insR (if mid=0 then 15 else if mid=4 then 16 else if mid=5 then 17 else if mid=7 then 18 else 0) last 0 0 y.1,y.2))
   else if b=247∧mid=3 then (insR 22 last 0 0 0,x.2)
   else if b=247∧mid=2 then (insR 23 last 0 0 0,x.2)
   else if b=193∧mid=4 then (let y:=numC 1 x.2;(insR 24 last 0 0 y.1,y.2))
   else if b=193∧mid=5 then (let y:=numC 1 x.2;(insR 25 last 0 0 y.1,y.2))
   else (insR (if b=137 then 1 else pairC b) last mid 0 0,x.2)
def ranyC (c0:Cur):Ins×Cur :=
 let b:=(byteC c0).1
 let c:=(byteC c0).2
 if b=195 then (insR 33 0 0 0 0,c)
 else if 80≤b∧b < 88 then (insR 28 0 (b % 8:Nat) 0 0,c)
 else if 88≤b∧b < 96 then (insR 29 (b % 8:Nat) 0 0 0,c)
 else if b=65 then (let k:=byteC c;if k.1 < 88 then (insR 28 0 (k.1 % 8+8:Nat) 0 0,k.2) else (insR 29 (k.1 % 8+8:Nat) 0 0 0,k.2))
 else if b=233 then (let x:=numC 4 c;(insR 30 0 0 0 x.1,x.2))
 else if b=15 then (let k:=byteC c;let x:=numC 4 k.2;(insR (if k.1=133 then 31 else 32) 0 0 0 x.1,x.2))
 else if b=196 then (let x:=byteC c;let y:=byteC x.2;let z:=byteC y.2;let rm:=byteC z.2;(insR 19 ((rm.1 / 8 % 8+8:Nat) - (x.1 / 128*8:Nat)) ((15:Int) - (y.1 / 8 % 16:Nat)) ((rm.1 % 8+8:Nat) - (x.1 / 32 % 2*8:Nat)) 0,rm.2))
 else if b=102∨b=243 then (let x:=byteC c;let y:=byteC (byteC (byteC (byteC x.2).2).2).2;(insR (if b=102 then 20 else 21) (midC x.1 y.1) (lastC x.1 y.1) 0 0,y.2))
 else rwideC b c
def instP (r:Ins×Cur) (s:List Nat):Option (Ins×Nat) :=
 if r.2.2=true∨chkI r.1=false∨encF r.1≠s.take (s.length - r.2.1.length) then none else some (r.1,s.length - r.2.1.length)
theorem hi3_nat (x:Nat):hi3 (x:Int)=x / 8:=by unfold hi3;congr 1;omega
theorem lo3_nat (x:Nat):lo3 (x:Int)=x % 8:=by unfold lo3;omega
theorem hi3_lt {r:Int} (h:r < 16):hi3 r≤1:=by unfold hi3;omega
theorem lo3_lt (r:Int):lo3 r < 8:=by unfold lo3;omega
theorem little_len (k:Nat):∀ n,(littleF n k).length=k:=by
 induction k with
 | zero=>intro n;rfl
 | succ k ih=>intro n;simp [littleF,ih]
theorem raw_little (k:Nat):∀ (n:Int) (rest:List Nat) (l:Bool),rawC k (littleF n k++rest,l)=((n % (256 ^ k:Nat)).toNat,(rest,l)):=by
 induction k with
 | zero=>intro n rest l;simp [littleF,rawC]
 | succ k ih =>
   intro n rest l
   have e:littleF n (k+1)++rest=(n % 256).toNat :: (littleF (n / 256) k++rest):=rfl
   rw [e]
   simp only [rawC,byteC]
   rw [ih]
   have h1:n % ((256 ^ (k+1):Nat):Int)=n % 256+256*(n / 256 % ((256 ^ k:Nat):Int)):=by
     have hp:0 < 256 ^ k:=Nat.pow_pos (by decide)
     rw [Nat.pow_succ,Nat.mul_comm,Int.natCast_mul]
     generalize 256 ^ k=p at *
     have e1:=Int.mul_ediv_add_emod n 256
     have e2:=Int.mul_ediv_add_emod (n / 256) (p:Int)
     have e3:=Int.emod_nonneg (n / 256) (show (p:Int)≠0 by omega)
     have e4:=Int.emod_lt_of_pos (n / 256) (show (0:Int) < (p:Int) by omega)
     have e5:n=((256:Nat):Int)*(p:Int)*(n / 256 / (p:Int))+(256*(n / 256 % (p:Int))+n % 256):=by
       rw [Int.mul_assoc]
       generalize (p:Int)*(n / 256 / (p:Int))=u at *
       omega
     conv=>lhs;rw [e5]
     rw [Int.mul_add_emod_self_left,Int.emod_eq_of_lt (by omega) (by rw [show ((256:Nat):Int)*(p:Int)=256*(p:Int) from rfl];omega)]
     omega
   have h2:0≤n / 256 % ((256 ^ k:Nat):Int):=Int.emod_nonneg _ (by have:0 < 256 ^ k:=Nat.pow_pos (by decide);omega)
   have h3:0≤n % 256:=Int.emod_nonneg _ (by decide)
   rw [h1]
   congr 1
   simp only
   generalize n / 256 % ((256 ^ k:Nat):Int)=y at *
   omega
theorem num_little (k:Nat) (n:Int) (rest:List Nat) (l:Bool) (h1:-((256 ^ k:Nat):Int)≤2*n) (h2:2*n < (256 ^ k:Nat)):numC k (littleF n k++rest,l)=(n,(rest,l)):=by
 unfold numC
 rw [raw_little]
 simp only [sgnC]
 have hp:0 < 256 ^ k:=Nat.pow_pos (by decide)
 generalize 256 ^ k=p at *
 congr 1
 rcases Int.lt_or_le n 0 with h | h
 · have e:n % (p:Int)=n+p:=by
     rw [←Int.add_emod_right,Int.emod_eq_of_lt (by omega) (by omega)]
   rw [e,if_neg (by omega)]
   omega
 · have e:n % (p:Int)=n:=Int.emod_eq_of_lt (by omega) (by omega)
   rw [e,if_pos (by omega)]
   omega
end Go.Proofs.YtocndimihokcmaaGreat
namespace Go.Proofs.YtocndimihokcmaaGreat
open Go.RowKit
theorem wrapU8 (n:Int):IntKind.u8.wrap n=n % 256:=Go.IntKind.wrap_u8 n
set_option maxHeartbeats 400000 in
theorem low_any (r:Int) (w:World):Calls Tryz.prog 137 #[.int .i64 r] w fun e w'=>e=.returned (.int .u8 (lo3 r:Nat))∧w'=w:=by
 have h1:=i64_and7 r
 have h2:IntKind.u8.wrap (r % 8)=(lo3 r:Nat):=by rw [wrapU8];unfold lo3;omega
 go_enter Tryz.func137,Tryz.ntmps137
 go_wp2
 go_ret
 exact ⟨rfl,rfl⟩
set_option maxHeartbeats 400000 in
theorem high_any (r:Int) (hr:r < 16) (w:World):Calls Tryz.prog 140 #[.int .i64 r] w fun e w'=>e=.returned (.int .u8 (hi3 r:Nat))∧w'=w:=by
 by_cases h0:r < 0
 · have h2:hi3 r=0:=by unfold hi3;omega
   rw [h2]
   go_enter Tryz.func140,Tryz.ntmps140
   go_wp2
   go_ret
   exact ⟨rfl,rfl⟩
 · have h2:IntKind.u8.wrap (r / 8)=(hi3 r:Nat):=by rw [wrapU8];unfold hi3;omega
   go_enter Tryz.func140,Tryz.ntmps140
   go_wp2
   go_ret
   exact ⟨rfl,rfl⟩
theorem hi3_01 {r:Int} (h:r < 16):hi3 r=0∨hi3 r=1:=by have:=hi3_lt h;omega
set_option maxHeartbeats 1000000 in
theorem rex_any (m x l:Int) (hm:m < 16) (hx:x < 16) (hl:l < 16) (w:World):Calls Tryz.prog 135 #[.int .i64 m,.int .i64 x,.int .i64 l] w fun e w'=>e=.returned (.int .u8 (rexF m x l:Nat))∧w'=w:=by
 have H1:=Lh (fun w_=>high_any m hm w_)
 have H2:=Lh (fun w_=>high_any x hx w_)
 have H3:=Lh (fun w_=>high_any l hl w_)
 have HR:=Lh (show rexF m x l=72+4*hi3 m+2*hi3 x+hi3 l from rfl)
 have e1:=hi3_01 hm
 have e2:=hi3_01 hx
 have e3:=hi3_01 hl
 generalize rexF m x l=R at *
 generalize hi3 m=a at *
 generalize hi3 x=b at *
 generalize hi3 l=c at *
 clear hm hx hl
 rcases e1 with rfl | rfl <;> rcases e2 with rfl | rfl <;> rcases e3 with rfl | rfl
 all_goals
   go_enter Tryz.func135,Tryz.ntmps135
   go_wp2_with (first | ((with_reducible refine (H1.out _).mono ?_);rintro e w1 ⟨rfl,hw1⟩;subst hw1) | ((with_reducible refine (H2.out _).mono ?_);rintro e w1 ⟨rfl,hw1⟩;subst hw1) | ((with_reducible refine (H3.out _).mono ?_);rintro e w1 ⟨rfl,hw1⟩;subst hw1))
   go_ret
   exact ⟨by rw [HR.out];rfl,rfl⟩
set_option maxHeartbeats 1000000 in
theorem both_any (m l:Int) (w:World):Calls Tryz.prog 136 #[.int .i64 m,.int .i64 l] w fun e w'=>e=.returned (.int .u8 (bothF m l:Nat))∧w'=w:=by
 have H1:=Lh (fun w_=>low_any m w_)
 have H2:=Lh (fun w_=>low_any l w_)
 have HR:=Lh (show bothF m l=192+8*lo3 m+lo3 l from rfl)
 have e1:=lo3_lt m
 have e2:=lo3_lt l
 generalize bothF m l=R at *
 generalize lo3 m=a at *
 generalize lo3 l=b at *
 have f1:IntKind.u8.wrap ((a:Int)*8)=((8*a:Nat):Int):=by rw [wrapU8];omega
 have f2:Go.bits .or .u8 192 ((8*a:Nat):Int)=((192+8*a:Nat):Int):=by rw [u8_join 6 _ _ (by omega) (by decide) (by decide) (by omega) (by omega) (by omega)];omega
 have f3:Go.bits .or .u8 ((192+8*a:Nat):Int) (b:Int)=(R:Int):=by rw [u8_join 3 _ _ (by omega) (by omega) (by omega) (by omega) (by omega) (by omega),HR.out];omega
 generalize 192+8*a=q at *
 generalize 8*a=p at *
 clear HR e1 e2
 go_enter Tryz.func136,Tryz.ntmps136
 go_wp2_with (first | ((with_reducible refine (H1.out _).mono ?_);rintro e w1 ⟨rfl,hw1⟩;subst hw1) | ((with_reducible refine (H2.out _).mono ?_);rintro e w1 ⟨rfl,hw1⟩;subst hw1))
 go_ret
 exact ⟨rfl,rfl⟩
end Go.Proofs.YtocndimihokcmaaGreat
namespace Go.Proofs.YtocndimihokcmaaGreat
open Go.RowKit
set_option maxRecDepth 100000
theorem own_ltB {w:World} {base e sz n:Nat} {v:Value} {xs:List Value} (h:w.ownsRow base e sz v n xs):∀ g,v.ownBlock=some g→g < w.heap.size∧base≤g:=by
 intro g hg
 rcases h.2 with ⟨rfl,_⟩ | ⟨g',c',cur,rfl,hb,hh,_⟩
 · cases hg
 · cases hg
   exact ⟨lt_of_block hh,hb⟩
theorem little_snoc (j:Nat):∀ n:Int,littleF n (j+1)=littleF n j++[(n / (256 ^ j:Nat) % 256).toNat]:=by
 induction j with
 | zero=>intro n;simp [littleF]
 | succ j ih =>
   intro n
   have e:littleF n (j+1+1)=(n % 256).toNat :: littleF (n / 256) (j+1):=rfl
   rw [e,ih]
   have h:n / 256 / ((256 ^ j:Nat):Int)=n / ((256 ^ (j+1):Nat):Int):=by
     rw [Int.ediv_ediv_of_nonneg (by decide),Nat.pow_succ,Nat.mul_comm]
     rfl
   rw [h]
   rfl
set_option maxHeartbeats 2000000 in
theorem little_any (n:Int) (k:Nat) (hk:k≤8) (w:World):Calls Tryz.prog 138 #[.int .i64 n,.int .i64 k] w (BytesTold (littleF n k) w):=by
 go_enter Tryz.func138,Tryz.ntmps138
 go_wp2
 go_loopw [0,4,6] (fun s0 s4 s6 wr=>∃ (j:Nat) (A:Option Addr) (c:Nat) (x:Int),j≤k∧s6=.int .i64 j∧s4=.slice A j c∧s0=.int .i64 x∧x=n / (256 ^ j:Nat)∧wr.ownsRow w.heap.size 5 1 (.slice A j c) j (u8V (littleF n j))∧Below w.heap.size w wr) (fun _ _ s6 _=>k - (intOf s6).toNat)
 case atStart=>exact ⟨0,none,0,n,Nat.zero_le _,rfl,rfl,rfl,by simp,World.ownsRow_nil _ _ _ _,Below.refl _ _⟩
 case round =>
   obtain ⟨j,A,c,x,hj,rfl,rfl,rfl,hx,ho,hb⟩:=hrel
   have HO:=Lh ho
   have HB:=Lh hb
   have HX:=Lh hx
   clear ho hb hx
   by_cases hlt:j < k
   · have d1:decide (j < k)=true:=decide_eq_true hlt
     obtain ⟨b,hb⟩:∃ b:Nat,b=(x % 256).toNat:=⟨_,rfl⟩
     have f1:IntKind.u8.wrap x=(b:Int):=by rw [wrapU8];omega
     have HBB:=Lh hb
     clear hb
     go_wp2_with (at_builtin;refine wpList_app8 rfl _ _ rfl w.heap.size wr.heap.size (.slice A j c) (.slice (some ⟨wr.heap.size,0,none⟩) 1 1) j 1 (littleF n j) [b] rfl rfl (HO.out.alloc _) (own_lit8 [b] _ rfl (Nat.le_refl _) (by simp) (by simp) (heap_alloc_new wr _) 1 rfl) (by omega) (by have:=HB.out.size;simp;omega) ?_;intro aB w1 ho1 hg1;obtain ⟨A1,c1,rfl,hh_⟩:=own_formB ho1;have HO1:=Lh ho1;have HG1:=Lh hg1;clear ho1 hg1 hh_)
     go_roundw
     case rel =>
       refine ⟨j+1,A1,c1,x / 256,hlt,by go_num,rfl,rfl,?_,?_,?_⟩
       · rw [HX.out,Int.ediv_ediv_of_nonneg (Int.natCast_nonneg _),Nat.pow_succ];rfl
       · rw [little_snoc,←HX.out,←HBB.out];exact HO1.out
       · exact Below.grown (HB.out.alloc HB.out.size _) HG1.out (by have:=HB.out.size;simp;omega) fun q hq=>(own_ltB HO.out q hq).2
     case measure=>simp [intOf];omega
   · have d1:decide (j < k)=false:=decide_eq_false hlt
     have e:j=k:=by omega
     subst e
     go_wp2
     go_ret
     exact ⟨A,j,c,rfl,HO.out,by rw [little_len],HB.out⟩
end Go.Proofs.YtocndimihokcmaaGreat
namespace Go.Proofs.YtocndimihokcmaaGreat
open Go.RowKit
theorem wrapU' (x:Int):IntKind.u64.wrap x=x % 18446744073709551616:=by simp [IntKind.wrap,IntKind.bits,IntKind.signed]
set_option maxHeartbeats 400000 in
theorem Add_any (a b:Nat) (c:Bool) (w:World) (ha:a < 18446744073709551616) (hb:b < 18446744073709551616) :
   Calls Tryz.prog 174 #[.int .u64 a,.int .u64 b,.bool c] w fun e w'=>e=.returned (.tuple #[.int .u64 ((addF a b c).1:Nat),.bool (addF a b c).2])∧w=w':=by
 obtain ⟨s,hs⟩:∃ s:Nat,s=(a+b) % 18446744073709551616:=⟨_,rfl⟩
 have e1:IntKind.u64.wrap ((a:Int)+(b:Int))=(s:Int):=by rw [wrapU'];omega
 cases c with
 | false =>
   have h1:addF a b false=(s,decide (s < a)):=by simp only [addF,Bool.toNat_false,Nat.add_zero,←hs,Prod.mk.injEq,true_and,decide_eq_decide];omega
   have H1:=Lh h1
   clear h1 hs
   go_enter Tryz.func174,Tryz.ntmps174
   go_wp2
   go_ret2
   exact ⟨by rw [H1.out];rfl,rfl⟩
 | true =>
   obtain ⟨s2,hs2⟩:∃ s2:Nat,s2=(s+1) % 18446744073709551616:=⟨_,rfl⟩
   have e2:IntKind.u64.wrap ((s:Int)+1)=(s2:Int):=by rw [wrapU'];omega
   by_cases hlt:s < a
   · have h1:addF a b true=(s2,true):=by simp only [addF,Bool.toNat_true,Prod.mk.injEq,decide_eq_true_eq];omega
     have hd:decide (s < a)=true:=by simpa using hlt
     have H1:=Lh h1
     clear h1 hs hs2 hlt
     go_enter Tryz.func174,Tryz.ntmps174
     go_wp2
     go_ret2
     exact ⟨by rw [H1.out];rfl,rfl⟩
   · have h1:addF a b true=(s2,s2 == 0):=Prod.ext (by simp only [addF,Bool.toNat_true];omega) (by simp only [addF,Bool.toNat_true];rw [Bool.eq_iff_iff,decide_eq_true_eq,beq_iff_eq];omega)
     have hd:decide (s < a)=false:=by simpa using hlt
     have hz:((s2:Int) == 0)=(s2 == 0):=by rw [Bool.eq_iff_iff,beq_iff_eq,beq_iff_eq];omega
     generalize (s2 == 0)=z at *
     have H1:=Lh h1
     clear h1 hs hs2 hlt
     go_enter Tryz.func174,Tryz.ntmps174
     go_wp2
     go_ret2
     exact ⟨by rw [H1.out];rfl,rfl⟩
set_option maxHeartbeats 400000 in
theorem Sub_any (a b:Nat) (c:Bool) (w:World) (ha:a < 18446744073709551616) (hb:b < 18446744073709551616) :
   Calls Tryz.prog 177 #[.int .u64 a,.int .u64 b,.bool c] w fun e w'=>e=.returned (.tuple #[.int .u64 ((subF a b c).1:Nat),.bool (subF a b c).2])∧w=w':=by
 obtain ⟨s,hs⟩:∃ s:Nat,s=(18446744073709551616+a - b) % 18446744073709551616:=⟨_,rfl⟩
 have e1:IntKind.u64.wrap ((a:Int) - (b:Int))=(s:Int):=by rw [wrapU'];omega
 cases c with
 | false =>
   have h1:subF a b false=(s,decide (a < b)):=by simp only [subF,Bool.toNat_false,Nat.add_zero,Nat.sub_zero,←hs]
   have H1:=Lh h1
   clear h1 hs
   go_enter Tryz.func177,Tryz.ntmps177
   go_wp2
   go_ret2
   exact ⟨by rw [H1.out];rfl,rfl⟩
 | true =>
   obtain ⟨s2,hs2⟩:∃ s2:Nat,s2=(18446744073709551616+s - 1) % 18446744073709551616:=⟨_,rfl⟩
   have e2:IntKind.u64.wrap ((s:Int) - 1)=(s2:Int):=by rw [wrapU'];omega
   by_cases hlt:a < b
   · have h1:subF a b true=(s2,true):=by simp only [subF,Bool.toNat_true,Prod.mk.injEq,decide_eq_true_eq];omega
     have hd:decide (a < b)=true:=by simpa using hlt
     have H1:=Lh h1
     clear h1 hs hs2 hlt
     go_enter Tryz.func177,Tryz.ntmps177
     go_wp2
     go_ret2
     exact ⟨by rw [H1.out];rfl,rfl⟩
   · have h1:subF a b true=(s2,s == 0):=Prod.ext (by simp only [subF,Bool.toNat_true];omega) (by simp only [subF,Bool.toNat_true];rw [Bool.eq_iff_iff,decide_eq_true_eq,beq_iff_eq];omega)
     have hd:decide (a < b)=false:=by simpa using hlt
     have hz:((s:Int) == 0)=(s == 0):=by rw [Bool.eq_iff_iff,beq_iff_eq,beq_iff_eq];omega
     generalize (s == 0)=z at *
     have H1:=Lh h1
     clear h1 hs hs2 hlt
     go_enter Tryz.func177,Tryz.ntmps177
     go_wp2
     go_ret2
     exact ⟨by rw [H1.out];rfl,rfl⟩
theorem low_half (a:Nat) (h:a < 18446744073709551616):Go.bits .and .u64 (a:Int) 4294967295=((a % 4294967296:Nat):Int):=by
 have:=bits_and_u64_nat a 4294967295 h (by decide)
 rw [show ((4294967295:Nat):Int)=4294967295 from rfl] at this
 rw [this,show (4294967295:Nat)=2 ^ 32 - 1 from rfl,Nat.and_two_pow_sub_one_eq_mod]
set_option maxHeartbeats 400000 in
theorem Mul_any (a b:Nat) (w:World) (ha:a < 18446744073709551616) (hb:b < 18446744073709551616) :
   Calls Tryz.prog 129 #[.int .u64 a,.int .u64 b] w fun e w'=>e=.returned (.tuple #[.int .u64 ((mulF a b).1:Nat),.int .u64 ((mulF a b).2:Nat)])∧w=w':=by
 obtain ⟨x,hx⟩:∃ x:Nat,x=a / 4294967296:=⟨_,rfl⟩
 obtain ⟨y,hy⟩:∃ y:Nat,y=a % 4294967296:=⟨_,rfl⟩
 obtain ⟨u,hu⟩:∃ u:Nat,u=b / 4294967296:=⟨_,rfl⟩
 obtain ⟨v,hv⟩:∃ v:Nat,v=b % 4294967296:=⟨_,rfl⟩
 have ea:=low_half a ha
 have eb:=low_half b hb
 rw [←hy] at ea
 rw [←hv] at eb
 have ax:(a:Int) / 4294967296=(x:Int):=by omega
 have bu:(b:Int) / 4294967296=(u:Int):=by omega
 have lim:∀ p q:Nat,p≤4294967295→q≤4294967295→p*q≤18446744065119617025:=fun p q h1 h2=>Nat.mul_le_mul h1 h2
 have l1:=lim y v (by omega) (by omega)
 have l2:=lim x v (by omega) (by omega)
 have l3:=lim y u (by omega) (by omega)
 have l4:=lim x u (by omega) (by omega)
 have hm:=mul_halves ha hb x y u v _ _ hx hy hu hv rfl rfl
 have w5:IntKind.u64.wrap ((a:Int)*(b:Int))=((mulF a b).2:Int):=by rw [wrapU',←Int.natCast_mul];simp only [mulF];omega
 have c1:(y:Int)*(v:Int)=((y*v:Nat):Int):=by simp
 have c2:(x:Int)*(v:Int)=((x*v:Nat):Int):=by simp
 have c3:(y:Int)*(u:Int)=((y*u:Nat):Int):=by simp
 have c4:(x:Int)*(u:Int)=((x*u:Nat):Int):=by simp
 have hbig:a*b / 18446744073709551616≤18446744073709551615:=by
   have:=Nat.mul_le_mul (Nat.le_of_lt_succ ha) (Nat.le_of_lt_succ hb)
   omega
 generalize hf:y*v=f at *
 generalize hg:x*v=g at *
 generalize hh:y*u=h at *
 generalize hk:x*u=k at *
 have d1:IntKind.u64.wrap (f:Int)=(f:Int):=by rw [wrapU'];omega
 have d2:IntKind.u64.wrap (g:Int)=(g:Int):=by rw [wrapU'];omega
 have d3:IntKind.u64.wrap (h:Int)=(h:Int):=by rw [wrapU'];omega
 have d4:IntKind.u64.wrap (k:Int)=(k:Int):=by rw [wrapU'];omega
 obtain ⟨m,hmm⟩:∃ m:Nat,m=g+f / 4294967296:=⟨_,rfl⟩
 rw [←hmm] at hm
 obtain ⟨n,hnn⟩:∃ n:Nat,n=h+m % 4294967296:=⟨_,rfl⟩
 rw [←hnn] at hm
 have em:=low_half m (by omega)
 obtain ⟨q,hq⟩:∃ q:Nat,q=m % 4294967296:=⟨_,rfl⟩
 rw [←hq] at em
 have w1:IntKind.u64.wrap ((g:Int)+(f:Int) / 4294967296)=(m:Int):=by rw [wrapU'];omega
 have w2:IntKind.u64.wrap ((h:Int)+(q:Int))=(n:Int):=by rw [wrapU'];omega
 obtain ⟨p,hp⟩:∃ p:Nat,p=k+m / 4294967296:=⟨_,rfl⟩
 have w3:IntKind.u64.wrap ((k:Int)+(m:Int) / 4294967296)=(p:Int):=by rw [wrapU'];omega
 obtain ⟨z,hz⟩:∃ z:Nat,z=(mulF a b).1:=⟨_,rfl⟩
 have hz2:z=p+n / 4294967296:=by rw [hz,hp];exact hm.symm
 have w4:IntKind.u64.wrap ((p:Int)+(n:Int) / 4294967296)=(z:Int):=by rw [wrapU'];omega
 obtain ⟨z',hz'⟩:∃ z':Nat,z'=(mulF a b).2:=⟨_,rfl⟩
 rw [←hz,←hz']
 rw [←hz'] at w5
 clear hx hy hu hv hm hmm hnn hf hg hh hk l1 l2 l3 l4 lim hbig hp hq hz hz2 hz'
 go_enter Tryz.func129,Tryz.ntmps129
 go_wp2
 go_ret2
 exact ⟨rfl,rfl⟩
end Go.Proofs.YtocndimihokcmaaGreat
namespace Go.Proofs.YtocndimihokcmaaGreat
open Go.RowKit
def stRow (s:St):List Value:=s.regs.map (fun r=>Value.int .u64 (r:Nat))++[.int .u64 s.pc,.bool s.cf,.bool s.of_,.bool s.zf]
def insRow (i:Ins):List Value:=[.int .i64 i.op,.int .i64 i.d,.int .i64 i.s,.int .i64 i.t,.int .i64 i.base,.int .i64 i.index,.int .i64 i.scale,.int .i64 i.disp,.int .i64 i.imm]
structure Stp where
 st:St
 i:Ins
 m:Value
 l:Value
 e:Int
def stpRow (x:Stp):List Value:=stRow x.st++(insRow x.i++[x.m,x.l,.int .i64 x.e])
theorem sixteen {α:Type} (l:List α) (h:l.length=16):∃ a0 a1 a2 a3 a4 a5 a6 a7 a8 a9 a10 a11 a12 a13 a14 a15,l=[a0,a1,a2,a3,a4,a5,a6,a7,a8,a9,a10,a11,a12,a13,a14,a15]:=by
 match l,h with
 | [a0,a1,a2,a3,a4,a5,a6,a7,a8,a9,a10,a11,a12,a13,a14,a15],_=>exact ⟨a0,a1,a2,a3,a4,a5,a6,a7,a8,a9,a10,a11,a12,a13,a14,a15,rfl⟩
structure Ev where
 kind:Int
 addr:Nat
def evRow (x:Ev):List Value:=[.int .i64 x.kind,.int .u64 x.addr]
structure Run (w:World) (base b:Nat) (x:Stp) (evs:List Ev):Prop where
 at_:w.heap[b]? = some (.cells (stpRow x).toArray 158 (0,0))
 ok:StOk x.st
 le:base≤b
 row:w.ownsRow base 56 2 x.l evs.length (evs.map evRow).flatten
 few:evs.length≤100
theorem Run.lt {w:World} {base b:Nat} {x:Stp} {evs:List Ev} (h:Run w base b x evs):b < w.heap.size:=by
 rcases Nat.lt_or_ge b w.heap.size with h' | h'
 · exact h'
 · have:=h.at_;rw [Array.getElem?_eq_none h'] at this;cases this
theorem Run.base_le {w:World} {base b:Nat} {x:Stp} {evs:List Ev} (h:Run w base b x evs):base≤w.heap.size:=Nat.le_trans h.le (Nat.le_of_lt h.lt)
theorem Run.frozen {w:World} {base b:Nat} {x:Stp} {evs:List Ev} (h:Run w base b x evs) (k:Nat):w.frozen? ⟨b,k,none⟩=false:=by simp [World.frozen?,h.at_]
theorem Run.get {w:World} {base b:Nat} {x:Stp} {evs:List Ev} (h:Run w base b x evs) (k:Nat):w.cell? ⟨b,k,none⟩=(stpRow x)[k]?:=by simp [World.cell?,h.at_]
theorem stpRow_reg {x:Stp} {k:Nat} {r:Nat} (hr:x.st.regs[k]? = some r):(stpRow x)[k]? = some (.int .u64 r):=by
 have hk:=(List.getElem?_eq_some_iff.1 hr).1
 rw [stpRow,stRow,List.append_assoc,List.getElem?_append_left (by simpa using hk),List.getElem?_map,hr];rfl
theorem Run.reg {w:World} {base b:Nat} {x:Stp} {evs:List Ev} (h:Run w base b x evs) {k:Nat} {r:Nat} (hr:x.st.regs[k]? = some r):w.cell? ⟨b,k,none⟩=some (.int .u64 r):=by rw [h.get,stpRow_reg hr]
theorem stpRow_hi {x:Stp} (h:x.st.regs.length=16) (k:Nat):(stpRow x)[16+k]? =([.int .u64 x.st.pc,.bool x.st.cf,.bool x.st.of_,.bool x.st.zf]++(insRow x.i++[x.m,x.l,.int .i64 x.e]))[k]?:=by
 rw [stpRow,stRow,List.append_assoc,List.getElem?_append_right (by simp [h])]
 simp [h]
theorem Run.cells {w:World} {base b:Nat} {x:Stp} {evs:List Ev} (h:Run w base b x evs) :
   w.cell? ⟨b,16,none⟩=some (.int .u64 x.st.pc)∧w.cell? ⟨b,17,none⟩=some (.bool x.st.cf)∧w.cell? ⟨b,18,none⟩=some (.bool x.st.of_)∧w.cell? ⟨b,19,none⟩=some (.bool x.st.zf) ∧
   w.cell? ⟨b,20,none⟩=some (.int .i64 x.i.op)∧w.cell? ⟨b,21,none⟩=some (.int .i64 x.i.d)∧w.cell? ⟨b,22,none⟩=some (.int .i64 x.i.s)∧w.cell? ⟨b,23,none⟩=some (.int .i64 x.i.t) ∧
   w.cell? ⟨b,24,none⟩=some (.int .i64 x.i.base)∧w.cell? ⟨b,25,none⟩=some (.int .i64 x.i.index)∧w.cell? ⟨b,26,none⟩=some (.int .i64 x.i.scale)∧w.cell? ⟨b,27,none⟩=some (.int .i64 x.i.disp) ∧
   w.cell? ⟨b,28,none⟩=some (.int .i64 x.i.imm)∧w.cell? ⟨b,29,none⟩=some x.m∧w.cell? ⟨b,30,none⟩=some x.l∧w.cell? ⟨b,31,none⟩=some (.int .i64 x.e):=by
 have hl:=h.ok.len
 simp only [h.get]
 exact ⟨stpRow_hi hl 0,stpRow_hi hl 1,stpRow_hi hl 2,stpRow_hi hl 3,stpRow_hi hl 4,stpRow_hi hl 5,stpRow_hi hl 6,stpRow_hi hl 7,stpRow_hi hl 8,stpRow_hi hl 9,stpRow_hi hl 10,stpRow_hi hl 11,stpRow_hi hl 12,stpRow_hi hl 13,stpRow_hi hl 14,stpRow_hi hl 15⟩
theorem Run.apart {w:World} {base b:Nat} {x:Stp} {evs:List Ev} (h:Run w base b x evs):∀ k,x.l.ownBlock=some k→k≠b:=by
 intro k hk e
 subst e
 rcases h.row.2 with ⟨h1,_⟩ | ⟨g,cap,cur,h1,_,h2,_⟩
 · rw [h1] at hk;cases hk
 · rw [h1] at hk
   cases hk
   rw [h.at_] at h2
   injection h2 with h2
   injection h2 with _ h2
   exact absurd h2 (by decide)
theorem own_keep2 {w w':World} {base e sz n:Nat} {v:Value} {xs:List Value} (h:w.ownsRow base e sz v n xs) (hk:∀ g,v.ownBlock=some g→w'.heap[g]? = w.heap[g]?):w'.ownsRow base e sz v n xs:=by
 rcases h.2 with ⟨h1,h2⟩ | ⟨g',cap',cur,hv,hg,hh,hr⟩
 · exact ⟨h.1,.inl ⟨h1,h2⟩⟩
 · exact ⟨h.1,.inr ⟨g',cap',cur,hv,hg,(hk g' (by rw [hv];rfl)).trans hh,hr⟩⟩
theorem own_lt {w:World} {base e sz n:Nat} {v:Value} {xs:List Value} (h:w.ownsRow base e sz v n xs):∀ g,v.ownBlock=some g→g < w.heap.size∧base≤g:=by
 intro k hk
 rcases h.2 with ⟨h1,_⟩ | ⟨g,cap,cur,h1,hg,h2,_⟩
 · rw [h1] at hk;cases hk
 · rw [h1] at hk
   cases hk
   rcases Nat.lt_or_ge g w.heap.size with h' | h'
   · exact ⟨h',hg⟩
   · rw [Array.getElem?_eq_none h'] at h2;cases h2
theorem Run.next {w w':World} {base b:Nat} {x:Stp} {evs:List Ev} (h:Run w base b x evs) (hb:Below w.heap.size w w'):Run w' base b x evs :=
 ⟨(hb.block b h.lt).trans h.at_,h.ok,h.le,own_keep2 h.row fun g hg=>hb.block g (own_lt h.row g hg).1,h.few⟩
theorem Run.chg {w w':World} {F:Nat→Prop} {base b:Nat} {x:Stp} {evs:List Ev} (h:Run w base b x evs) (hc:Chg F w w') (hF:∀ k,F k→k < base):Run w' base b x evs :=
 ⟨(hc.block b h.lt (fun h'=>by have:=hF b h';have:=h.le;omega)).trans h.at_,h.ok,h.le,own_keep2 h.row fun g hg=>hc.block g (own_lt h.row g hg).1 (fun h'=>by have:=hF g h';have:=(own_lt h.row g hg).2;omega),h.few⟩
theorem Run.set_ {w:World} {base b:Nat} {x y:Stp} {evs:List Ev} (h:Run w base b x evs) (k:Nat) (v:Value) (hy:(stpRow x).set k v=stpRow y) (hok:StOk y.st) (hl:y.l=x.l):Run (w.setCell ⟨b,k,none⟩ v) base b y evs:=by
 refine ⟨?_,hok,h.le,?_,h.few⟩
 · rw [World.setCell,←hy]
   simp only [Array.getElem?_modify,if_pos,h.at_,Option.map_some]
   simp
 · rw [hl]
   exact own_keep2 h.row fun g hg=>Below.heap_setCell _ _ _ _ (h.apart g hg)
theorem set_pc (x:Stp) (h:x.st.regs.length=16) (n:Nat):(stpRow x).set 16 (.int .u64 n)=stpRow { x with st:={ x.st with pc:=n } }:=by
 rcases x with ⟨⟨regs,pc,cf,of_,zf⟩,i,m,l,e⟩
 obtain ⟨a0,a1,a2,a3,a4,a5,a6,a7,a8,a9,a10,a11,a12,a13,a14,a15,rfl⟩:=sixteen regs h
 rfl
theorem set_cf (x:Stp) (h:x.st.regs.length=16) (n:Bool):(stpRow x).set 17 (.bool n)=stpRow { x with st:={ x.st with cf:=n } }:=by
 rcases x with ⟨⟨regs,pc,cf,of_,zf⟩,i,m,l,e⟩
 obtain ⟨a0,a1,a2,a3,a4,a5,a6,a7,a8,a9,a10,a11,a12,a13,a14,a15,rfl⟩:=sixteen regs h
 rfl
theorem set_of (x:Stp) (h:x.st.regs.length=16) (n:Bool):(stpRow x).set 18 (.bool n)=stpRow { x with st:={ x.st with of_:=n } }:=by
 rcases x with ⟨⟨regs,pc,cf,of_,zf⟩,i,m,l,e⟩
 obtain ⟨a0,a1,a2,a3,a4,a5,a6,a7,a8,a9,a10,a11,a12,a13,a14,a15,rfl⟩:=sixteen regs h
 rfl
theorem set_zf (x:Stp) (h:x.st.regs.length=16) (n:Bool):(stpRow x).set 19 (.bool n)=stpRow { x with st:={ x.st with zf:=n } }:=by
 rcases x with ⟨⟨regs,pc,cf,of_,zf⟩,i,m,l,e⟩
 obtain ⟨a0,a1,a2,a3,a4,a5,a6,a7,a8,a9,a10,a11,a12,a13,a14,a15,rfl⟩:=sixteen regs h
 rfl
theorem set_e (x:Stp) (h:x.st.regs.length=16) (n:Int):(stpRow x).set 31 (.int .i64 n)=stpRow { x with e:=n }:=by
 rcases x with ⟨⟨regs,pc,cf,of_,zf⟩,i,m,l,e⟩
 obtain ⟨a0,a1,a2,a3,a4,a5,a6,a7,a8,a9,a10,a11,a12,a13,a14,a15,rfl⟩:=sixteen regs h
 rfl
theorem set_l (x:Stp) (h:x.st.regs.length=16) (v:Value):(stpRow x).set 30 v=stpRow { x with l:=v }:=by
 rcases x with ⟨⟨regs,pc,cf,of_,zf⟩,i,m,l,e⟩
 obtain ⟨a0,a1,a2,a3,a4,a5,a6,a7,a8,a9,a10,a11,a12,a13,a14,a15,rfl⟩:=sixteen regs h
 rfl
theorem set_reg (x:Stp) (k:Nat) (hk:k < x.st.regs.length) (n:Nat):(stpRow x).set k (.int .u64 n)=stpRow { x with st:={ x.st with regs:=x.st.regs.set k n } }:=by
 rw [stpRow,stRow,List.append_assoc,List.set_append_left _ _ (by simpa using hk),stpRow,stRow,List.append_assoc,List.map_set]
theorem Run.setPc {w:World} {base b:Nat} {x:Stp} {evs:List Ev} (h:Run w base b x evs) {n:Nat} (hn:n < 18446744073709551616):Run (w.setCell ⟨b,16,none⟩ (.int .u64 n)) base b { x with st:={ x.st with pc:=n } } evs :=
 h.set_ 16 _ (set_pc x h.ok.len n) ⟨h.ok.len,h.ok.regs,hn⟩ rfl
theorem Run.setCf {w:World} {base b:Nat} {x:Stp} {evs:List Ev} (h:Run w base b x evs) (n:Bool):Run (w.setCell ⟨b,17,none⟩ (.bool n)) base b { x with st:={ x.st with cf:=n } } evs :=
 h.set_ 17 _ (set_cf x h.ok.len n) ⟨h.ok.len,h.ok.regs,h.ok.pc⟩ rfl
theorem Run.setOf {w:World} {base b:Nat} {x:Stp} {evs:List Ev} (h:Run w base b x evs) (n:Bool):Run (w.setCell ⟨b,18,none⟩ (.bool n)) base b { x with st:={ x.st with of_:=n } } evs :=
 h.set_ 18 _ (set_of x h.ok.len n) ⟨h.ok.len,h.ok.regs,h.ok.pc⟩ rfl
theorem Run.setZf {w:World} {base b:Nat} {x:Stp} {evs:List Ev} (h:Run w base b x evs) (n:Bool):Run (w.setCell ⟨b,19,none⟩ (.bool n)) base b { x with st:={ x.st with zf:=n } } evs :=
 h.set_ 19 _ (set_zf x h.ok.len n) ⟨h.ok.len,h.ok.regs,h.ok.pc⟩ rfl
theorem Run.setE {w:World} {base b:Nat} {x:Stp} {evs:List Ev} (h:Run w base b x evs) (n:Int):Run (w.setCell ⟨b,31,none⟩ (.int .i64 n)) base b { x with e:=n } evs :=
 h.set_ 31 _ (set_e x h.ok.len n) h.ok rfl
theorem StOk.set {s:St} (h:StOk s) (k:Nat) {n:Nat} (hn:n < 18446744073709551616):StOk { s with regs:=s.regs.set k n } :=
 ⟨by simpa using h.len,fun r hr=>by rcases List.mem_or_eq_of_mem_set hr with h' | rfl;exact h.regs r h';exact hn,h.pc⟩
theorem Run.setReg {w:World} {base b:Nat} {x:Stp} {evs:List Ev} (h:Run w base b x evs) {k n:Nat} (hk:k < 16) (hn:n < 18446744073709551616):Run (w.setCell ⟨b,k,none⟩ (.int .u64 n)) base b { x with st:={ x.st with regs:=x.st.regs.set k n } } evs :=
 h.set_ k _ (set_reg x k (by rw [h.ok.len];exact hk) n) (h.ok.set k hn) rfl
theorem infoEv:(Tryz.prog.info? 56).map (fun i=>(i.zero,i.size,i.bytes))=some (some (.agg #[.int .i64 0,.int .u64 0]),2,16):=by kernel_rfl
end Go.Proofs.YtocndimihokcmaaGreat
namespace Go.Proofs.YtocndimihokcmaaGreat
open Go.RowKit
set_option maxRecDepth 100000
variable {w:World} {base b:Nat} {x:Stp} {evs:List Ev}
set_option maxHeartbeats 400000 in
theorem flags_any (h:Run w base b x evs) (k:Nat) (caps:Array Value) (o:Bool) (r:Nat) (c:Bool) (hg:∀ args w,(callFunc k args).run Tryz.prog w=.ok (.enter k args) w) (hf:Calls Tryz.prog k caps w fun e w'=>e=.returned (.bool o)∧w=w') :
   Calls Tryz.prog 175 #[.pointer (some ⟨b,0,none⟩),.int .u64 r,.bool c,.func (.func k) #[] caps] w fun e w'=>e=.returned (.int .u64 r)∧Below base w w'∧Run w' base b { x with st:={ x.st with cf:=c,of_:=o,zf:=r == 0 } } evs:=by
 have hz:((r:Int) == 0)=(r == 0):=by rw [Bool.eq_iff_iff,beq_iff_eq,beq_iff_eq];omega
 generalize (r == 0)=z at *
 have H:=Lh h
 have HF:=Lh hf
 obtain ⟨_,c17,c18,c19,_⟩:=h.cells
 have f17:=h.frozen 17
 have f18:=h.frozen 18
 have f19:=h.frozen 19
 clear h hf
 go_enter Tryz.func175,Tryz.ntmps175
 go_wp2_with (refine HF.out.mono ?_;rintro e w1 ⟨rfl,rfl⟩)
 go_ret
 exact ⟨rfl,(((Below.refl _ _).setCell H.out.le _).setCell H.out.le _).setCell H.out.le _,((H.out.setCf c).setOf o).setZf z⟩
theorem top_int {x:Nat} {o:Bool} (h:(x / 9223372036854775808 == 1)=o):(((x:Nat):Int) / 9223372036854775808 == 1)=o:=by
 rw [←h,Bool.eq_iff_iff,beq_iff_eq,beq_iff_eq];omega
set_option maxHeartbeats 400000 in
theorem sum1_any (w:World) (a bb r:Nat) (pa pr pb:Addr) (ha:a < 18446744073709551616) (hb:bb < 18446744073709551616) (hr:r < 18446744073709551616) (h1:w.cell? pa=some (.int .u64 a)) (h2:w.cell? pr=some (.int .u64 r)) (h3:w.cell? pb=some (.int .u64 bb)) :
   Calls Tryz.prog 176 #[.pointer (some pa),.pointer (some pr),.pointer (some pb)] w fun e w'=>e=.returned (.bool ((topB a == topB bb) && (topB r != topB a)))∧w=w':=by
 have e:=top_int (ofSum ha hb hr)
 have b1:=bits_xor_u64_nat a r ha hr
 have b2:=bits_xor_u64_nat bb r hb hr
 have b3:=bits_and_u64_nat (a ^^^ r) (bb ^^^ r) (xor_lt ha hr) (xor_lt hb hr)
 generalize ((topB a == topB bb) && (topB r != topB a))=o at *
 generalize ((a ^^^ r) &&& (bb ^^^ r))=q at *
 go_enter Tryz.func176,Tryz.ntmps176
 go_wp2
 go_ret
 exact ⟨rfl,rfl⟩
set_option maxHeartbeats 400000 in
theorem rest1_any (w:World) (a bb r:Nat) (pa pb pr:Addr) (ha:a < 18446744073709551616) (hb:bb < 18446744073709551616) (hr:r < 18446744073709551616) (h1:w.cell? pa=some (.int .u64 a)) (h2:w.cell? pr=some (.int .u64 r)) (h3:w.cell? pb=some (.int .u64 bb)) :
   Calls Tryz.prog 178 #[.pointer (some pa),.pointer (some pb),.pointer (some pr)] w fun e w'=>e=.returned (.bool ((topB a != topB bb) && (topB r != topB a)))∧w=w':=by
 have e:=top_int (ofRest ha hb hr)
 have b1:=bits_xor_u64_nat a bb ha hb
 have b2:=bits_xor_u64_nat a r ha hr
 have b3:=bits_and_u64_nat (a ^^^ bb) (a ^^^ r) (xor_lt ha hb) (xor_lt ha hr)
 generalize ((topB a != topB bb) && (topB r != topB a))=o at *
 generalize ((a ^^^ bb) &&& (a ^^^ r))=q at *
 go_enter Tryz.func178,Tryz.ntmps178
 go_wp2
 go_ret
 exact ⟨rfl,rfl⟩
theorem plain1_any (w:World):Calls Tryz.prog 179 #[] w fun e w'=>e=.returned (.bool false)∧w=w':=by
 go_enter Tryz.func179,Tryz.ntmps179
 go_wp2
 go_ret
 exact ⟨rfl,rfl⟩
theorem three (w:World) (u v z:Value) (t:Nat):∃ W,W=((w.alloc (.cells #[u] t)).alloc (.cells #[v] t)).alloc (.cells #[z] t)∧W.cell? ⟨w.heap.size,0,none⟩=some u∧W.cell? ⟨w.heap.size+1,0,none⟩=some v∧W.cell? ⟨w.heap.size+1+1,0,none⟩=some z∧Below w.heap.size w W:=by
 refine ⟨_,rfl,?_,?_,?_,(((Below.refl _ _).alloc (Nat.le_refl _) _).alloc (by simp) _).alloc (by simp;omega) _⟩
 · rw [World.cell?_alloc_lt _ _ _ (by simp;omega),World.cell?_alloc_lt _ _ _ (by simp),World.cell?_alloc_at _ _ _ _ rfl];rfl
 · rw [World.cell?_alloc_lt _ _ _ (by simp),World.cell?_alloc_at _ _ _ _ (by simp)];rfl
 · rw [World.cell?_alloc_at _ _ _ _ (by simp)];rfl
set_option maxHeartbeats 400000 in
theorem sum_any (h:Run w base b x evs) (a bb:Nat) (c:Bool) (ha:a < 18446744073709551616) (hb:bb < 18446744073709551616) :
   Calls Tryz.prog 148 #[.pointer (some ⟨b,0,none⟩),.int .u64 a,.int .u64 bb,.bool c] w fun e w'=>e=.returned (.int .u64 ((addF a bb c).1:Nat))∧Below base w w'∧Run w' base b { x with st:=(valueF.sumS x.st a bb c).1 } evs:=by
 have hmf:∀ (fn:Fn) (first cap:Array Value) (w:World),(Instr.makeFunc fn first cap).run Tryz.prog w=.ok (.func fn first cap) w:=fun _ _ _ _=>rfl
 have hr:=addF_lt a bb c
 have HA:=Lh (fun w=>Add_any a bb c w ha hb)
 obtain ⟨r,hre⟩:∃ r,r=(addF a bb c).1:=⟨_,rfl⟩
 obtain ⟨o,hoe⟩:∃ o,o=(addF a bb c).2:=⟨_,rfl⟩
 have e1:(valueF.sumS x.st a bb c).1={ x.st with cf:=o,of_:=(valueF.sumS x.st a bb c).1.of_,zf:=r == 0 }:=by rw [hre,hoe];rfl
 obtain ⟨W,hW,g1,g2,g3,hbW⟩:=three w (.int .u64 a) (.int .u64 bb) (.int .u64 r) 23
 have H:=Lh (h.next hbW)
 have HB:=Lh (hbW.mono (Nat.le_of_lt (Nat.lt_of_le_of_lt h.le h.lt)))
 have HO:(valueF.sumS x.st a bb c).1.of_=(valueF.sumS x.st a bb c).1.of_:=rfl
 have HW:=Lh hW
 have HE:=Lh e1
 rw [←hre] at hr
 rw [←hre,←hoe] at HA
 rw [←hre]
 have G:=Lh (And.intro g1 (And.intro g2 (And.intro g3 (And.intro ha (And.intro hb hr)))))
 have HR:=Lh hre
 clear HO hW g1 g2 g3 hbW h hre hoe ha hb hr e1
 go_enter Tryz.func148,Tryz.ntmps148
 go_wp2_with (with_reducible refine (HA.out _).mono ?_;rintro e w1 ⟨rfl,rfl⟩)
 rw [←HW.out]
 obtain ⟨g1,g2,g3,ha,hb,hr⟩:=G.out
 refine (flags_any H.out _ _ _ _ _ (fun _ _=>rfl) (sum1_any W a bb r _ _ _ ha hb hr g1 g3 g2)).mono ?_
 rintro e w2 ⟨rfl,hb2,hr2⟩
 have HB2:=Lh hb2
 have HR2:=Lh hr2
 clear g1 g2 g3 ha hb hr hb2 hr2
 go_wp2
 go_ret
 have h3:=HR2.out
 refine ⟨rfl,HB.out.trans HB2.out,?_⟩
 have h4:=HE.out
 rw [h4]
 have h5:=HR.out
 subst h5
 exact h3
set_option maxHeartbeats 400000 in
theorem rest_any (h:Run w base b x evs) (a bb:Nat) (c:Bool) (ha:a < 18446744073709551616) (hb:bb < 18446744073709551616) :
   Calls Tryz.prog 151 #[.pointer (some ⟨b,0,none⟩),.int .u64 a,.int .u64 bb,.bool c] w fun e w'=>e=.returned (.int .u64 ((subF a bb c).1:Nat))∧Below base w w'∧Run w' base b { x with st:=(valueF.restS x.st a bb c).1 } evs:=by
 have hmf:∀ (fn:Fn) (first cap:Array Value) (w:World),(Instr.makeFunc fn first cap).run Tryz.prog w=.ok (.func fn first cap) w:=fun _ _ _ _=>rfl
 have hr:=subF_lt a bb c
 have HA:=Lh (fun w=>Sub_any a bb c w ha hb)
 obtain ⟨r,hre⟩:∃ r,r=(subF a bb c).1:=⟨_,rfl⟩
 obtain ⟨o,hoe⟩:∃ o,o=(subF a bb c).2:=⟨_,rfl⟩
 have e1:(valueF.restS x.st a bb c).1={ x.st with cf:=o,of_:=(valueF.restS x.st a bb c).1.of_,zf:=r == 0 }:=by rw [hre,hoe];rfl
 obtain ⟨W,hW,g1,g2,g3,hbW⟩:=three w (.int .u64 a) (.int .u64 bb) (.int .u64 r) 23
 have H:=Lh (h.next hbW)
 have HB:=Lh (hbW.mono (Nat.le_of_lt (Nat.lt_of_le_of_lt h.le h.lt)))
 have HO:(valueF.restS x.st a bb c).1.of_=(valueF.restS x.st a bb c).1.of_:=rfl
 have HW:=Lh hW
 have HE:=Lh e1
 rw [←hre] at hr
 rw [←hre,←hoe] at HA
 rw [←hre]
 have G:=Lh (And.intro g1 (And.intro g2 (And.intro g3 (And.intro ha (And.intro hb hr)))))
 have HR:=Lh hre
 clear HO hW g1 g2 g3 hbW h hre hoe ha hb hr e1
 go_enter Tryz.func151,Tryz.ntmps151
 go_wp2_with (with_reducible refine (HA.out _).mono ?_;rintro e w1 ⟨rfl,rfl⟩)
 rw [←HW.out]
 obtain ⟨g1,g2,g3,ha,hb,hr⟩:=G.out
 refine (flags_any H.out _ _ _ _ _ (fun _ _=>rfl) (rest1_any W a bb r _ _ _ ha hb hr g1 g3 g2)).mono ?_
 rintro e w2 ⟨rfl,hb2,hr2⟩
 have HB2:=Lh hb2
 have HR2:=Lh hr2
 clear g1 g2 g3 ha hb hr hb2 hr2
 go_wp2
 go_ret
 have h3:=HR2.out
 refine ⟨rfl,HB.out.trans HB2.out,?_⟩
 have h4:=HE.out
 rw [h4]
 have h5:=HR.out
 subst h5
 exact h3
end Go.Proofs.YtocndimihokcmaaGreat
namespace Go.Proofs.YtocndimihokcmaaGreat
open Go.RowKit
set_option maxRecDepth 100000
variable {w:World} {base b:Nat} {x:Stp} {evs:List Ev}
set_option maxHeartbeats 400000 in
theorem plain_any (h:Run w base b x evs) (r:Nat) :
   Calls Tryz.prog 154 #[.pointer (some ⟨b,0,none⟩),.int .u64 r] w fun e w'=>e=.returned (.int .u64 r)∧Below base w w'∧Run w' base b { x with st:=(valueF.plainS x.st r).1 } evs:=by
 have HF:=Lh (flags_any h _ #[] false r false (fun _ _=>rfl) (plain1_any w))
 clear h
 go_enter Tryz.func154,Tryz.ntmps154
 go_wp2_with fail
 refine HF.out.mono ?_
 rintro e w1 ⟨rfl,hb,hr⟩
 have HB:=Lh (And.intro hb hr)
 clear hb hr
 go_wp2
 go_ret
 exact ⟨rfl,HB.out.1,HB.out.2⟩
theorem odd_bit (b:Nat) (h:b < 18446744073709551616):Go.bits .and .u64 (b:Int) 1=((b % 2:Nat):Int):=by
 have:=bits_and_u64_nat b 1 h (by decide)
 rw [show ((1:Nat):Int)=1 from rfl] at this
 rw [this,Nat.and_one_is_mod]
set_option maxHeartbeats 400000 in
theorem shift_any (h:Run w base b x evs) (r bit:Nat) (hbit:bit < 18446744073709551616) :
   Calls Tryz.prog 160 #[.pointer (some ⟨b,0,none⟩),.int .u64 r,.int .u64 bit] w fun e w'=>e=.returned (.int .u64 r)∧Below base w w'∧Run w' base b { x with st:=(valueF.shiftS x.st r bit).1 } evs:=by
 have hz:((r:Int) == 0)=(r == 0):=by rw [Bool.eq_iff_iff,beq_iff_eq,beq_iff_eq];omega
 have hb1:=odd_bit bit hbit
 have hb2:(((bit % 2:Nat):Int) == 1)=(bit % 2 == 1):=by rw [Bool.eq_iff_iff,beq_iff_eq,beq_iff_eq];omega
 obtain ⟨z,hze⟩:∃ z,z=(r == 0):=⟨_,rfl⟩
 obtain ⟨o,hoe⟩:∃ o,o=(bit % 2 == 1):=⟨_,rfl⟩
 have e1:(valueF.shiftS x.st r bit).1={ x.st with cf:=o,zf:=z }:=by rw [hze,hoe];rfl
 rw [e1]
 rw [←hze] at hz
 rw [←hoe] at hb2
 generalize bit % 2=bb at *
 have H:=Lh h
 obtain ⟨_,c17,_,c19,_⟩:=h.cells
 have f17:=h.frozen 17
 have f19:=h.frozen 19
 clear h hze hoe e1
 go_enter Tryz.func160,Tryz.ntmps160
 go_wp2
 go_ret
 exact ⟨rfl,((Below.refl _ _).setCell H.out.le _).setCell H.out.le _,(H.out.setCf o).setZf z⟩
set_option maxHeartbeats 400000 in
theorem chainC_any (h:Run w base b x evs) (a bb:Nat) (ha:a < 18446744073709551616) (hb:bb < 18446744073709551616) :
   Calls Tryz.prog 163 #[.pointer (some ⟨b,0,none⟩),.pointer (some ⟨b,17,none⟩),.int .u64 a,.int .u64 bb] w fun e w'=>e=.returned (.int .u64 ((addF a bb x.st.cf).1:Nat))∧Below base w w'∧Run w' base b { x with st:={ x.st with cf:=(addF a bb x.st.cf).2 } } evs:=by
 have HA:=Lh (Add_any a bb x.st.cf w ha hb)
 have H:=Lh h
 obtain ⟨_,c17,c18,_⟩:=h.cells
 have f17:=h.frozen 17
 clear h
 go_enter Tryz.func163,Tryz.ntmps163
 go_wp2_with ((with_reducible refine (HA.out).mono ?_);rintro e w1 ⟨rfl,rfl⟩)
 go_ret
 exact ⟨rfl,(Below.refl _ _).setCell H.out.le _,H.out.setCf _⟩
set_option maxHeartbeats 400000 in
theorem chainO_any (h:Run w base b x evs) (a bb:Nat) (ha:a < 18446744073709551616) (hb:bb < 18446744073709551616) :
   Calls Tryz.prog 163 #[.pointer (some ⟨b,0,none⟩),.pointer (some ⟨b,18,none⟩),.int .u64 a,.int .u64 bb] w fun e w'=>e=.returned (.int .u64 ((addF a bb x.st.of_).1:Nat))∧Below base w w'∧Run w' base b { x with st:={ x.st with of_:=(addF a bb x.st.of_).2 } } evs:=by
 have HA:=Lh (Add_any a bb x.st.of_ w ha hb)
 have H:=Lh h
 obtain ⟨_,c17,c18,_⟩:=h.cells
 have f17:=h.frozen 18
 clear h
 go_enter Tryz.func163,Tryz.ntmps163
 go_wp2_with ((with_reducible refine (HA.out).mono ?_);rintro e w1 ⟨rfl,rfl⟩)
 go_ret
 exact ⟨rfl,(Below.refl _ _).setCell H.out.le _,H.out.setOf _⟩
theorem pick_any (c:Bool) (a bb:Nat) (w:World) :
   Calls Tryz.prog 166 #[.bool c,.int .u64 a,.int .u64 bb] w fun e w'=>e=.returned (.int .u64 ((if c then a else bb:Nat)))∧w=w':=by
 cases c <;>
 · go_enter Tryz.func166,Tryz.ntmps166
   go_wp2
   go_ret
   exact ⟨rfl,rfl⟩
theorem Run.seen {w w':World} {base b:Nat} {x:Stp} {evs evs':List Ev} (h:Run w base b x evs) {v:Value} (hk:w'.heap[b]? = w.heap[b]?) (hrow:w'.ownsRow base 56 2 v evs'.length (evs'.map evRow).flatten) (hf:evs'.length≤100) :
   Run (w'.setCell ⟨b,30,none⟩ v) base b { x with l:=v } evs':=by
 have hne:∀ g,v.ownBlock=some g→g≠b:=by
   intro g hg e
   subst e
   rcases hrow.2 with ⟨h1,_⟩ | ⟨g',cap,cur,h1,_,h2,_⟩
   · rw [h1] at hg;cases hg
   · rw [h1] at hg
     cases hg
     rw [hk,h.at_] at h2
     injection h2 with h2
     injection h2 with _ h2
     exact absurd h2 (by decide)
 refine ⟨?_,h.ok,h.le,own_keep2 hrow fun g hg=>Below.heap_setCell _ _ _ _ (hne g hg),hf⟩
 rw [World.setCell,←set_l x h.ok.len v]
 simp only [Array.getElem?_modify,if_pos,hk,h.at_,Option.map_some]
 simp
set_option maxHeartbeats 400000 in
theorem see_any (h:Run w base b x evs) (kind:Int) (at_:Nat) (hf:evs.length≤90) :
   Calls Tryz.prog 91 #[.pointer (some ⟨b,0,none⟩),.int .i64 kind,.int .u64 at_] w fun e w'=>e=.returned (.tuple #[])∧Below base w w'∧∃ v,Run w' base b { x with l:=v } (evs++[⟨kind,at_⟩]):=by
 obtain ⟨i0,hi,hz0,hz1,hz2⟩:=info_parts infoEv
 have H:=Lh h
 obtain ⟨_,_,_,_,_,_,_,_,_,_,_,_,_,_,c30,_⟩:=h.cells
 have f30:=h.frozen 30
 have hbl:=h.lt
 have HBS:=Lh h.base_le
 have hrow:=h.row
 obtain ⟨A30,cp,hxl⟩:∃ A30 cp,x.l=.slice A30 evs.length cp:=by
   rcases hrow.2 with ⟨h1,h2⟩ | ⟨g',cap',cur,hv,_⟩
   · exact ⟨none,0,by rw [h1,h2]⟩
   · exact ⟨_,_,hv⟩
 rw [hxl] at hrow c30
 have hap:∀ k,(Value.slice A30 evs.length cp).ownBlock=some k→k≠b:=by rw [←hxl];exact h.apart
 have HROW:=Lh hrow
 generalize hen:evs.length=n at *
 have HEN:=Lh hen
 have HAP:=Lh hap
 clear h hrow hxl hen hap
 go_enter Tryz.func91,Tryz.ntmps91
 go_wp2_with ((at_builtin;refine wpList_append_own_at _ rfl _ _ 33 rfl base 56 i0 (.agg #[.int .i64 0,.int .u64 0]) 2 16 Tryz.underlying33 hi hz0 hz1 hz2 rfl (by decide) _ n _ rfl (HROW.out.alloc _) ⟨w.heap.size,0,none⟩ 1 1 [.int .i64 kind,.int .u64 at_] rfl (by simp) (World.news_of_block (cs:=#[.int .i64 kind,.int .u64 at_]) (t:=56) (fr:=(0,0)) (heap_alloc_new w _)) (by simp [Value.oneCell']) (by unfold maxLen;omega) (by omega) (by have:=HBS.out;simp;omega) ?_);intro v w1 hown hg _ _;obtain ⟨A31,cp31,rfl⟩:∃ A c,v=.slice A (n+1) c:=by { rcases hown.2 with ⟨h1,h2⟩ | ⟨g',cap',cur,hv,_⟩;exact absurd h2 (by omega);exact ⟨_,_,hv⟩ };have hne:some b≠(Value.slice A30 n cp).ownBlock:=fun e=>HAP.out b e.symm rfl;have c30':=hg.cell (a:=⟨b,30,none⟩) (v:=.slice A30 n cp) (by go_simp) hne;have f30':=World.frozen?_of_block (a:=⟨b,30,none⟩) (hg.block b (by simp;omega) hne);rw [show (w.alloc (.cells #[.int .i64 kind,.int .u64 at_] 56)).frozen? ⟨b,30,none⟩=false by go_simp] at f30';have HO:=Lh hown;have HG:=Lh hg;clear hown hg hne)
 go_end0
 have hlast:(evs++[(⟨kind,at_⟩:Ev)]).length=n+1:=by rw [List.length_append,HEN.out];rfl
 have hk:w1.heap[b]? = w.heap[b]?:=(HG.out.block b (by simp;omega) (fun e=>HAP.out b e.symm rfl)).trans (Below.heap_alloc _ _ _ hbl)
 refine ⟨rfl,?_,_,H.out.seen hk ?_ (by omega)⟩
 · exact (((Below.refl _ _).alloc HBS.out _).grown HG.out (by have:=HBS.out;simp;omega) (fun k hk=>(own_lt HROW.out k hk).2)).setCell H.out.le _
 · rw [hlast,List.map_append,List.flatten_append];exact HO.out
end Go.Proofs.YtocndimihokcmaaGreat
