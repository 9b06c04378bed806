/- A part of a proof (see the text that ends in Proof). No conditions. -/
import Derived.Test.YtjjeabieimfcpaaGreatDoorDnPA
import Derived.KernelRfl
set_option linter.unusedVariables false
set_option linter.unusedSimpArgs false
namespace Go.Lv
theorem lD:ZW=17179869184:=by decide
theorem qG{α:Type}{n:Int}{z:α}(h:0<=n:=by omega)(h':n<=17179869184:=by omega):ZY n z=some (List.replicate n.toNat z):=by rw[ZY,lD,uY ⟨h,h'⟩]
theorem oC{b:Bool}(h:b=true):Ee b=some ():=by rw[h];rfl
theorem Jp{α β:Type}(a:α)(f:α->Option β):Option.bind (some a) f=f a:=rfl
def oX:List UInt8->Nat
 |[]=>0
 |x::r=>x.toNat+256*oX r
end Go.Lv
namespace Go.Pl
open Go Go.Lv
end Go.Pl
namespace Go.Lv
def mR(p:List UInt8)(i:Nat):Nat:=(p.getD (i/8) 0).toNat/2^(i %8) %2
def Mp(p:List UInt8):Nat->Nat->Nat
 |_,0=>0
 |a,n+1=>mR p a+2*Mp p (a+1) n
def pD(p:List UInt8)(a n:Nat):List UInt8:=(List.range ((n+7)/8)).map λj=>UInt8.ofNat (Mp p (a+8*j) (min 8 (n-8*j)))
end Go.Lv
namespace Go.Pl
open Go Go.Lv
def part(b:List UInt8)(at' w:Nat):List UInt8:=(b.take (at'+w)).drop at'
def room(p:List UInt8)(a n:Nat):List UInt8:=if n %8=0 then pD p a n++[0]else pD p a n
def rC(p:List UInt8):Nat->Nat->Nat
 |_,0=>0
 |a,m+1=>if mR p a=1 then 1+rC p (a+1) m else 0
def lZ(s n:UInt64):UInt64:=s+n-s/16
def kS(k:Nat)(s:UInt64):Nat:=if 0<k/\s.toNat<2^(k+4)then k-1 else if k<24/\2^(k+5)<s.toNat then k+1 else k
def qX(v:UInt32):UInt64:=UInt64.ofNat v.toNat
def mU(k:Nat)(v:UInt32):UInt32:=UInt32.ofNat (v.toNat-2^k)
def lK(l:Nat)(t:UInt64)(k:Nat)(v:UInt32):Nat:=if v.toNat<2^k then l else kS l (lZ t (qX (mU k v)))
def lT(t:UInt64)(k:Nat)(v:UInt32):UInt64:=if v.toNat<2^k then t else lZ t (qX (mU k v))
abbrev Rd:=UInt32×Int×Int×Int×UInt64×UInt64×Int
abbrev oY:=Nat×Nat×UInt64×UInt64
def tA(d:oY)(v:UInt32):oY:=(kS d.1 (lZ d.2.2.1 (qX v)),lK d.2.1 d.2.2.2 d.1 v,lZ d.2.2.1 (qX v),lT d.2.2.2 d.1 v)
def oK:oY:=(10,10,16384,16384)
abbrev tE:=Int×Int×UInt64×UInt64×Unit
def rN(d:oY):tE:=((d.1:Int),(d.2.1:Int),d.2.2.1,d.2.2.2,())
def rI(ch:Nat)(v:List UInt32)(c:Nat):Nat->oY
 |0=>oK
 |m+1=>if m %ch=c then tA (rI ch v c m) (v.getD m 0)else rI ch v c m
def now(ch:Nat)(v:List UInt32):oY:=rI ch v (v.length %ch) v.length
def mV(t p:List Int32):Nat->Int32
 |0=>0
 |i+1=>mV t p i+t.getD i 0*p.getD i 0
def half(s:Int):Int32:=if s=9 then 256 else 512
def gF(s:Int)(t p:List Int32):Int32:=Int32.ofInt ((half s+mV t p 16).toInt.fdiv (if s=9 then 512 else 1024))
def tD(i:Nat):Int32:=if i=0 then 4 else if i<4 then 2 else 1
def sg(x:Int32):Int32:=if x.toInt<0 then -1 else if 0<x.toInt then 1 else 0
def sX(t p:List Int32)(w:Int32):List Int32:=(List.range 16).map λi=>t.getD i 0+tD i*sg (p.getD i 0)*sg w
def sB(bits:Int):Int:=if bits=16 then 9 else 10
def tB(bits:Int):Int:=if bits=8 then 4 else 5
def gs(sh:Int)(last:Int32):Int32:=Al (aZ (Ae (Fa (Al last:Int) sh.toNat) (Al last)) sh.toNat)
def pE(n:UInt32):Int32:=if n.toNat %2=0 then Int32.ofInt ((n.toNat/2:Nat):Int)else Int32.ofInt (-((n.toNat/2:Nat):Int)-1)
def pre{α:Type}(ch c:Nat)(f:α->Nat->α)(a0:α):Nat->α
 |0=>a0
 |m+1=>if m %ch=c then f (pre ch c f a0 m) m else pre ch c f a0 m
abbrev CS:=Int32×List Int32×List Int32
def pC(bits:Int)(s:CS)(y:Int32):Int32:=y+gF (sB bits) s.2.1 s.2.2+gs (tB bits) s.1
def pY(bits:Int)(s:CS)(y:Int32):CS:=(pC bits s y,sX s.2.1 s.2.2 y,(y+gF (sB bits) s.2.1 s.2.2)::s.2.2.take 15)
def cst(bits:Int)(ch:Nat)(t:List Int32)(v:List UInt32)(c:Nat):Nat->CS:=pre ch c (λs i=>pY bits s (pE (v.getD i 0))) (0,t,List.replicate 16 0)
def hB(bits:Int):Int:=if bits=8 then 128 else if bits=16 then 32768 else 8388608
def u8(z:Int):UInt8:=UInt8.ofNat (z %256).toNat
theorem mA{n:Nat}(h:n<18446744073709551616):(UInt64.ofNat n).toNat=n:=by rw[vW,wG h]
theorem mul_one(m:Nat)(h:m<=100000):Lb (1:UInt64) (UInt64.ofNat m)=some (0,UInt64.ofNat m):=by
 have y1:(UInt64.ofNat m).toNat=m:=mA (by omega);have s1:Bn (1:UInt64) (GI.toZ (32:UInt64)).toNat=0:=by decide
 have s2:Bn (UInt64.ofNat m) (GI.toZ (32:UInt64)).toNat=0:=by
  apply UInt64.toNat_inj.1;rw[iP,y1];exact Nat.div_eq_of_lt (Nat.lt_of_le_of_lt h (by decide))
 have s0:Bn (0:UInt64) (GI.toZ (32:UInt64)).toNat=0:=by decide
 have a1:Ck (1:UInt64) (4294967295:UInt64)=1:=by decide
 have a0:Ck (0:UInt64) (4294967295:UInt64)=0:=by decide
 have a2:Ck (UInt64.ofNat m) (4294967295:UInt64)=UInt64.ofNat m:=by
  apply UInt64.toNat_inj.1;rw[gY,UInt64.toNat_and,y1]
  show m&&& (2^32-1)=m;rw[Nat.and_two_pow_sub_one_eq_mod,wG (by omega)]
 have m1:∀x:UInt64,Cq 1 x=x:=λx=>by rw[YH,UInt64.one_mul]
 have m0:∀x:UInt64,Cq 0 x=0:=λx=>by rw[YH,UInt64.zero_mul]
 have p0:∀x:UInt64,Aa 0 x=x:=λx=>by rw[YO,UInt64.zero_add]
 have p1:∀x:UInt64,Aa x 0=x:=λx=>by rw[YO,UInt64.add_zero]
 rw[Lb,Ma];simp only[s1,s2,a1,a2,m1,m0,p0,p1,s0,a0,Jp]
def f0(b:List UInt8):Nat:=oX (part b 4 2)
def f1(b:List UInt8):Nat:=oX (part b 6 2)
def f2(b:List UInt8):Nat:=oX (part b 8 2)
def f3(b:List UInt8):Nat:=oX (part b 10 4)
def f4(b:List UInt8):Nat:=oX (part b 14 4)
abbrev tI:=Int×Int×Int×Int×Int×Int×(List Int)×Int
def qA(e:Int):tI:=(0,0,0,0,0,0,[],e)
def mW:LB:=[84,84,65,49,1,0,1,0,8,0,1,0,0,0,2,0,0,0,223,215,22,71,6,0,0,0,6,0,0,0,50,137,38,134,4,0,251,215,181,37,8,0,247,152,0,137]
def qY:LB:=[84,84,65,49,2,0,1,0,8,0,1,0,0,0,2,0,0,0,4,242,119,59,160,118,203,71,159,71,36,226,6,0,0,0,6,0,0,0,50,137,38,134,4,0,251,215,181,37,8,0,247,152,0,137]
def rJ:LB:=[73,68,51,4,0,0,0,0,0,1,116,84,84,65,49,1,0,1,0,8,0,1,0,0,0,2,0,0,0,223,215,22,71,6,0,0,0,6,0,0,0,50,137,38,134,4,0,251,215,181,37,8,0,247,152,0,137]
def rG:LB:=[65,80,69,84,65,71,69,88,208,7,0,0,32,0,0,0,0,0,0,0,0,0,0,0,0,0,0,0,0,0,0,0]
def rO:LB:=mW++rG
theorem fQ:Ao (List.replicate 100001 0) [] 4 0 0 0=some true:=by
 have hl:Ac (List.replicate 100001 (0:UInt8))=100001:=by rw[Ac,List.length_replicate];rfl
 have hc:Ui (List.replicate 100001 0) []=some (0,0,0,[],4):=by
  rw[Ui,Rb,vC (by decide),Qb,hl,uY (by decide),Jp];rfl
 have ho:Ji (List.replicate 100001 0) []=some (qA 4):=by
  rw[Ji,Nr,vC (by decide),hl,uY (by decide)];rfl
 have hf:Mt (List.replicate 100001 0) [] 4=some 0:=by rw[Mt,hl,uY (by decide)]
 rw[Ao,Le,Pa,vC (by decide),Qu,hc,Jp];simp only;rw[Jp,ho,Jp,qA];simp only;rw[uY (by decide),hf];rfl
theorem rF(K:LB->Int->Int->Int->Int->Int->Int->Int->Int->Int->Int->Int->Int->LB->Option Bool):Cs K=K mW 2 2 2 2 2 2 2 2 2 2 2 24 qY:=by
 unfold Cs
 try simp only[bM]
 kernel_rfl
theorem rH(K:LB->Int->Int->Int->Int->Int->Int->Int->Int->Int->Int->Int->Int->LB->LB->Bool->Option Bool)(b f g h k m n o p u v w:Int):Ct K mW b f g h k m n o p u v w qY=K qY b f g h k m n o p u v w rJ rO true:=by
 unfold Ct
 try simp only[bM]
 rw[show Dh [73,68,51,4,0,0,0,0,0,1,116] mW=some rJ from by kernel_rfl,Jp,show ZY (8:Int) (0:UInt8)=some [0,0,0,0,0,0,0,0]from by kernel_rfl,Jp,show Dh [65,80,69,84,65,71,69,88,208,7,0,0,32,0,0,0,0,0,0,0,0,0,0,0] [0,0,0,0,0,0,0,0]=some rG from by kernel_rfl,Jp,show Dh [] mW=some mW from by kernel_rfl,Jp,show Dh mW rG=some rO from by kernel_rfl,Jp,show Ao mW [] 0 0 0 2=some true from by kernel_rfl,Jp,uY rfl,qG,Jp,oC (by decide),Jp,show(100001:Int).toNat=100001 from rfl,fQ,Jp,uY rfl];kernel_rfl
theorem rE:Eb qY 2 2 2 2 2 2 2 2 2 2 2 24 rJ rO true=some true:=by kernel_rfl
theorem law_DamageNames:Et=some true:=by
 rw[Et,rF,Ed,rH,rE]
end Go.Pl
