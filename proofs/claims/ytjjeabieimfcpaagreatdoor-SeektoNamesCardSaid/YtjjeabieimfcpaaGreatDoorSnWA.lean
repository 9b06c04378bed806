/- A part of a proof (see the text that ends in Proof). No conditions. -/
import Derived.Test.YtjjeabieimfcpaaGreatDoorSnPA
import Derived.KernelRfl
set_option linter.unusedVariables false
set_option linter.unusedSimpArgs false
namespace Go.Lv
theorem jP:YA=17179869184:=by decide
theorem pM{α:Type}{n:Int}{z:α}(h:0<=n:=by omega)(h':n<=17179869184:=by omega):ZO n z=some (List.replicate n.toNat z):=by rw[ZO,jP,uD ⟨h,h'⟩]
theorem fS{b:Bool}(h:b=true):Dy b=some ():=by rw[h];rfl
theorem As{α β:Type}(a:α)(f:α->Option β):Option.bind (some a) f=f a:=rfl
def nN:List UInt8->Nat
 |[]=>0
 |x::r=>x.toNat+256*nN r
def lC(p:List UInt8)(i:Nat):Nat:=(p.getD (i/8) 0).toNat/2^(i %8) %2
def Ml(p:List UInt8):Nat->Nat->Nat
 |_,0=>0
 |a,n+1=>lC p a+2*Ml p (a+1) n
def nW(p:List UInt8)(a n:Nat):List UInt8:=(List.range ((n+7)/8)).map λj=>UInt8.ofNat (Ml p (a+8*j) (min 8 (n-8*j)))
end Go.Lv
namespace Go.Pl
open Go Go.Lv
def part(b:List UInt8)(at' w:Nat):List UInt8:=(b.take (at'+w)).drop at'
def room(p:List UInt8)(a n:Nat):List UInt8:=if n %8=0 then nW p a n++[0]else nW p a n
def qQ(p:List UInt8):Nat->Nat->Nat
 |_,0=>0
 |a,m+1=>if lC p a=1 then 1+qQ p (a+1) m else 0
def kL(s n:UInt64):UInt64:=s+n-s/16
def kS(k:Nat)(s:UInt64):Nat:=if 0<k/\s.toNat<2^(k+4)then k-1 else if k<24/\2^(k+5)<s.toNat then k+1 else k
def qL(v:UInt32):UInt64:=UInt64.ofNat v.toNat
def lF(k:Nat)(v:UInt32):UInt32:=UInt32.ofNat (v.toNat-2^k)
def lK(l:Nat)(t:UInt64)(k:Nat)(v:UInt32):Nat:=if v.toNat<2^k then l else kS l (kL t (qL (lF k v)))
def lT(t:UInt64)(k:Nat)(v:UInt32):UInt64:=if v.toNat<2^k then t else kL t (qL (lF k v))
abbrev Rd:=UInt32×Int×Int×Int×UInt64×UInt64×Int
abbrev nO:=Nat×Nat×UInt64×UInt64
def sL(d:nO)(v:UInt32):nO:=(kS d.1 (kL d.2.2.1 (qL v)),lK d.2.1 d.2.2.2 d.1 v,kL d.2.2.1 (qL v),lT d.2.2.2 d.1 v)
def mY:nO:=(10,10,16384,16384)
abbrev sP:=Int×Int×UInt64×UInt64×Unit
def qX(d:nO):sP:=((d.1:Int),(d.2.1:Int),d.2.2.1,d.2.2.2,())
def qT(ch:Nat)(v:List UInt32)(c:Nat):Nat->nO
 |0=>mY
 |m+1=>if m %ch=c then sL (qT ch v c m) (v.getD m 0)else qT ch v c m
def now(ch:Nat)(v:List UInt32):nO:=qT ch v (v.length %ch) v.length
def lH(t p:List Int32):Nat->Int32
 |0=>0
 |i+1=>lH t p i+t.getD i 0*p.getD i 0
def half(s:Int):Int32:=if s=9 then 256 else 512
def gF(s:Int)(t p:List Int32):Int32:=Int32.ofInt ((half s+lH t p 16).toInt.fdiv (if s=9 then 512 else 1024))
def sO(i:Nat):Int32:=if i=0 then 4 else if i<4 then 2 else 1
def sg(x:Int32):Int32:=if x.toInt<0 then -1 else if 0<x.toInt then 1 else 0
def sI(t p:List Int32)(w:Int32):List Int32:=(List.range 16).map λi=>t.getD i 0+sO i*sg (p.getD i 0)*sg w
def sB(bits:Int):Int:=if bits=16 then 9 else 10
def sM(bits:Int):Int:=if bits=8 then 4 else 5
def gs(sh:Int)(last:Int32):Int32:=Am (ZD (Af (Ey (Am last:Int) sh.toNat) (Am last)) sh.toNat)
def nX(n:UInt32):Int32:=if n.toNat %2=0 then Int32.ofInt ((n.toNat/2:Nat):Int)else Int32.ofInt (-((n.toNat/2:Nat):Int)-1)
def pre{α:Type}(ch c:Nat)(f:α->Nat->α)(a0:α):Nat->α
 |0=>a0
 |m+1=>if m %ch=c then f (pre ch c f a0 m) m else pre ch c f a0 m
abbrev CS:=Int32×List Int32×List Int32
def nU(bits:Int)(s:CS)(y:Int32):Int32:=y+gF (sB bits) s.2.1 s.2.2+gs (sM bits) s.1
def pB(bits:Int)(s:CS)(y:Int32):CS:=(nU bits s y,sI s.2.1 s.2.2 y,(y+gF (sB bits) s.2.1 s.2.2)::s.2.2.take 15)
def cst(bits:Int)(ch:Nat)(t:List Int32)(v:List UInt32)(c:Nat):Nat->CS:=pre ch c (λs i=>pB bits s (nX (v.getD i 0))) (0,t,List.replicate 16 0)
def hB(bits:Int):Int:=if bits=8 then 128 else if bits=16 then 32768 else 8388608
def u8(z:Int):UInt8:=UInt8.ofNat (z %256).toNat
theorem kM{n:Nat}(h:n<18446744073709551616):(UInt64.ofNat n).toNat=n:=by rw[vH,vR h]
theorem mul_one(m:Nat)(h:m<=100000):Kw (1:UInt64) (UInt64.ofNat m)=some (0,UInt64.ofNat m):=by
 have y1:(UInt64.ofNat m).toNat=m:=kM (by omega);have s1:Bp (1:UInt64) (GI.toZ (32:UInt64)).toNat=0:=by decide
 have s2:Bp (UInt64.ofNat m) (GI.toZ (32:UInt64)).toNat=0:=by
  apply UInt64.toNat_inj.1;rw[gG,y1];exact Nat.div_eq_of_lt (Nat.lt_of_le_of_lt h (by decide))
 have s0:Bp (0:UInt64) (GI.toZ (32:UInt64)).toNat=0:=by decide
 have a1:Cp (1:UInt64) (4294967295:UInt64)=1:=by decide
 have a0:Cp (0:UInt64) (4294967295:UInt64)=0:=by decide
 have a2:Cp (UInt64.ofNat m) (4294967295:UInt64)=UInt64.ofNat m:=by
  apply UInt64.toNat_inj.1;rw[fK,UInt64.toNat_and,y1]
  show m&&& (2^32-1)=m;rw[Nat.and_two_pow_sub_one_eq_mod,vR (by omega)]
 have m1:∀x:UInt64,Di 1 x=x:=λx=>by rw[WG,UInt64.one_mul]
 have m0:∀x:UInt64,Di 0 x=0:=λx=>by rw[WG,UInt64.zero_mul]
 have p0:∀x:UInt64,Aa 0 x=x:=λx=>by rw[WQ,UInt64.zero_add]
 have p1:∀x:UInt64,Aa x 0=x:=λx=>by rw[WQ,UInt64.add_zero]
 rw[Kw,Ls];simp only[s1,s2,a1,a2,m1,m0,p0,p1,s0,a0,As]
def f0(b:List UInt8):Nat:=nN (part b 4 2)
def f1(b:List UInt8):Nat:=nN (part b 6 2)
def f2(b:List UInt8):Nat:=nN (part b 8 2)
def f3(b:List UInt8):Nat:=nN (part b 10 4)
def f4(b:List UInt8):Nat:=nN (part b 14 4)
abbrev sT:=Int×Int×Int×Int×Int×Int×(List Int)×Int
def WJ(e:Int):sT:=(0,0,0,0,0,0,[],e)
theorem cG{b p:List UInt8}{e:Int}(he:e≠0)(h:Ci b p=some (WJ e))(k:Int):Bw b p k=some ([],e):=by
 rw[Bw,Lp,h,As,WJ];simp only;rw[uD (by rw[VC];simpa using he),Lt,Uo,uD (by rw[VC];simpa using he)]
theorem kK:Ff=some true:=by kernel_rfl
theorem gD{b p:List UInt8}{e:Int}(he:e≠0)(h:Ci b p=some (WJ e))(k:Int):Bk b p k=some ([],e):=by
 rw[Bk,Nj,h,As,WJ];simp only;rw[uD (by rw[VC];simpa using he),Lu,Ma,uD (by rw[VC];simpa using he)]
theorem mG{b p:List UInt8}{e:Int}(he:e≠0)(h:Ci b p=some (WJ e))(k:Int):Jc b p k=some ([],e):=by
 rw[Jc,h,As,WJ];simp only;rw[uD (by rw[VC];simpa using he)]
def RF:LB:=[84,84,65,49,1,0,1,0,8,0,1,0,0,0,2,0,0,0,223,215,22,71,6,0,0,0,6,0,0,0,50,137,38,134,4,0,251,215,181,37,8,0,247,152,0,137]
def oZ:LB:=[84,84,65,49,2,0,1,0,8,0,1,0,0,0,2,0,0,0,4,242,119,59,160,118,203,71,159,71,36,226,6,0,0,0,6,0,0,0,50,137,38,134,4,0,251,215,181,37,8,0,247,152,0,137]
def lG:LB:=[84,84,65,49,1,0,1,0,8,0,1,0,0,0,2,0,0,0,223,215,23,71,6,0,0,0,6,0,0,0,50,137,38,134,4,0,251,215,181,37,8,0,247,152,0,137]
def kZ:LB:=[84,84,65,49,1,0,1,0,8,0,1,0,0,0,2,0,0,0,223,215,22,71,7,0,0,0,6,0,0,0,50,137,38,134,4,0,251,215,181,37,8,0,247,152,0,137]
def fE:LB:=[84,84,65,49,1,0,1,0,8,0,1,0,0,0,2,0,0,0,223,215,22,71,6,0,0,0,6,0,0,0,50,137,38,134,5,0,251,215,181,37,8,0,247,152,0,137]
def pU:LB:=[84,84,65,49,1,0,1,0,8,0,1,0,0,0,2,0,0,0,223,215,22,71,6,0,0,0,6,0,0,0,50,137,38,134,4,0,251,215,181,37,8,0,247,152,0,137,0]
def pR:LB:=[73,68,51,4,0,0,0,0,0,1,116,84,84,65,49,1,0,1,0,8,0,1,0,0,0,2,0,0,0,223,215,22,71,6,0,0,0,6,0,0,0,50,137,38,134,4,0,251,215,181,37,8,0,247,152,0,137]
def pJ:LB:=[0,0,0,0,0,0,0,0,0,0,0,0,0,0,0,0,0,0,0,0,0,0,0,0,0,0,0,0,0,0,0,0,0,0,0,0,0,0,0,0,0,0,0,0,0,0,0,0,0,0,0,0,0,0,0,0,0,0,0,0,0,0,0,0,0]
def eU:LB:=[84,84,65,49,1,0,1,0,8,0,1,0,0,0,2,0,0,0,223,215,22,71,6,0,0,0,6,0,0,0,50,137,38]
def ZC:LB:=[84,84,65,49,1,0,1,0,8,0,1,0,0,0,2,0,0,0,223,215,22,71,6,0,0,0,6,0,0,0,50,137,38,134]
def eY:LB:=[84,84,65,49,1,0,1,0,8,0,1,0,0,0,2,0,0,0,223,215,22,71,6,0,0,0,6,0,0,0,50,137,38,134,4,0,251,215,181]
def ZP:LB:=[84,84,65,49,1,0,1,0,8,0,1,0,0,0,2,0,0,0,223,215,22,71,6,0,0,0,6,0,0,0,50,137,38,134,4,0,251,215,181,37]
def fF:LB:=[84,84,65,49,2,0,1,0,8,0,1,0,0,0,2,0,0,0,4,242,119,59,160,118,203,71,159,71,36]
theorem eG:Fh=some (RF,true):=by kernel_rfl
theorem dH:Qf 1 8 1 [(1:Int32),(2:Int32)] [120]=some (oZ,0):=by kernel_rfl
theorem Du{b p:LB}{e:Int}(he:e≠0)(ho:Ci b p=some (WJ e)):Ad b p e=some true:=by
 have h1:=cG he ho (-1);have h2:=gD he ho (-1);have h3:=mG he ho (-1);rw[Ad,ho,As,WJ];simp only;rw[h1,As];simp only;rw[h2,As];simp only;rw[h3,As];simp[oP]
theorem mT:Ad (List.replicate 100001 0) [] 4=some true:=by
 have hl:Ac (List.replicate 100001 (0:UInt8))=100001:=by rw[Ac,List.length_replicate];rfl
 refine Du (by decide) ?_;rw[Ci,Nk,uN (by decide),hl,uD (by decide)];rfl
theorem oR:Ad RF pJ 2=some true:=Du (by decide) (by kernel_rfl)
theorem qA:Ad [] [] 24=some true:=Du (by decide) (by kernel_rfl)
theorem pA:Ad [73,68,51] [] 24=some true:=Du (by decide) (by kernel_rfl)
theorem oY:Ad [84,84,65,50] [] 12=some true:=Du (by decide) (by kernel_rfl)
theorem nT:Ad lG [] 22=some true:=Du (by decide) (by kernel_rfl)
theorem pD:Ad RF [120] 26=some true:=Du (by decide) (by kernel_rfl)
theorem pW:Ad oZ [] 26=some true:=Du (by decide) (by kernel_rfl)
theorem nS:Ad fF [120] 24=some true:=Du (by decide) (by kernel_rfl)
theorem nV:Ad oZ [121] 26=some true:=Du (by decide) (by kernel_rfl)
theorem nC:Ad eU [] 24=some true:=Du (by decide) (by kernel_rfl)
theorem nE:Ad kZ [] 22=some true:=Du (by decide) (by kernel_rfl)
theorem qR:Ci ZC []=some (1,1,8,1,2,34,[6,6],0):=by kernel_rfl
theorem pG:Bw eY [] 0=some ([],24):=by kernel_rfl
theorem oA:Bw ZC [] 2=some ([],2):=by kernel_rfl
theorem pX:Bw ZP [] 0=some ([129],0):=by kernel_rfl
theorem qB:Bk ZP [] 0=some ([],24):=by kernel_rfl
theorem oU:Bk RF [] 2=some ([],2):=by kernel_rfl
theorem pN:Jc RF [] 2=some ([],2):=by kernel_rfl
theorem oB:Bk pU [] 1=some ([],38):=by kernel_rfl
theorem oE:Jc oZ [120] 0=some ([129,130],0):=by kernel_rfl
theorem pL:Bk pR [] 0=some ([129,130],0):=by kernel_rfl
theorem pT:Bw fE [] 0=some ([],22):=by kernel_rfl
theorem oS:Bk fE [] 1=some ([130],0):=by kernel_rfl
theorem cD(hal:Ff=some true):Dn=some true:=by
 rw[Dn,Ec]
 try simp only[ZS]
 rw[eG,As];simp only;rw[dH,As];simp only;rw[uN (by decide),show Dp [] RF=some RF from by kernel_rfl,As,show Ah RF 20=some 22 from by kernel_rfl,As,As,As,show Fa RF 20 (Sf (22:UInt8) 1)=some lG from by kernel_rfl,As,As,show Ah RF 22=some 6 from by kernel_rfl,As,As,As,show Fa RF 22 (Sf (6:UInt8) 1)=some kZ from by kernel_rfl,As,show ZO (65:Int) (0:UInt8)=some pJ from by kernel_rfl,As,fS (by decide),As,oR,As,uD rfl,pM,As,fS (by decide),As,show(100001:Int).toNat=100001 from rfl,mT,As,uD rfl];rw[qA,As,uD rfl,pA,As,uD rfl,oY,As,uD rfl,nT,As,uD rfl,pD,As,uD rfl,pW,As,uD rfl,show Dd oZ 0 29=some fF from by kernel_rfl,As,nS,As,uD rfl,nV,As,uD rfl,show Dd RF 0 33=some eU from by kernel_rfl,As,nC,As,uD rfl,nE,As,Eb,Fz]
 try simp only[ZS]
 rw[show Dd RF 0 34=some ZC from by kernel_rfl,As,qR,As];simp only;rw[show Dd RF 0 39=some eY from by kernel_rfl,As,pG,As];simp only;rw[As,oA,As];simp only;rw[show Dd RF 0 40=some ZP from by kernel_rfl,As,pX,As];simp only;rw[As,qB,As];simp only;rw[oU,As];simp only;rw[pN,As];simp only;rw[show Dp [] RF=some RF from by kernel_rfl,As,show Dp RF [0]=some pU from by kernel_rfl,As,oB,As];simp only;rw[oE,As];simp only;rw[show Dp [73,68,51,4,0,0,0,0,0,1,116] RF=some pR from by kernel_rfl,As,pL,As];simp only;rw[As,show Ah RF 34=some 4 from by kernel_rfl,As,As,As,show Fa RF 34 (Sf (4:UInt8) 1)=some fE from by kernel_rfl,As,pT,As];simp only;rw[oS,As];simp only;rw[uD (by decide),hal];rfl
theorem law_SeektoNames:Dn=some true:=cD kK
end Go.Pl
