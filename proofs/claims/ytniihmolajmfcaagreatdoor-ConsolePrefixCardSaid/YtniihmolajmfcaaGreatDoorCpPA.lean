/- A part of a proof (see the text that ends in Proof). No conditions. -/
import Derived.Test.YtniihmolajmfcaaGreatDoorCpBA
import Derived.Lib.AtoiAllCases
set_option linter.unusedVariables false
namespace Go.Pl
open Go Go.Lv
abbrev Jz3(R:Type):=Int->Int->Int->R
abbrev Jz4(R:Type):=Int->Int->Int->Int->R
abbrev Jz5(R:Type):=Int->Int->Int->Int->Int->R
abbrev Jz6(R:Type):=Int->Int->Int->Int->Int->Int->R
abbrev Jz7(R:Type):=Int->Int->Int->Int->Int->Int->Int->R
abbrev Jz8(R:Type):=Int->Int->Int->Int->Int->Int->Int->Int->R
abbrev Jz9(R:Type):=Int->Int->Int->Int->Int->Int->Int->Int->Int->R
abbrev Jz10(R:Type):=Int->Int->Int->Int->Int->Int->Int->Int->Int->Int->R
abbrev Jz11(R:Type):=Int->Int->Int->Int->Int->Int->Int->Int->Int->Int->Int->R
abbrev LB:=List UInt8
abbrev LI:=List Int
abbrev LX:=List Int32
abbrev LU:=List UInt32
abbrev LQ:=List UInt64
abbrev Bbf:=List LB
abbrev Bdn:=Int->LB->Option (LB)
abbrev Bcm:=(List LB)->LB->Int->Option (LB)
abbrev Bcl:=Bool->Option Int
abbrev Bbe:=Option Int
abbrev Bbv:=List (LB×LB×Unit)
abbrev Bc4:=List LI
abbrev Bbl:=List (UInt8×Int×Unit)
variable(z e:LB)(l:LI)(c d j C E N Azs Az5 Az6 Az7 Bau:Int)(I:LI)(B:LX)(Az8:LI)(i o9:LB)(A V l5 Azv Azw:Int)(Bae:LI)(Azx:Int)(P:LB)(D:Bool)(G o7:Int)(Bah:LI)(Z:LB)(Bay:LI)(R:LX)(M:Bbf)(l6:LB)(Az9:Bool)(p8 Az3:Int)(J:UInt8)(L U Ba0 Ba1 Ba2 Ba3:Int)(Bai:Bbf)(Ba4 Ba5 Ba6:Int)(y7:LB)(Baa:Bool)(Ba7:Int)(Baj:LB)(Az4:LX)(Bak:LB)(Ba8:Bool)(Ba9:Int)(Bba:LB)(Bav:Bbf)(Azy:LB->Option (LB))(Azz:Bdn)(Bal Bam:Int)(F:UInt64)(q9:Int)(o8:LB)(X:UInt32)(l7:UInt64)(Baf:LB)(w9 Bbb Bbc:Int)(Baw Bbd:UInt64)(O:Int32)(Az0:Int)(y8 y5:LX)(Azt:Int32)(Bab:Bbf)(y9:Int)(Azu:LB)(l8:LU)(Az1 Az2:Int)(Ban:LX)(Bao:LQ)(Bap:Bcm)(Bag:Bbf)(Bax:LB)(Y:Bcl)(p9:Bool)(Bac:Int)(Baq:Bbe)(Bas:Bool)(q8:Bbv)(Bat:Bc4)(l9:Bbl)
def strings_Count:Bbe:=match e with
|[c]=>some (Int.ofNat (z.count c))
|_=>none
abbrev Bbg:=Option Bool
def Cx:Bbg:=if(Ft (Aa z) (Aa e))then(Bg z (As (Aa z) (Aa e)) (Aa z)).bind λc=>some (c==e)
else
some false
def Qy:Bbg:=(Cx z e).bind λc=>some c
def UN:Bbe:=if(z !=([]:LB))then(Qy z ([10]:LB)).bind λc=>if(!c)then
some 12
else
some 0
else
some 0
def RB:=UN
def VY(j2:LB->Option Int)(a:LB):Bbe:=if(Dp (Aa a) 3000)then
some 4
else(strings_Count a ([10]:LB)).bind λf=>if(Dp f 40)then
some 4
else
j2 a
def Px:=VY RB
abbrev Bbw:=Option (Int×Int)
def Ux:Bbw:=(Px z).bind λc=>if(Ay c 0)then
some (0,c)
else(strings_Count z ([10]:LB)).bind λd=>some (d,0)
def Gt:LB->UInt8->Int
|[],_=> -1
|b::l,c=>if(b==c)=true then 0 else if(Gt l c== -1)=true then -1 else Gt l c+1
def strings_Index:Bbe:=match e with
|[c]=>some (Gt z c)
|_=>none
def stringslite_IndexByte:Bbe:=some (Gt z J)
def Ds:Bbe:=(stringslite_IndexByte z J).bind λc=>some c
def Ud:Nat->LB->List LB
|0,_=>[]
|_+1,[]=>[]
|q+1,c::s=>if Bw (Gt (c::s) 10) 0=true then [c::s]else(c::s).take ((Gt (c::s) 10).toNat+1)::Ud q ((c::s).drop ((Gt (c::s) 10).toNat+1))
def Se:Nat->LB->List LB
|0,_=>[]
|z+1,c=>if Bw (Gt c J) 0=true then [c]else c.take (Gt c J).toNat::Se z (c.drop ((Gt c J).toNat+1))
def BS:LB->List LB
|[]=>[]
|[a]=>[[a]]
|a::b::r=>[a,b]::BS r
abbrev Bdc:=Option (List LB)
def r!:Bdc:=Option.bind (Ew (decide (Aa z<=17179869184))) λ_=>some (Ud (z.length+1) z)
def U!:Bdc:=Option.bind (Ew (decide (Aa y7<=17179869184))) λ_=>some (Se J (y7.length+1) y7)
def e!:Bdc:=Option.bind (Ew (decide (Aa z<=17179869184))) λ_=>some (BS z)
def dgt:Nat->Nat->LB->LB
|0,_,a=>a
|q+1,n,a=>if n<10 then UInt8.ofNat (48+n)::a else dgt q (n/10) (UInt8.ofNat (48+n %10)::a)
def strconv_Itoa:Option LB:=if decide (-9223372036854775808<=c/\c<=9223372036854775807)=true then some (if c<0 then 45::dgt 20 c.natAbs []else dgt 20 c.toNat [])else none
abbrev Bbh:=Option (LB)
def Aj:Bbh:=(strconv_Itoa c).bind λz=>(Ba ([101,114,114,111,114,32]:LB) z).bind λd=>some d
def fJ:Bbh:=(Ew (decide (Aa z<=17179869184))).bind λ_=>some z
def KW:=fJ
def LG:Bbh:=if(Bw w9 (Aa o8))then(Af o8 w9).bind λz=>(Af ([48,49,50,51,52,53,54,55,56,57,97,98,99,100,101,102]:LB) (GI.toZ (Dj z (GI.toZ (4:UInt64)).toNat))).bind λc=>(Ba Azu ([c]:LB)).bind λd=>(Af ([48,49,50,51,52,53,54,55,56,57,97,98,99,100,101,102]:LB) (GI.toZ (Ec z 15))).bind λe=>(Ba d ([e]:LB)).bind λi=>Azz (Ae w9 1) i
else
Azy Azu
def Sk:Nat->Int->LB->Option (LB)
|0,_,_=>none
|c+1,d,e=>LG KW (Sk c) z d e
def Afl a:=Sk a Aq
abbrev Bcv:=LB->Int->LB->Option (LB)
def Zb(j4:Bcv)(a:LB)(h:Int):Bbh:=if(Ay h 0)then(Aj h).bind λp=>some p
else
j4 a 0 ([]:LB)
def Es:=Zb Afl
def Md:Bbg:=some (z==e)
def Lt:Bbg:=if(Ft (Aa z) (Aa e))then(Bg z 0 (Aa e)).bind λc=>(Md c e).bind λd=>some d
else
some false
abbrev Jj:=Option (Int×Int)
def Axj:Jj:=some (c,0)
def VE:=Axj
def SH(j6:Int->Jj)(Yp:Int->Int->Jj)(a:LB)(b f:Int):Jj:=if(Bw f (Aa a))then(Af a f).bind λg=>if(Dp g 127)then
some (0,12)
else
Yp (gor (Fe b (GI.toZ (7:UInt64)).toNat) (Al g:Int)) (Ae f 1)
else
j6 b
def Sp:Nat->Int->Int->Jj
|0,_,_=>none
|c+1,d,e=>SH VE (Sp c) z d e
def Awt a:=Sp a Aq
def US(j4:LB->Int->Int->Jj)(a:LB):Jj:=if(Ay (Aa a) 4)then
some (0,2)
else
j4 a 0 0
def QA:=US Awt
abbrev Hb:=Option (Int×Int)
def Abm:Hb:=if(Dp L 4000)then
some (0,4)
else
if(Bw (Aa z) L)then
some (0,24)
else
if(geq J 16)then(Bg z (As L 10) L).bind λc=>(Bg c 0 3).bind λd=>if(d !=([51,68,73]:LB))then
some (0,12)
else(Bg c 3 (Aa c)).bind λe=>(Bg z 3 10).bind λi=>(Md e i).bind λj=>if(!j)then
some (0,12)
else
some (L,0)
else
some (L,0)
def Aba:=Abm
def Ac4(j8:LB->UInt8->Int->Hb)(a:LB)(g:Int)(b:UInt8):Hb:=if(geq b 16)then
j8 a b (Ae (Ae g 10) 10)
else
j8 a b (Ae g 10)
def Acz:=Ac4 Aba
def Aag(j7:LB->Int->UInt8->Hb)(a:LB)(g:Int)(b:UInt8)(m:Bool):Hb:=if m then
some (0,12)
else
j7 a g b
def FK:=Aag Acz
def bU(j6:LB->Int->UInt8->Bool->Hb)(a:LB)(f b:UInt8):Hb:=(Bg a 6 10).bind λaa=>(QA aa).bind λ(g,ab)=>if(Ay ab 0)then
if true then
j6 a g b true
else
if(geq b 0)then
j6 a g b (!((Ft f 2)&&(TL f 4)))
else
if(geq b 16)then
j6 a g b (!(geq f 4))
else
j6 a g b (!false)
else(Af a 4).bind λac=>if(Ay ac 0)then
j6 a g b true
else
if(geq b 0)then
j6 a g b (!((Ft f 2)&&(TL f 4)))
else
if(geq b 16)then
j6 a g b (!(geq f 4))
else
j6 a g b (!false)
def aP:=bU FK
def FP(j5:LB->UInt8->UInt8->Hb)(a:LB):Hb:=(Lt a ([(73:UInt8),(68:UInt8),(51:UInt8)]:LB)).bind λn=>if(!n)then
some (0,6)
else
if(Bw (Aa a) 10)then
some (0,24)
else(Af a 3).bind λf=>(Af a 5).bind λb=>(
(
(
j5 a f b)))
def WS:=FP aP
abbrev Xa:=Option (UInt64×Int)
def xq:Xa:=some (F,0)
def zR:=xq
def zX(j6:UInt64->Xa)(Yp:UInt64->Int->Xa)(a:LB)(f:UInt64)(b:Int):Xa:=if(Bw b (Aa a))then(Af a b).bind λg=>(Ew (Ft (Cf 8 b) 0)).bind λ_=>Yp (gor f (Fe (Al g:UInt64) (GI.toZ (Cf 8 b)).toNat)) (Ae b 1)
else
j6 f
def MY:Nat->UInt64->Int->Xa
|0,_,_=>none
|c+1,d,e=>zX zR (MY c) z d e
def xw a:=MY a Aq
def C1(j4:LB->UInt64->Int->Xa)(a:LB):Xa:=if((Bw (Aa a) 1)||(Dp (Aa a) 8))then
some (0,2)
else
j4 a 0 0
def rA:=C1 xw
abbrev Bcp:=Option (UInt64×Int)
def B4:Bcp:=if(((Bw d 1)||(Dp d 8))||(Bw c 0))then
some (0,2)
else
if(Dp c (As (Aa z) d))then
some (0,24)
else(Bg z c (Ae c d)).bind λe=>(rA e).bind λ(i,j)=>some (i,j)
def W? (b:UInt64)(a:Int):Bbg:=if(geq a 8)then
some true
else(Ew (Ft (Cf 8 a) 0)).bind λ_=>some (geq (Dj b (GI.toZ (Cf 8 a)).toNat) 0)
abbrev Wy:=Option (LB×Int)
def yG:Wy:=some (z,0)
def zK:=yG
def zT(j6:LB->Wy)(Yp:Int->LB->Wy)(f:UInt64)(g:LB)(a:Int)(b:LB):Wy:=if(Bw a (Aa g))then(Ew (Ft (Cf 8 a) 0)).bind λ_=>(Af b a).bind λ_=>(Me b a (Al (Dj f (GI.toZ (Cf 8 a)).toNat):UInt8)).bind λk=>Yp (Ae a 1) k
else
j6 b
def OE:Nat->Int->LB->Wy
|0,_,_=>none
|z+1,c,d=>zT zK (OE z) F o8 c d
def yI f g:=OE f g Aq
def zY(j4:UInt64->LB->Int->LB->Wy)(f:UInt64)(h:Int):Wy:=if((Bw h 1)||(Dp h 8))then
some (([]:LB),2)
else(W? f h).bind λm=>if(!m)then
some (([]:LB),16)
else(mkI h (0:UInt8)).bind λg=>(Ew (geq h h)).bind λ_=>j4 f g 0 g
def Ly:=zY yI
def Aej:Bbh:=some z
def X9:=Aej
def Y9:Bbh:=if(Bw q9 (Aa ([(2000:UInt64),(Al (Ae Bal 32):UInt64),(Al Bam:UInt64),F,(0:UInt64),(0:UInt64)]:LQ)))then(Af ([(2000:UInt64),(Al (Ae Bal 32):UInt64),(Al Bam:UInt64),F,(0:UInt64),(0:UInt64)]:LQ) q9).bind λ_=>(Af ([(2000:UInt64),(Al (Ae Bal 32):UInt64),(Al Bam:UInt64),F,(0:UInt64),(0:UInt64)]:LQ) q9).bind λz=>(Ly z 4).bind λ(c,d)=>(Ba o8 c).bind λe=>Azz (Ae q9 1) e
else
Azy o8
def YX:Nat->Int->LB->Option (LB)
|0,_,_=>none
|z+1,e,i=>Y9 X9 (YX z) c d F e i
def S2 a b f:=YX a b f Aq
def oM(j4:Int->Int->UInt64->Int->LB->Option (LB))(a b:Int)(f:UInt64):Bbh:=j4 a b f 0 ([(65:UInt8),(80:UInt8),(69:UInt8),(84:UInt8),(65:UInt8),(71:UInt8),(69:UInt8),(88:UInt8)]:LB)
def jK:=oM S2
def SN:Option (Int×Int×Bool):=(B4 z 12 4).bind λ(c,d)=>(B4 z 16 4).bind λ(e,i)=>if(((Bw c 32)||(Dp c 3032))||(Dp e 1000))then
some (0,0,false)
else(jK (As (Al c:Int) 32) (Al e:Int) F).bind λj=>(Md z j).bind λl=>some ((As (Al c:Int) 32),(Al e:Int),l)
def xG:Bbw:=(Lt z ([(65:UInt8),(80:UInt8),(69:UInt8),(84:UInt8),(65:UInt8),(71:UInt8),(69:UInt8),(88:UInt8)]:LB)).bind λc=>if(!c)then
some (0,6)
else
if(Bw (Aa z) 32)then
some (0,24)
else(Bg z 0 32).bind λd=>(SN d 2684354560).bind λ(e,i,j)=>if(!j)then
some (0,12)
else
if(Bw (Aa z) (Ae e 64))then
some (0,24)
else(Bg z (As (Ae e 64) 32) (Ae e 64)).bind λl=>(jK e i 2147483648).bind λA=>(Md l A).bind λB=>if(!B)then
some (0,12)
else
some ((Ae e 64),0)
def Wp:Bbw:=(WS z).bind λ(c,d)=>if(Ay d 6)then
some (c,d)
else(xG z).bind λ(e,i)=>some (e,i)
def Ve(b:List UInt8):Nat->Int->Option (Int×Int)
  |0,_=>none
  |q+1,x=>Option.bind (Bg b x (Aa b)) λs=>Option.bind (Wp s) λr=>
    if geq r.2 (6:Int)=true then some (x,0)
    else if(geq r.2 (0:Int)&&Dp (Ae x r.1) (4000:Int))=true then some (0,4)
    else if Ay r.2 (0:Int)=true then some (0,r.2)
    else Ve b q (Ae x r.1)
def Gd(b:List UInt8):Bbw:=Ve b Aq 0
def Hw:Bbg:=if(Ft (Aa z) (Aa e))then(Bg z 0 (Aa e)).bind λc=>some (c==e)
else
some false
def Qs:Bbg:=(Hw z e).bind λc=>some c
abbrev Bp:=Option (UInt32×Int)
def Af5:Bp:=some (X,0)
def dU:=Af5
def gW(j30:UInt32->Bp)(Av5:UInt32->Int->Bp)(a:LB)(b:LU)(h:UInt32)(m:Int):Bp:=if(Bw m (Aa a))then(Af a m).bind λp=>(Af b (GI.toZ (oQ (Al h:UInt8) p))).bind λ_=>(Af b (GI.toZ (oQ (Al h:UInt8) p))).bind λu=>Av5 (oQ (Dj h (GI.toZ (8:UInt64)).toNat) u) (Ae m 1)
else
j30 h
def Zw:Nat->UInt32->Int->Bp
|0,_,_=>none
|c+1,d,e=>gW dU (Zw c) z l8 d e
def fC a b:=Zw a b Aq
def eJ(j28:LB->LU->UInt32->Int->Bp)(f:UInt32)(a:LB)(b:LU):Bp:=j28 a b f 0
def Af7:=eJ fC
def dX(j27:UInt32->LB->LU->Bp)(f:UInt32)(a:LB)(b:LU):Bp:=j27 f a b
def Agb:=dX Af7
abbrev Bdv:=Int->LU->Bp
def Adv(Ff:Bdv)(f:UInt32)(a:LB)(g:Int)(o:LU):Bp:=Ff (Ae g 1) o
def Ark Ff:=Adv Ff
def Aj1(j24:Bdv)(f:UInt32)(a:LB)(g:Int)(k:UInt32)(b:LU):Bp:=(Af b g).bind λ_=>(Me b g k).bind λo=>j24 g o
def eH Ff f a:=Aj1 (Ark Ff f a) f a
def dO(j23:Int->UInt32->LU->Bp)(IE:UInt32->Int->Bp)(f:UInt32)(a:LB)(g:Int)(b:LU)(k:UInt32)(n:Int):Bp:=if(Bw n 8)then
IE (oQ (Dj k (GI.toZ (1:UInt64)).toNat) (Cf 3988292384 (Ec k 1))) (Ae n 1)
else
j23 g k b
def Ze(Ff:Bdv)(f:UInt32)(a:LB)(g:Int)(b:LU):Nat->UInt32->Int->Bp
|0,_,_=>none
|q+1,k,n=>dO (eH Ff f a) (Ze Ff f a g b q) f a g b k n
def cV Ff f a g b:=Ze Ff f a g b Aq
def gX(j21:Int->LU->UInt32->Int->Bp)(j26:UInt32->LB->LU->Bp)(f:UInt32)(a:LB)(g:Int)(b:LU):Bp:=if(Bw g 256)then
j21 g b (Al g:UInt32) 0
else
j26 f a b
def Yz:Nat->Int->LU->Bp
|0,_,_=>none
|z+1,c,d=>gX (cV (Yz z) X Baf) Agb X Baf c d
def Ae9 f a:=Yz f a Aq
def lU(j16:UInt32->LB->Int->LU->Bp)(f:UInt32)(a:LB):Bp:=if(Dp (Aa a) 100000)then
some (0,4)
else
j16 f a 0 (List.replicate 256 (0:UInt32))
def oX:=lU Ae9
def Xm:Option (UInt32×Int):=(oX 4294967295 z).bind λ(c,d)=>if(Ay d 0)then
some (0,d)
else
some ((RN c),0)
def Axg(b f a g h:Int):Bbg:=some (((((((geq b 1)||(geq b 2))&&(Dp f 0))&&(TL f 6))&&(Dp g 0))&&(TL g 1048576))&&(Dp h 0))
def Axn:=Axg
def Ax2(j2:Jz5 (Option Bool))(b f a g h:Int):Bbg:=if(geq a 8)then
if(geq a 8)then
j2 b f a g h
else
some false
else
if(geq a 16)then
if(geq a 16)then
j2 b f a g h
else
some false
else
if(geq a 24)then
j2 b f a g h
else
some false
def DV:=Ax2 Axn
def Jo:Bbw:=if((Bw c 1)||(Dp c 1048576))then
some (0,2)
else
some ((G7 1 (Ex (Cf 256 c) 245)),0)
def Kf:Bbw:=(Jo c).bind λ(z,e)=>if(Ay e 0)then
some (0,e)
else
if((Bw d 1)||(Dp d 4000))then
some (0,2)
else(Ew (Ay z 0)).bind λ_=>if(Dp (Ex (As (Ae d z) 1) z) 1000)then
some (0,4)
else
some ((Ex (As (Ae d z) 1) z),0)
def ON(k a m f b:Int):Bbg:=(Ew (Ay a 0)).bind λ_=>if(Dp b (Ex 4000 a))then
some false
else(Kf f b).bind λ(g,h)=>some ((geq h 0)&&(TL g 1000))
abbrev Mr:=Option (Int×Int×Int×Int×Int×Int)
def At8:Mr:=(Af l 0).bind λ_=>(Af l 0).bind λz=>(Af l 1).bind λ_=>(Af l 1).bind λc=>(Af l 2).bind λ_=>(Af l 2).bind λd=>(Af l 3).bind λ_=>(Af l 3).bind λe=>(Af l 4).bind λ_=>(Af l 4).bind λi=>(DV z c d e i).bind λj=>if(!j)then
some (0,0,0,0,0,12)
else(ON z c d e i).bind λA=>if(!A)then
some (0,0,0,0,0,4)
else
some (z,c,d,e,i,0)
def dE:=At8
def dH(j6:LI->Mr)(Yp:Int->Int->LI->Mr)(b:LB)(g f:Int)(a:LI):Mr:=if(Bw f 5)then(Af ([(2:Int),(2:Int),(2:Int),(4:Int),(4:Int)]:LI) f).bind λh=>(B4 b g h).bind λ(v,ae)=>(Af a f).bind λ_=>(Me a f (Al v:Int)).bind λw=>Yp (Ae g h) (Ae f 1) w
else
j6 a
def Yy:Nat->Int->Int->LI->Mr
|0,_,_,_=>none
|c+1,d,e,i=>dH dE (Yy c) z d e i
def Afk b:=Yy b Aq
def gO(j4:LB->Int->Int->LI->Mr)(b:LB):Mr:=(Bg b 0 (Ge 4 (Aa b))).bind λy=>(Qs ([84,84,65,49]:LB) y).bind λaa=>if(!aa)then
some (0,0,0,0,0,12)
else
if(Bw (Aa b) 22)then
some (0,0,0,0,0,24)
else(B4 b 18 4).bind λ(ab,af)=>(Bg b 0 18).bind λac=>(Xm ac).bind λ(ad,ag)=>if(Ay (Al ad:UInt64) ab)then
some (0,0,0,0,0,22)
else
j4 b 4 0 (List.replicate 5 (0:Int))
def Ka:=gO Afk
abbrev Bq:=Option (UInt64×Int)
def Ajk:Bq:=some (F,0)
def Ajz:=Ajk
def Ado(j30:UInt64->Bq)(h b:UInt64)(a:LB)(f:LQ):Bq:=j30 h
def gB:=Ado Ajz
def eL(j29:UInt64->UInt64->LB->LQ->Bq)(Uk:UInt64->Int->Bq)(a:LB)(b:UInt64)(f:LQ)(h:UInt64)(m:Int):Bq:=if(Bw m (Aa a))then(Af a m).bind λp=>Option.bind (Af f (GI.toZ (oQ (Al (Dj h (GI.toZ (56:UInt64)).toNat):UInt8) p))) λ_=>Option.bind (Af f (GI.toZ (oQ (Al (Dj h (GI.toZ (56:UInt64)).toNat):UInt8) p))) λu=>Uk (oQ (Fe h (GI.toZ (8:UInt64)).toNat) u) (Ae m 1)
else
j29 h b a f
def Zp:Nat->UInt64->Int->Bq
|0,_,_=>none
|c+1,d,e=>eL gB (Zp c) z F Bao d e
def dT a b f:=Zp a b f Aq
def dA(j27:LB->UInt64->LQ->UInt64->Int->Bq)(b:UInt64)(a:LB)(f:LQ):Bq:=j27 a b f b 0
def Ak1:=dA dT
abbrev Bdw:=Int->LQ->Bq
def Adj(Ff:Bdw)(b:UInt64)(a:LB)(g:Int)(o:LQ):Bq:=Ff (Ae g 1) o
def Af3 Ff:=Adj Ff
def Adw(j24:Bdw)(b:UInt64)(a:LB)(g:Int)(k:UInt64)(f:LQ):Bq:=(Af f g).bind λ_=>(Me f g k).bind λo=>j24 g o
def dP Ff b a:=Adw (Af3 Ff b a) b a
def cR(j23:Int->UInt64->LQ->Bq)(IE:UInt64->Int->Bq)(b:UInt64)(a:LB)(g:Int)(f:LQ)(k:UInt64)(n:Int):Bq:=if(Bw n 8)then
IE (oQ (Fe k (GI.toZ (1:UInt64)).toNat) (Cf 4823603603198064275 (Dj k (GI.toZ (63:UInt64)).toNat))) (Ae n 1)
else
j23 g k f
def AT(Ff:Bdw)(b:UInt64)(a:LB)(g:Int)(f:LQ):Nat->UInt64->Int->Bq
|0,_,_=>none
|q+1,k,n=>cR (dP Ff b a) (AT Ff b a g f q) b a g f k n
def iM Ff b a g f:=AT Ff b a g f Aq
def eT(j21:Int->LQ->UInt64->Int->Bq)(j26:UInt64->LB->LQ->Bq)(b:UInt64)(a:LB)(g:Int)(f:LQ):Bq:=if(Bw g 256)then
j21 g f (Fe (Al g:UInt64) (GI.toZ (56:UInt64)).toNat) 0
else
j26 b a f
def BO:Nat->Int->LQ->Bq
|0,_,_=>none
|z+1,c,d=>eT (iM (BO z) F o8) Ak1 F o8 c d
def Agm b a:=BO b a Aq
def mI(j16:UInt64->LB->Int->LQ->Bq)(b:UInt64)(a:LB):Bq:=if(Dp (Aa a) 100000)then
some (0,4)
else
j16 b a 0 (List.replicate 256 (0:UInt64))
def oH:=mI Agm
def jL:Bcp:=(oH 0 z).bind λ(c,d)=>some (c,d)
def xJ:Bcp:=if(Dp (Aa z) 64)then
some (0,2)
else(jL z).bind λ(c,d)=>some (c,0)
abbrev Bb3:=Option (LB×Int)
def HW:Bb3:=(xJ z).bind λ(c,d)=>if(Ay d 0)then
some (([]:LB),d)
else(Ly c 8).bind λ(e,i)=>some (e,i)
abbrev Bc8:=Option (Bool×Int)
def Tn:Bc8:=(HW e).bind λ(c,d)=>if((Ay d 0)||(Ay (Aa z) (Aa c)))then
some (false,2)
else(Md z c).bind λi=>some (i,0)
def HH:Bbe:=(DV c d j C E).bind λz=>if(!z)then
some 8
else(ON c d j C E).bind λe=>if(!e)then
some 8
else
some 0
abbrev Bdh:=Option (UInt64×UInt64)
def GA:Bdh:=some ((Ae (Ae (Cf (Dj F (GI.toZ (32:UInt64)).toNat) (Dj l7 (GI.toZ (32:UInt64)).toNat)) (Dj (Ae (Cf (Dj F (GI.toZ (32:UInt64)).toNat) (Ec l7 4294967295)) (Dj (Cf (Ec F 4294967295) (Ec l7 4294967295)) (GI.toZ (32:UInt64)).toNat)) (GI.toZ (32:UInt64)).toNat)) (Dj (Ae (Ec (Ae (Cf (Dj F (GI.toZ (32:UInt64)).toNat) (Ec l7 4294967295)) (Dj (Cf (Ec F 4294967295) (Ec l7 4294967295)) (GI.toZ (32:UInt64)).toNat)) 4294967295) (Cf (Ec F 4294967295) (Dj l7 (GI.toZ (32:UInt64)).toNat))) (GI.toZ (32:UInt64)).toNat)),(Cf F l7))
def EM:Bdh:=(GA F l7).bind λ(z,c)=>some (z,c)
abbrev Bb1:=Option (LI)
def Li:Bb1:=some l
def Ho:=Li
abbrev Bc0:=Int->LI->Option (LI)
def Fo(j10:LI->Option (LI))(bk8:Bc0)(b:Int)(a:LI):Bb1:=if(Bw b (Aa a))then(
(jN (Aa a) b (Aa a)).bind λ_=>(jN (Aa a) 0 b).bind λ_=>bk8 (Ae b (Cp ((Aa a)-b) (Eg a 0 (b-(0:Int))).length)) (Ok a b ((Aa a)-b) (Eg a 0 (b-(0:Int)))))
else
j10 a
def Ed:Nat->Int->LI->Option (LI)
|0,_,_=>none
|q+1,b,a=>Fo Ho (Ed q) b a
def Vl:=Ed Aq
def Mq(j8:Bc0)(f:LI)(g:UInt64):Bb1:=(mkI (Al g:Int) (0:Int)).bind λk=>(Ew (geq (Al g:Int) (Al g:Int))).bind λ_=>j8 (Cp (Aa k) f.length) (Cq k f)
def Vh:=Mq Vl
def Mi(j7:LI->UInt64->Option (LI))(f:LI)(h:Int):Bb1:=(EM (Al (Aa f):UInt64) (Al h:UInt64)).bind λ(m,g)=>if((Dp m 0)||(Dp g 9223372036854775807))then
none
else
j7 f g
def Vm:=Mi Vh
def Mo(j6:LI->Int->Option (LI))(f:LI)(h:Int):Bb1:=if(Bw h 0)then
none
else
j6 f h
def Ld:=Mo Vm
def Ad6:Bb1:=some l
def Ua:=Ad6
def Ez(j16:LI->Option (LI))(Yq:Bc0)(a:Bc4)(g:Int)(f:LI):Bb1:=if(Bw g (Aa a))then(Af a g).bind λn=>(Ba f n).bind λo=>Yq (Ae g 1) o
else
j16 f
def Dw:Nat->Int->LI->Option (LI)
|0,_,_=>none
|z+1,c,d=>Ez Ua (Dw z) Bat c d
def Lm a:=Dw a Aq
def Lj(j14:(List LI)->Int->LI->Option (LI))(a:Bc4)(p:LI):Bb1:=j14 a 0 p
def Lo:=Lj Lm
def Lk(j13:(List LI)->LI->Option (LI))(b:Int)(a:Bc4):Bb1:=if(Dp (As b (As (0:Int) (0:Int))) 0)then(jN 0 0 0).bind λ_=>(mkI (As b (As (0:Int) (0:Int))) (0:Int)).bind λu=>(Ba ([]:LI) u).bind λk=>(jN (Aa k) 0 0).bind λ_=>j13 a (Eg k 0 ((0:Int)-(0:Int)))
else
j13 a ([]:LI)
def Tw:=Lk Lo
def Lp(j12:Int-> (List LI)->Option (LI))(a:Bc4)(b:Int):Bb1:=if(Bw b 0)then
none
else
j12 b a
def Tv:=Lp Tw
def Fk(j11:(List LI)->Int->Option (LI))(bk9:Int->Int->Option (LI))(a:Bc4)(b h:Int):Bb1:=if(Bw h (Aa a))then(Af a h).bind λm=>if(Bw (Ae b (Aa m)) 0)then
none
else
bk9 (Ae b (Aa m)) (Ae h 1)
else
j11 a b
def Ea:Nat->Int->Int->Option (LI)
|0,_,_=>none
|z+1,c,d=>Fk Tv (Ea z) Bat c d
def Ut a:=Ea a Aq
def Mm(j9:(List LI)->Int->Int->Option (LI))(a:Bc4):Bb1:=j9 a 0 0
def Lb:=Mm Ut
def AK:Bb1:=(Lb ([l,I]:Bc4)).bind λz=>some z
def Of:Option (LI×Int):=(Kf c d).bind λ(z,e)=>if(Ay e 0)then
some (([]:LI),e)
else(Jo c).bind λ(i,j)=>(Ld ([i]:LI) (As z 1)).bind λl=>(AK l ([(As d (Cf (As z 1) i))]:LI)).bind λA=>some (A,0)
def Bn:Option (LI×Int):=(HH c d j C E).bind λz=>if(Ay z 0)then
some (([]:LI),z)
else(Of C E).bind λ(e,i)=>some (e,i)
def Amg:Bbe:=some 0
def jB:=Amg
abbrev Bc1:=Int->Int->Option Int
def iT(j6:Bbe)(Yp:Bc1)(a:LI)(f b:Int):Bbe:=if(Bw b (Aa a))then(Af a b).bind λg=>if((Bw g 5)||(Dp g f))then
some 8
else
Yp (As f g) (Ae b 1)
else
j6
def Zy:Nat->Int->Int->Option Int
|0,_,_=>none
|z+1,c,d=>iT jB (Zy z) l c d
def Amb a:=Zy a Aq
abbrev Bdd:=LI->Int->Int->Option Int
def gL(j4:Bdd)(a:LI):Bbe:=if((geq (Aa a) 0)||(Dp (Aa a) 1000))then
some 8
else
j4 a 100000 0
def Sd:=gL Amb
abbrev Pb:=Option (LI×Int)
def Ab3:Pb:=(Sd l).bind λz=>if(Ay z 0)then
some (([]:LI),12)
else
some (l,0)
def lH:=Ab3
def lW(j6:LI->Pb)(Yp:Int->LI->Pb)(a:LB)(f:LI)(g:Int)(b:LI):Pb:=if(Bw g (Aa f))then(B4 a (Cf 4 g) 4).bind λ(k,u)=>(Af b g).bind λ_=>(Me b g (Al k:Int)).bind λm=>Yp (Ae g 1) m
else
j6 b
def EE:Nat->Int->LI->Pb
|0,_,_=>none
|c+1,d,e=>lW lH (EE c) z l d e
def Azm a f:=EE a f Aq
def mP(j4:LB->LI->Int->LI->Pb)(a:LB)(h:Int):Pb:=if((Bw h 1)||(Dp h 1000))then
some (([]:LI),2)
else
if(Bw (Aa a) (Ae (Cf 4 h) 4))then
some (([]:LI),24)
else(B4 a (Cf 4 h) 4).bind λ(n,v)=>(Bg a 0 (Cf 4 h)).bind λo=>(Xm o).bind λ(p,w)=>if(Ay (Al p:UInt64) n)then
some (([]:LI),22)
else(mkI h (0:Int)).bind λf=>(Ew (geq h h)).bind λ_=>j4 a f 0 f
def Ws:=mP Azm
abbrev PL:=Option (Int×Int×Int×Int×Int×Int×LI×Int)
def Aga:PL:=(Bn c d j C E).bind λ(e,i)=>if(Ay i 0)then
some (0,0,0,0,0,0,([]:LI),i)
else(Bg z N (Aa z)).bind λl=>(Ws l (Aa e)).bind λ(A,B)=>if(Ay B 0)then
some (0,0,0,0,0,0,([]:LI),B)
else
some (c,d,j,C,E,(Ae (Ae N (Cf 4 (Aa A))) 4),A,0)
def eV:=Aga
def Adu(j2:LB->Jz6 PL)(a n:LB):PL:=if(Dp (Aa n) 64)then
some (0,0,0,0,0,0,([]:LI),2)
else
if(Dp (Aa a) 100000)then
some (0,0,0,0,0,0,([]:LI),4)
else(Gd a).bind λ(f,w)=>if(Ay w 0)then
some (0,0,0,0,0,0,([]:LI),w)
else(Bg a f (Aa a)).bind λad=>(Ka ad).bind λ(b,g,h,k,m,y)=>if(Ay y 0)then
some (0,0,0,0,0,0,([]:LI),y)
else
if((n==([]:LB)) !=(geq b 1))then
some (0,0,0,0,0,0,([]:LI),26)
else
if(n !=([]:LB))then
if(Bw (Aa a) (Ae (Ae f 22) 8))then
some (0,0,0,0,0,0,([]:LI),24)
else(Bg a (Ae f 22) (Ae (Ae f 22) 8)).bind λae=>(Tn ae n).bind λ(af,aa)=>if(Ay aa 0)then
some (0,0,0,0,0,0,([]:LI),aa)
else
if(!af)then
some (0,0,0,0,0,0,([]:LI),26)
else
j2 a b g h k m (Ae (Ae f 22) 8)
else
j2 a b g h k m (Ae f 22)
def Gi:=Adu eV
def MX:Option (Int×Int×Int×Int×Int×Int×Int×Int×Int×Int×LI×Int):=if(Dp (Aa z) 100000)then
some (0,0,0,0,0,0,0,0,0,0,([]:LI),4)
else(Gd z).bind λ(c,d)=>if(Ay d 0)then
some (0,0,0,0,0,0,0,0,0,0,([]:LI),d)
else(Bg z c (Aa z)).bind λe=>(Ka e).bind λ(i,j,l,A,B,C)=>if(Ay C 0)then
some (i,j,l,A,B,0,0,0,0,0,([]:LI),C)
else(Bn i j l A B).bind λ(D,E)=>if(geq i 2)then
some (i,j,l,A,B,c,(Ae c 22),(Ae (Ae c 22) 8),0,0,D,0)
else
some (i,j,l,A,B,c,(Ae c 22),(Ae c 22),0,0,D,0)
abbrev Bdi:=Option (LX)
def zx:Bdi:=some B
def R8:=zx
def uw(j6:LX->Option (LX))(Yp:Int->LX->Option (LX))(f:UInt64)(a:Int)(b:LX):Bdi:=if(Bw a 8)then(Ew (Ft (Cf 8 a) 0)).bind λ_=>(Af b a).bind λ_=>(Me b a (Al (Al (Dj f (GI.toZ (Cf 8 a)).toNat):Int8):Int32)).bind λg=>Yp (Ae a 1) g
else
j6 b
def XY:Nat->Int->LX->Option (LX)
|0,_,_=>none
|z+1,c,d=>uw R8 (XY z) F c d
def uh f:=XY f Aq
def oI(j4:UInt64->Int->LX->Option (LX))(f:UInt64):Bdi:=j4 f 0 (List.replicate 16 (0:Int32))
def M4:=oI uh
abbrev Bde:=Option (LX×Int)
def Nx:Bde:=if(Dp (Aa z) 64)then
some (([(0:Int32),(0:Int32),(0:Int32),(0:Int32),(0:Int32),(0:Int32),(0:Int32),(0:Int32),(0:Int32),(0:Int32),(0:Int32),(0:Int32),(0:Int32),(0:Int32),(0:Int32),(0:Int32)]:LX),2)
else(jL z).bind λ(c,d)=>if(Ay d 0)then
some (([(0:Int32),(0:Int32),(0:Int32),(0:Int32),(0:Int32),(0:Int32),(0:Int32),(0:Int32),(0:Int32),(0:Int32),(0:Int32),(0:Int32),(0:Int32),(0:Int32),(0:Int32),(0:Int32)]:LX),d)
else(M4 c).bind λe=>some (e,0)
abbrev QH:=Option (Int32×Int32×Int)
def Ae8:QH:=if D then(Ew (Ft (As c 1) 0)).bind λ_=>some ((L7 (Fe (1:Int32) (GI.toZ (As c 1)).toNat)),(As (Fe (1:Int32) (GI.toZ (As c 1)).toNat) 1),0)
else
some (0,0,2)
def At4:=Ae8
def Ak0(j2:Int->Bool->QH)(a:Int):QH:=if(geq a 8)then
j2 a (geq a 8)
else
if(geq a 16)then
j2 a (geq a 16)
else
j2 a (geq a 24)
def FH:=Ak0 At4
def Mn:Bbe:=(FH d).bind λ(z,e,i)=>if(((Ay i 0)||(Bw c 1))||(Dp c 6))then
some 2
else
some 0
def KG:Bb3:=if(Bw (Aa z) 5)then
some (([]:LB),24)
else
if(Dp (Aa z) 41254)then
some (([]:LB),4)
else(Bg z 0 (As (Aa z) 4)).bind λc=>(Xm c).bind λ(d,e)=>if(Ay e 0)then
some (([]:LB),e)
else(Bg z (As (Aa z) 4) (Aa z)).bind λi=>(rA i).bind λ(j,l)=>if((Ay l 0)||(Ay j (Al d:UInt64)))then
some (([]:LB),22)
else(Bg z 0 (As (Aa z) 4)).bind λA=>some (A,0)
def Bk:Bbh:=(
(Ba ([]:LB) z).bind λc=>some c)
abbrev Bdl:=Option (LB×Int×Int)
def X? (a:LB):Bdl:=if(Dp (Aa a) 41250)then
some (([]:LB),0,4)
else(Bk a).bind λb=>some (b,(Cf 8 (Aa a)),0)
def YZ:Option (Int×Int×UInt64×UInt64):=some (10,10,16384,16384)
def Jk:Bbe:=if(((Bw c 0)||(Dp c 330000))||(Ay (Aa z) (J' (Ae c 7) (GI.toZ (3:UInt64)).toNat)))then
some 8
else
if(Dp (Ec c 7) 0)then(Af z (As (Aa z) 1)).bind λd=>(Ew (Ft (Ec c 7) 0)).bind λ_=>if(Ay (Dj d (GI.toZ (Ec c 7)).toNat) 0)then
some 8
else
some 0
else
some 0
abbrev Bds:=Option UInt64
def yN:Bds:=some F
def B2:=yN
def A4(j6:UInt64->Option UInt64)(Yp:UInt64->Int->Option UInt64)(b f:Int)(h:LB)(k:Int)(g:UInt64)(a:Int):Bds:=if(Bw a f)then(Af h (J' (Ae b a) (GI.toZ (3:UInt64)).toNat)).bind λm=>(Ew (Ft (Ec (Ae b a) 7) 0)).bind λ_=>(Ew (Ft (Ge (As f a) (As 8 (Ec (Ae b a) 7))) 0)).bind λ_=>(Ew (Ft a 0)).bind λ_=>Yp (gor g (Fe (Al (Ec (Dj m (GI.toZ (Ec (Ae b a) 7)).toNat) (As (Fe (1:UInt8) (GI.toZ (Ge (As f a) (As 8 (Ec (Ae b a) 7)))).toNat) 1)):UInt64) (GI.toZ a).toNat)) (Ae a (Ge (As f a) (As 8 (Ec (Ae b a) 7))))
else
j6 g
def NY:Nat->UInt64->Int->Option UInt64
|0,_,_=>none
|z+1,e,j=>A4 B2 (NY z) c d i A e j
def zW b f h k:=NY b f h k Aq
def cZ(j4:Int->Int->LB->Int->UInt64->Int->Option UInt64)(h:LB)(k b f:Int):Bds:=j4 b f h k 0 0
def gY:=cZ zW
abbrev Dx:=Option (LB×Int×Int)
def Agc (o:Int)(p:LB):Dx:=some (p,o,0)
def qX:=Agc
abbrev Bdf:=Int->Int->LB->Dx
def Al7(Uk:Bdf)(a:Int)(g:LB)(b f h:Int)(u:LB):Dx:=Uk (Ae f 64) h u
def pL Uk:=Al7 Uk
abbrev Bcw:=UInt64->Int->Int->LB->Dx
def Alq(uz:Bcw)(a f:Int)(g:LB)(b:Int)(m n:UInt64)(k h:Int)(w:LB):Dx:=(Ew (Ft (Ge k (As 8 (Ec h 7))) 0)).bind λ_=>uz (Dj n (GI.toZ (Ge k (As 8 (Ec h 7)))).toNat) (As k (Ge k (As 8 (Ec h 7)))) (Ae h (Ge k (As 8 (Ec h 7)))) w
def Ad0 uz:=Alq uz
def Azj (j48:Bcw)(a f:Int)(g:LB)(b:Int)(m n:UInt64)(k h:Int)(v:LB):Dx:=(Af v (As (Aa v) 1)).bind λ_=>(Ew (Ft (Ge k (As 8 (Ec h 7))) 0)).bind λ_=>(Ew (Ft (Ec h 7) 0)).bind λ_=>(Af v (As (Aa v) 1)).bind λaa=>(Af v (As (Aa v) 1)).bind λ_=>Option.bind (Me v (As (Aa v) 1) (gor aa (Fe (Al (Ec n (As (Fe (1:UInt64) (GI.toZ (Ge k (As 8 (Ec h 7)))).toNat) 1)):UInt8) (GI.toZ (Ec h 7)).toNat))) λw=>j48 n k h w
def rY uz a f g b m:=Azj (Ad0 uz a f g b m) a f g b m
def rG(j47:Bcw)(j50:Bdf)(a:Int)(g:LB)(b f:Int)(m n:UInt64)(k h:Int)(u:LB):Dx:=if(Dp k 0)then
if(geq (Ec h 7) 0)then(Ba u ([(0:UInt8)]:LB)).bind λab=>j47 n k h ab
else
j47 n k h u
else
j50 f h u
def HN(Uk:Bdf)(a:Int)(g:LB)(b f:Int)(m:UInt64):Nat->UInt64->Int->Int->LB->Dx
|0,_,_,_,_=>none
|q+1,n,k,h,u=>rG (rY (HN Uk a g b f m q) a f g b m) (pL Uk a g b) a g b f m n k h u
def tF Uk a g b f m:=HN Uk a g b f m Aq
def sZ(j44:Int->UInt64->UInt64->Int->Int->LB->Dx)(j52:Int->LB->Dx)(a:Int)(g:LB)(b f o:Int)(p:LB):Dx:=if(Bw f a)then(gY g b f (Ge 64 (As a f))).bind λm=>j44 f m m (Ge 64 (As a f)) o p
else
j52 o p
def HJ:Nat->Int->Int->LB->Dx
|0,_,_,_=>none
|z+1,d,e,j=>sZ (tF (HJ z) c i A) qX c i A d e j
def Aa0 a g b:=HJ a g b Aq
def A7(j27:Int->LB->Jz3 (LB->Dx))(g:LB)(b y a:Int):Dx:=(Jk g b).bind λac=>if(Ay ac 0)then
some (([]:LB),0,8)
else
if(((Bw y 0)||(Dp y a))||(Dp a b))then
some (([]:LB),0,2)
else
j27 a g b y 0 ([]:LB)
def sF:=A7 Aa0
def Ayb:Bbe:=if(!((geq (Ge (G7 c 0) 24) c)&&((geq (Ge (G7 d 0) 24) d)&&((geq (Ge F 68719476735) F)&&((geq (Ge l7 68719476735) l7)&&true)))))then
some 8
else
some 0
def lF:=Ayb
abbrev Bcx:=Int->Int->UInt64->UInt64->Option Int
def PO(j4:Bcx)(a b:Int)(f g:UInt64):Bbe:=(
(
j4 a b f g))
def mN:=PO lF
def QD(j3:Bcx)(a b:Int)(f g:UInt64):Bbe:=(
(
j3 a b f g))
def YH:=QD mN
def FC:Bcp:=(Jk z c).bind λe=>if(Ay e 0)then
some (0,8)
else
if(((Bw j 0)||(Dp j 64))||(Bw d 0))then
some (0,2)
else
if(Dp d (As c j))then
some (0,24)
else(gY z c d j).bind λi=>some (i,0)
def Lg:Bbe:=if(geq F 0)then
some 64
else(Af ([(0:UInt8),(1:UInt8),(56:UInt8),(2:UInt8),(57:UInt8),(49:UInt8),(28:UInt8),(3:UInt8),(61:UInt8),(58:UInt8),(42:UInt8),(50:UInt8),(38:UInt8),(29:UInt8),(17:UInt8),(4:UInt8),(62:UInt8),(47:UInt8),(59:UInt8),(36:UInt8),(45:UInt8),(43:UInt8),(51:UInt8),(22:UInt8),(53:UInt8),(39:UInt8),(33:UInt8),(30:UInt8),(24:UInt8),(18:UInt8),(12:UInt8),(5:UInt8),(63:UInt8),(55:UInt8),(48:UInt8),(27:UInt8),(60:UInt8),(41:UInt8),(37:UInt8),(16:UInt8),(46:UInt8),(35:UInt8),(44:UInt8),(21:UInt8),(52:UInt8),(32:UInt8),(23:UInt8),(11:UInt8),(54:UInt8),(26:UInt8),(40:UInt8),(15:UInt8),(34:UInt8),(20:UInt8),(31:UInt8),(10:UInt8),(25:UInt8),(14:UInt8),(19:UInt8),(9:UInt8),(13:UInt8),(8:UInt8),(7:UInt8),(6:UInt8)]:LB) (GI.toZ (Dj (Cf (Ec F (L7 F)) 285870213051353865) (GI.toZ (58:UInt64)).toNat))).bind λz=>some (Al z:Int)
abbrev Gv:=Option (Int×Int×Int)
def Ag6:Gv:=some (0,0,24)
def Ag4:=Ag6
def Aia(j10:Gv):Gv:=j10
def Ayd:=Aia Ag4
def Aze(j9:Gv)(f a:Int):Gv:=if(geq f 48)then
some (f,(Ae 0 (Ae a f)),0)
else
j9
def Azr:=Aze Ayd
def Azl(j8:Int->Int->Gv)(f b a:Int):Gv:=if(Bw f (Ge 48 (As b a)))then
some (f,(Ae (Ae (0:Int) (1:Int)) (Ae a f)),0)
else
j8 f a
def Adg:=Azl Azr
def Aae(j7:Jz3 Gv)(h:Int)(k:UInt64)(a:Int)(g:LB)(b:Int):Gv:=if(Ay h 0)then
some (0,0,h)
else(Lg (RN k)).bind λf=>j7 f b a
def lR:=Aae Adg
def QI(j6:Int->UInt64->Int->LB->Int->Gv)(g:LB)(b a:Int):Gv:=(Jk g b).bind λm=>if(Ay m 0)then
some (0,0,m)
else
if(Bw a 0)then
some (0,0,2)
else
if(Ft a b)then
some (0,0,24)
else(
(
(FC g b a (Ge 48 (As b a))).bind λ(k,h)=>j6 h k a g b))
def nS:=QI lR
def IA:Bbg:=(Ew (Ft w9 0)).bind λ_=>some (Ft (Dj X (GI.toZ w9).toNat) 48)
abbrev gK:=Option (UInt32×Int×Int)
def Aqt:gK:=(FC i A d V).bind λ(z,e)=>if(Ay e 0)then
some (0,0,e)
else
if(Bw j 48)then(Ew (Ft c 0)).bind λ_=>some ((gor (Fe (Al j:UInt32) (GI.toZ c).toNat) (Al z:UInt32)),(Ae d V),0)
else(IA (Al z:UInt32) c).bind λl=>if(!l)then
some (0,0,12)
else
some ((Al z:UInt32),(Ae d V),0)
def tR:=Aqt
def Aaa (j2:Jz3 (LB->Int->Int->gK))(g:LB)(h v a:Int):gK:=(Jk g h).bind λo=>if(Ay o 0)then
some (0,0,o)
else
if((Bw a 0)||(Dp a 24))then
some (0,0,2)
else(nS g h v).bind λ(f,b,p)=>if(Ay p 0)then
some (0,0,p)
else
if(geq f 48)then
j2 a b f g h 32
else
j2 a b f g h a
def xQ:=Aaa tR
def KJ(a f:Int)(g h:UInt64)(b:UInt32):Option (Int×UInt32):=(Ew (Ft a 0)).bind λ_=>if(geq (Dj b (GI.toZ a).toNat) 0)then
some (0,b)
else(Ew (Ft a 0)).bind λ_=>some (1,(As b (Fe (1:UInt32) (GI.toZ a).toNat)))
abbrev Iz:=Option (UInt32×Int×Int×Int×UInt64×UInt64×Int)
def Aya:Iz:=some (X,w9,Bbb,Bbc,(Ae Baw (As (Al X:UInt64) (Dj Baw (GI.toZ (4:UInt64)).toNat))),Bbd,0)
def Azi:=Aya
def Afn (j10:UInt32->Jz3 (UInt64->UInt64->Iz))(f:UInt32)(k m:Int)(b n:UInt64)(w:Int):Iz:=j10 f k w m b n
def Ab4:=Afn Azi
def Apk (j9:UInt32->Int->Int->UInt64->UInt64->Int->Iz)(f:UInt32)(k a:Int)(b:UInt64)(m:Int)(n:UInt64):Iz:=if(Dp a 0)then(Ew (Ft a 0)).bind λ_=>if(Bw (Ae b (As (Al f:UInt64) (Dj b (GI.toZ (4:UInt64)).toNat))) (Fe (16:UInt64) (GI.toZ a).toNat))then
j9 f k m b n (As a 1)
else
if(Bw a 24)then(Ew (Ft a 0)).bind λ_=>if(Dp (Ae b (As (Al f:UInt64) (Dj b (GI.toZ (4:UInt64)).toNat))) (Fe (32:UInt64) (GI.toZ a).toNat))then
j9 f k m b n (Ae a 1)
else
j9 f k m b n a
else
j9 f k m b n a
else
if(Bw a 24)then(Ew (Ft a 0)).bind λ_=>if(Dp (Ae b (As (Al f:UInt64) (Dj b (GI.toZ (4:UInt64)).toNat))) (Fe (32:UInt64) (GI.toZ a).toNat))then
j9 f k m b n (Ae a 1)
else
j9 f k m b n a
else
j9 f k m b n a
def YM:=Apk Ab4
def qY(j8:UInt32->Int->Int->UInt64->Int->UInt64->Iz)(a h:Int)(b g:UInt64)(f:UInt32)(k:Int):Iz:=(KJ a h b g f).bind λ(ad,o)=>if(geq ad 1)then
if(Dp h 0)then(Ew (Ft h 0)).bind λ_=>if(Bw (Ae g (As (Al o:UInt64) (Dj g (GI.toZ (4:UInt64)).toNat))) (Fe (16:UInt64) (GI.toZ h).toNat))then
j8 f k a b (As h 1) (Ae g (As (Al o:UInt64) (Dj g (GI.toZ (4:UInt64)).toNat)))
else
if(Bw h 24)then(Ew (Ft h 0)).bind λ_=>if(Dp (Ae g (As (Al o:UInt64) (Dj g (GI.toZ (4:UInt64)).toNat))) (Fe (32:UInt64) (GI.toZ h).toNat))then
j8 f k a b (Ae h 1) (Ae g (As (Al o:UInt64) (Dj g (GI.toZ (4:UInt64)).toNat)))
else
j8 f k a b h (Ae g (As (Al o:UInt64) (Dj g (GI.toZ (4:UInt64)).toNat)))
else
j8 f k a b h (Ae g (As (Al o:UInt64) (Dj g (GI.toZ (4:UInt64)).toNat)))
else
if(Bw h 24)then(Ew (Ft h 0)).bind λ_=>if(Dp (Ae g (As (Al o:UInt64) (Dj g (GI.toZ (4:UInt64)).toNat))) (Fe (32:UInt64) (GI.toZ h).toNat))then
j8 f k a b (Ae h 1) (Ae g (As (Al o:UInt64) (Dj g (GI.toZ (4:UInt64)).toNat)))
else
j8 f k a b h (Ae g (As (Al o:UInt64) (Dj g (GI.toZ (4:UInt64)).toNat)))
else
j8 f k a b h (Ae g (As (Al o:UInt64) (Dj g (GI.toZ (4:UInt64)).toNat)))
else
j8 f k a b h g
def rE:=qY YM
def rP(j7:Int->Int->UInt64->UInt64->UInt32->Int->Iz)(p:Int)(u:LB)(v a h:Int)(b g:UInt64):Iz:=(FC u v p 1).bind λ(ae,aa)=>if(Ay aa 0)then
some (0,0,0,0,0,0,aa)
else
if(geq ae 0)then(FC u v (Ae p 1) a).bind λ(af,ab)=>if(Ay ab 0)then
some (0,0,0,0,0,0,ab)
else
j7 a h b g (Al af:UInt32) (Ae (Ae p 1) a)
else(xQ u v (Ae p 1) h).bind λ(y,ag,ac)=>if(Ay ac 0)then
some (0,0,0,0,0,0,ac)
else(Ew (Ft a 0)).bind λ_=>if(Bw (Ae y (Fe (1:UInt32) (GI.toZ a).toNat)) y)then
some (0,0,0,0,0,0,12)
else
j7 a h b g (Ae y (Fe (1:UInt32) (GI.toZ a).toNat)) ag
def Awp :=rP rE
def uK(j6:Int->LB->Jz3 (UInt64->UInt64->Iz))(u:LB)(v p a h:Int)(b g:UInt64):Iz:=(Jk u v).bind λah=>if(Ay ah 0)then
some (0,0,0,0,0,0,8)
else(YH a h b g).bind λai=>if(Ay ai 0)then
some (0,0,0,0,0,0,8)
else
j6 p u v a h b g
def IF:=uK Awp
abbrev Bu:=Option (LU×Int×Int)
def Aqm:Bu:=some (l8,c,0)
def KU:=Aqm
abbrev Bbi:=List (Int×Int×UInt64×UInt64×Unit)
def Aqx(Ff:Int->Int-> (List (Int×Int×UInt64×UInt64×Unit))->LU->Bu)(a f:Int)(g:LB)(b k v:Int)(w:UInt32)(h:Int)(ah:Bbi)(n:LU):Bu:=(Ba n ([w]:LU)).bind λak=>Ff (Ae k v) (Ae h 1) ah ak
def Aqd Ff:=Aqx Ff
def Aqj(j22:Int->Int->UInt32->Int-> (List (Int×Int×UInt64×UInt64×Unit))->LU->Bu)(a f:Int)(g:LB)(b k h y:Int)(w:UInt32)(v:Int)(m:Bbi)(n:LU)(aa ab:Int)(ac ad:UInt64):Bu:=if(Ay y 0)then
some (([]:LU),0,y)
else(Ew (Ay a 0)).bind λ_=>(Af m (Jh h a)).bind λ_=>(Me m (Jh h a) (aa,ab,ac,ad,())).bind λah=>j22 k v w h ah n
def JX Ff a f g b:=Aqj (Aqd Ff a f g b) a f g b
def Wx(j21:Jz3 (UInt32->Int-> (List (Int×Int×UInt64×UInt64×Unit))->LU->Int->Int->UInt64->UInt64->Bu))(j24:Int->LU->Bu)(a f:Int)(g:LB)(b k h:Int)(m:Bbi)(n:LU):Bu:=if(Bw h (Cf f a))then(sF g b k (Ge (Ae k 81) b)).bind λ(ag,ae,af)=>if(Ay af 0)then
some (([]:LU),0,af)
else(Ew (Ay a 0)).bind λ_=>(Af m (Jh h a)).bind λ_=>(
(
(Af m (Jh h a)).bind λo=>(
(IF ag ae 0 o.1 o.2.1 o.2.2.1 o.2.2.2.1).bind λ(w,v,aa,ab,ac,ad,y)=>j21 k h y w v m n aa ab ac ad)))
else
j24 k n
def Oh:Nat->Int->Int-> (List (Int×Int×UInt64×UInt64×Unit))->LU->Bu
|0,_,_,_,_=>none
|z+1,e,j,l,B=>Wx (JX (Oh z) c d i A) KU c d i A e j l B
def ME a f g b:=Oh a f g b Aq
def IP(j16:Int->Int->LB->Jz3 ( (List (Int×Int×UInt64×UInt64×Unit))->LU->Bu))(a f:Int)(g:LB)(b:Int)(p:Bbi):Bu:=j16 a f g b 0 0 p ([]:LU)
def Aqa:=IP ME
def JA(j15:Int->Int->LB->Int-> (List (Int×Int×UInt64×UInt64×Unit))->Bu)(RU:Int-> (List (Int×Int×UInt64×UInt64×Unit))->Bu)(a f:Int)(g:LB)(b u:Int)(p:Bbi):Bu:=if(Bw u 6)then(YZ).bind λ(al,ae,af,am)=>(Af p u).bind λ_=>(Me p u (al,ae,af,am,())).bind λan=>RU (Ae u 1) an
else
j15 a f g b p
def Ou:Nat->Int-> (List (Int×Int×UInt64×UInt64×Unit))->Bu
|0,_,_=>none
|z+1,e,j=>JA Aqa (Ou z) c d i A e j
def MI a f g b:=Ou a f g b Aq
def AF(j13:Int->Int->LB->Int->Int-> (List (Int×Int×UInt64×UInt64×Unit))->Bu)(a f:Int)(g:LB)(b:Int):Bu:=j13 a f g b 0 (List.replicate 6 ((0:Int),(0:Int),(0:UInt64),(0:UInt64),()))
def AH:=AF MI
abbrev nD:=Option (Int×LX×LX×Int)
def yM:nD:=if D then
some (10,B,(List.replicate 16 (0:Int32)),0)
else
if(geq c 16)then
some (9,B,(List.replicate 16 (0:Int32)),0)
else
some (0,(List.replicate 16 (0:Int32)),(List.replicate 16 (0:Int32)),2)
def xO:=yM
def y!(j2:Int->LX->Bool->nD)(a:Int)(b:LX):nD:=if(geq a 8)then
j2 a b (geq a 8)
else
j2 a b (geq a 24)
def sT:=y! xO
def kB:Option (Int×Int32×Int×LX×LX×Int):=(sT c B).bind λ(z,d,e,i)=>if(Ay i 0)then
some (0,0,0,(List.replicate 16 (0:Int32)),(List.replicate 16 (0:Int32)),i)
else
some (c,0,z,d,e,0)
abbrev Bdt:=Option Int32
def Yd:Bdt:=some (oQ (Al (Dj X (GI.toZ (1:UInt64)).toNat):Int32) (L7 (Al (Ec X 1):Int32)))
def Xs(a:Int)(k:Int32)(b:Int)(f m:LX):Bbe:=(sT a f).bind λ(g,n,o,h)=>if((Ay h 0)||(Ay g b))then
some 8
else
some 0
def eX:Bbw:=if(geq c 8)then
some (4,0)
else
if(geq c 16)then
if(geq c 16)then
some (5,0)
else
some (0,2)
else
if(geq c 24)then
some (5,0)
else
some (0,2)
def cT:Bdt:=(Ew (Ft c 0)).bind λ_=>(Ew (Ft c 0)).bind λ_=>some (Al (J' (As (Fe (Al O:Int) (GI.toZ c).toNat) (Al O:Int)) (GI.toZ c).toNat):Int32)
def Xu:Option (Int32×Int):=(eX c).bind λ(z,d)=>if(Ay d 0)then
some (0,d)
else(cT z O).bind λe=>some (e,0)
def DB(a:Int)(b f:LX):Bbe:=if((Ay a 9)&&(Ay a 10))then
some 8
else
some 0
abbrev Pe:=Option (Int32×Int)
def Ajh(h:Int32)(a:Int)(b f:LX):Pe:=(Ew (Ft a 0)).bind λ_=>some ((Dj h (GI.toZ a).toNat),0)
def lS:=Ajh
def lX(j6:Int32->Int->LX->LX->Pe)(Yp:Int32->Int->Pe)(b:LX)(a:Int)(f:LX)(h:Int32)(g:Int):Pe:=if(Bw g 16)then(Af b g).bind λm=>(Af f g).bind λ_=>(Af f g).bind λn=>Yp (Ae h (Cf m n)) (Ae g 1)
else
j6 h a b f
def EK:Nat->Int32->Int->Pe
|0,_,_=>none
|z+1,c,d=>lX lS (EK z) B A R c d
def Azq b a f:=EK b a f Aq
def lL(j4:LX->Int->LX->Int32->Int->Pe)(a:Int)(b f:LX):Pe:=(DB a b f).bind λk=>if(Ay k 0)then
some (0,k)
else(Ew (Ft (As a 1) 0)).bind λ_=>j4 b a f (Fe (1:Int32) (GI.toZ (As a 1)).toNat) 0
def XU:=lL Azq
def jH:Bdt:=if(geq c 0)then
some 4
else
if(Bw c 4)then
some 2
else
some 1
abbrev Og:=Option (Int×LX×LX×Int)
def Aa2:Og:=some (c,B,R,0)
def mB:=Aa2
def lY(j6:Int->LX->LX->Og)(Yp:Int->LX->Og)(h:Int32)(f:LX)(g a:Int)(b:LX):Og:=if(Bw a 16)then(Af f a).bind λm=>if(geq m 0)then
Yp (Ae a 1) b
else
if((Bw m 0)==(Bw h 0))then(Af b a).bind λ_=>(Af b a).bind λo=>(jH a).bind λp=>(Af b a).bind λ_=>(Me b a (Ae o p)).bind λu=>Yp (Ae a 1) u
else(Af b a).bind λ_=>(Af b a).bind λv=>(jH a).bind λw=>(Af b a).bind λ_=>(Me b a (As v w)).bind λy=>Yp (Ae a 1) y
else
j6 g b f
def EC:Nat->Int->LX->Og
|0,_,_=>none
|z+1,c,d=>lY mB (EC z) O y8 y9 c d
def Azf h f g:=EC h f g Aq
def mG(j4:Int32->LX->Int->Int->LX->Og)(g:Int)(k f:LX)(h:Int32):Og:=(DB g k f).bind λn=>if(Ay n 0)then
some (0,(List.replicate 16 (0:Int32)),(List.replicate 16 (0:Int32)),n)
else
if(geq h 0)then
some (g,k,f,0)
else
j4 h f g 0 k
def pG:=mG Azf
abbrev iJ:=Option (Int×LX×LX×Int)
def Adt:iJ:=(Af (Ok y5 1 ((16:Int)-(1:Int)) (Eg y5 0 ((16:Int)-(0:Int)))) 0).bind λ_=>(Me (Ok y5 1 ((16:Int)-(1:Int)) (Eg y5 0 ((16:Int)-(0:Int)))) 0 O).bind λz=>some (Az0,y8,z,0)
def sO:=Adt
def XS(j2:Int32->Int->LX->LX->iJ)(b:Int)(f a:LX)(g:Int32):iJ:=(DB b f a).bind λh=>if(Ay h 0)then
some (0,(List.replicate 16 (0:Int32)),(List.replicate 16 (0:Int32)),h)
else(
(jN 16 1 16).bind λ_=>(jN 16 0 16).bind λ_=>j2 g b f a)
def yQ:=XS sO
def XA:Option (Int×LX×LX):=(pG c B R Azt).bind λ(z,d,e,i)=>(yQ z d e O).bind λ(j,l,A,C)=>some (j,l,A)
abbrev Bcy:=Option (Int32×Int×LX×LX×Int)
def uB:Bcy:=(XU c B R).bind λ(z,d)=>if(Ay d 0)then
some (0,0,(List.replicate 16 (0:Int32)),(List.replicate 16 (0:Int32)),d)
else(XA c B R (Ae O z) O).bind λ(e,i,j)=>some ((Ae O z),e,i,j,0)
abbrev Bcn:=Option (Int32×Int×Int32×Int×LX×LX×Int)
def La:Bcn:=(Xs c O Az0 y8 y5).bind λz=>if(Ay z 0)then
some (0,0,0,0,(List.replicate 16 (0:Int32)),(List.replicate 16 (0:Int32)),z)
else(Xu c O).bind λ(d,e)=>(uB Az0 y8 y5 Azt).bind λ(i,j,l,A,B)=>(
some ((Ae i d),c,(Ae i d),j,l,A,B))
def jS:Bbe:=if((Bw c 1)||(Dp c 6))then
some 2
else
if(Dp (Aa B) 4000)then
some 4
else(Ew (Ay c 0)).bind λ_=>if(Ay (Jh (Aa B) c) 0)then
some 2
else
some 0
def Cg:Bdi:=(
(Ba ([]:LX) B).bind λz=>some z)
abbrev Ep:=Option (LX×Int)
def Akg:Ep:=some (B,0)
def qZ:=Akg
abbrev Bc6:=Int->LX->Ep
def Aye(Oa:Bc6)(b a:Int)(h:LX):Ep:=Oa (Ae a b) h
def sI Oa:=Aye Oa
def qH(j20:Bc6)(Av7:Bc6)(b a g:Int)(h:LX):Ep:=if(Ft g 0)then(Ew (decide (0<= (Ae g 1)/\ (Ae g 1)<((Ae a b)-a)))).bind λ_=>(Ew (decide (0<=g/\g<((Ae a b)-a)))).bind λ_=>(Af h (a+(Ae g 1))).bind λn=>(Af h (a+g)).bind λo=>(Ew (decide (0<=g/\g<((Ae a b)-a)))).bind λ_=>(Me h (a+g) (As n o)).bind λp=>Av7 (As g 1) p
else
j20 a h
def HZ(Oa:Bc6)(b a:Int):Nat->Int->LX->Ep
|0,_,_=>none
|q+1,g,h=>qH (sI Oa b) (HZ Oa b a q) b a g h
def qW Oa b a:=HZ Oa b a Aq
def pK(j18:Int->Int->LX->Ep)(b a:Int)(u:LX):Ep:=j18 a (As (As ((Ae a b)-a) 1) 1) u
def Ad2 Oa b:=pK (qW Oa b) b
def qN(j17:Bc6)(j22:LX->Ep)(b a:Int)(f:LX):Ep:=if(Bw a (Aa f))then(jN (Aa f) a (Ae a b)).bind λ_=>if(Dp (As ((Ae a b)-a) 1) 0)then(Ew (decide (0<= (As ((Ae a b)-a) 1)/\ (As ((Ae a b)-a) 1)<((Ae a b)-a)))).bind λ_=>Option.bind (Ew (decide (0<= (As (As ((Ae a b)-a) 1) 1)/\ (As (As ((Ae a b)-a) 1) 1)<((Ae a b)-a)))) λ_=>(Af f (a+(As ((Ae a b)-a) 1))).bind λv=>(Af f (a+(As (As ((Ae a b)-a) 1) 1))).bind λw=>(Ew (decide (0<= (As ((Ae a b)-a) 1)/\ (As ((Ae a b)-a) 1)<((Ae a b)-a)))).bind λ_=>(Me f (a+(As ((Ae a b)-a) 1)) (Ae v (Ex w 2))).bind λy=>j17 a y
else
j17 a f
else
j22 f
def HV:Nat->Int->LX->Ep
|0,_,_=>none
|z+1,d,e=>qN (Ad2 (HV z) c) qZ c d e
def Abr b:=HV b Aq
def C0(j12:Int->Int->LX->Ep)(b:Int)(k:LX):Ep:=(jS b k).bind λm=>if(Ay m 0)then
some (([]:LX),m)
else(Cg k).bind λaa=>j12 b 0 aa
def X4:=C0 Abr
def Arl:Bbe:=some 0
def gJ:=Arl
abbrev Bb7:=Int->Option Int
def dB(j6:Bbe)(Yp:Bb7)(b f:Int32)(a:LX)(g:Int):Bbe:=if(Bw g (Aa a))then(Af a g).bind λh=>if((Bw h b)||(Dp h f))then
some 16
else
Yp (Ae g 1)
else
j6
def Zj:Nat->Int->Option Int
|0,_=>none
|z+1,c=>dB gJ (Zj z) O Azt Ban c
def Adl b f a:=Zj b f a Aq
def gE(j4:Int32->Int32->LX->Int->Option Int)(m:Int)(a:LX):Bbe:=(FH m).bind λ(b,f,k)=>if(Ay k 0)then
some k
else
if(Dp (Aa a) 4000)then
some 4
else
j4 b f a 0
def Rm:=gE Adl
abbrev Cb:=Option (LX×Int)
def Amj:Cb:=(X4 c B).bind λ(z,e)=>if(Ay e 0)then
some (([]:LX),e)
else(Rm d z).bind λi=>if(Ay i 0)then
some (([]:LX),i)
else
some (z,0)
def GP:=Amj
abbrev Bbp:=List (Int×Int32×(Int×LX×LX×Unit)×Unit)
def Aoc(RU:Int-> (List (Int×Int32×(Int×LX×LX×Unit)×Unit))->LX->Cb)(a:Int)(f:LU)(b g:Int)(y:Int32)(v:Int)(h:Bbp)(k:LX)(aa:Int)(w:Int32)(ab:Int)(ac ad:LX):Cb:=if(Ay v 0)then
some (([]:LX),v)
else(Me h (Jh g a) (aa,w,(ab,ac,ad,()),())).bind λai=>(Ba k ([y]:LX)).bind λaj=>RU (Ae g 1) ai aj
def GX RU:=Aoc RU
def Ub(j16:Int->Int32->Int-> (List (Int×Int32×(Int×LX×LX×Unit)×Unit))->LX->Int->Int32->Int->LX->LX->Cb)(j18:Int->Int->LX->Cb)(f:LU)(a b g:Int)(h:Bbp)(k:LX):Cb:=if(Bw g (Aa f))then(Af f g).bind λag=>(Ew (Ay a 0)).bind λ_=>(Af h (Jh g a)).bind λ_=>(
(Af h (Jh g a)).bind λm=>(
(Yd ag).bind λae=>(
(La m.1 m.2.1 m.2.2.1.1 m.2.2.1.2.1 m.2.2.1.2.2.1 ae).bind λ(y,aa,w,ab,ac,ad,v)=>j16 g y v h k aa w ab ac ad)))
else
j18 a b k
def Mt:Nat->Int-> (List (Int×Int32×(Int×LX×LX×Unit)×Unit))->LX->Cb
|0,_,_,_=>none
|z+1,c,d,e=>Ub (GX (Mt z) Az1 l8 Az2) GP l8 Az1 Az2 c d e
def HG f a b:=Mt f a b Aq
def GZ(j13:LU->Jz3 ( (List (Int×Int32×(Int×LX×LX×Unit)×Unit))->LX->Cb))(f:LU)(a b:Int)(n:Bbp):Cb:=j13 f a b 0 n ([]:LX)
def Apo:=GZ HG
def HD(j12:LU->Int->Int-> (List (Int×Int32×(Int×LX×LX×Unit)×Unit))->Cb)(RW:Int-> (List (Int×Int32×(Int×LX×LX×Unit)×Unit))->Cb)(f:LU)(a b:Int)(o:LX)(p:Int)(n:Bbp):Cb:=if(Bw p 6)then(kB b o).bind λ(ak,af,ae,al,am,w)=>(Af n p).bind λ_=>(Me n p (ak,af,(ae,al,am,()),())).bind λan=>RW (Ae p 1) an
else
j12 f a b n
def Mw:Nat->Int-> (List (Int×Int32×(Int×LX×LX×Unit)×Unit))->Cb
|0,_,_=>none
|z+1,c,d=>HD Apo (Mw z) l8 Az1 Az2 Ban c d
def GY f a b o:=Mw f a b o Aq
def Wv(j10:LU->Int->Int->LX->Int-> (List (Int×Int32×(Int×LX×LX×Unit)×Unit))->Cb)(a b:Int)(o:LX)(f:LU):Cb:=j10 f a b o 0 (List.replicate 6 ((0:Int),(0:Int32),((0:Int),(List.replicate 16 (0:Int32)),(List.replicate 16 (0:Int32)),()),()))
def Vz:=Wv GY
def Ko:Bde:=(Mn c d).bind λz=>if(Ay z 0)then
some (([]:LX),z)
else
if(Bw A 1)then
some (([]:LX),2)
else(Ew (Ay c 0)).bind λ_=>if(Dp A (Ex 4000 c))then
some (([]:LX),2)
else(KG P).bind λ(e,i)=>if(Ay i 0)then
some (([]:LX),i)
else(X? e).bind λ(j,l,C)=>if(Ay C 0)then
some (([]:LX),C)
else(AH c A j l).bind λ(D,E,F)=>if(Ay F 0)then
some (([]:LX),F)
else
if(Ft (As l E) 8)then
some (([]:LX),12)
else(FC j l E (As l E)).bind λ(G,I)=>if((Ay I 0)||(Ay G 0))then
some (([]:LX),12)
else(Vz c d B D).bind λ(J,L)=>some (J,L)
abbrev oV:=Option (Int×Int)
def yR:oV:=(Bg z (As (Aa z) 32) (Aa z)).bind λc=>(SN c 0).bind λ(d,e,i)=>if i then
if(Bw (As (Aa z) 32) d)then
some (0,24)
else
some ((Ae d 32),0)
else(Bg z (As (Aa z) 32) (Aa z)).bind λj=>(SN j 2147483648).bind λ(l,A,B)=>if(!B)then
some (0,12)
else
if(Bw (Aa z) (Ae l 64))then
some (0,24)
else(Bg z (As (Aa z) (Ae l 64)) (Ae (As (Aa z) (Ae l 64)) 32)).bind λC=>(jK l A 2684354560).bind λD=>(Md C D).bind λE=>if(!E)then
some (0,12)
else
some ((Ae l 64),0)
def zA:=yR
def yC(j2:LB->oV)(a:LB):oV:=if(Bw (As (Aa a) 32) 0)then
some (0,6)
else(Bg a (As (Aa a) 32) (Aa a)).bind λv=>(Lt v ([(65:UInt8),(80:UInt8),(69:UInt8),(84:UInt8),(65:UInt8),(71:UInt8),(69:UInt8),(88:UInt8)]:LB)).bind λw=>if(!w)then
some (0,6)
else
j2 a
def U2:=yC zA
abbrev Eo:=Option (Int×Int)
def Ay2:Eo:=some (c,0)
def VL:=Ay2
abbrev Bdx:=Int->LB->Eo
def Ayq(bk8:Bdx)(a:Int)(g:LB):Eo:=bk8 (Ae a 1) g
def Ayp bk8:=Ayq bk8
def Aym(j12:Bdx)(a f:Int)(b:LB):Eo:=if(geq f 0)then
some (0,38)
else(Bg b 0 (As (Aa b) f)).bind λg=>j12 a g
def SW bk8:=Aym (Ayp bk8)
def bS(j11:Int->Int->LB->Eo)(j14:Int->Eo)(a:Int)(b:LB):Eo:=if(Dp (Aa b) 0)then(U2 b).bind λ(f,k)=>j11 a f b
else
j14 a
def Vu:Nat->Int->LB->Eo
|0,_,_=>none
|q+1,a,b=>bS (SW (Vu q)) VL a b
def Ac1:=Vu Aq
def bJ(j8:Bdx)(h:LB):Eo:=if(Dp (Aa h) 4000)then
some (0,38)
else
j8 0 h
def Td:=bJ Ac1
abbrev Br:=Option (Int×Int×Int×LX×Int)
def Adh:Br:=(Bg z c (Aa z)).bind λe=>(Td e).bind λ(i,l)=>if(Ay l 0)then
some (0,0,0,([]:LX),38)
else
some (d,j,C,B,0)
def eR:=Adh
def Afz(IE:Int->Int->LX->Br)(a:LB)(w:LI)(m f g h o p n b ab ae:Int)(ac:LX)(k:LI)(y aj ak aa:Int)(an ad:LX):Br:=if(Ay ak 0)then
some (0,0,0,([]:LX),ak)
else(Ba ad an).bind λau=>IE (Ae y aj) (Ae aa 1) au
def eK IE:=Afz IE
def gG(j24:Jz4 (LX->LX->Br))(j26:LB->Jz4 (LX->Br))(a:LB)(w:LI)(m f g h o p n b ab ae:Int)(ac:LX)(k:LI)(y aa:Int)(ad:LX):Br:=if(Bw aa (Aa w))then(Af w aa).bind λ_=>(Af w aa).bind λaj=>if(Bw (Aa a) (Ae y aj))then
some (0,0,0,([]:LX),24)
else(Af k aa).bind λ_=>(Bg a y (Ae y aj)).bind λav=>(Af k aa).bind λaw=>(Ko f g ac aw av).bind λ(an,ak)=>j24 y aj ak aa an ad
else
j26 a y f g h ad
def Zt:Nat->Int->Int->LX->Br
|0,_,_,_=>none
|e+1,i,A,D=>gG (eK (Zt e) z l c d j C E N Azs Az5 Az6 Az7 B Az8) eR z l c d j C E N Azs Az5 Az6 Az7 B Az8 i A D
def eO a w m f g h o p n b ab ae ac k:=Zt a w m f g h o p n b ab ae ac k Aq
def AO(j21:LB->LI->Jz10 (LX->LI->Int->Int->LX->Br))(a u:LB)(m f g h o p n b:Int)(k:LI)(ao ab ae:Int)(w:LI):Br:=if(Ay ao 0)then
some (0,0,0,([]:LX),ao)
else(Nx u).bind λ(ac,bc)=>j21 a w m f g h o p n b ab ae ac k ab 0 ([]:LX)
def Zu:=AO eO
abbrev Bbu:=LB->LB->Jz8 (LI->Int->Int->Int->LI->Br)
def JB(j20:Bbu)(a u:LB)(v:LI)(m f g h o p n b af:Int)(k:LI):Br:=j20 a u m f g h o p n b k 0 (Ae (Ae b (Cf 4 (Aa v))) 4) af v
def eE:=JB Zu
def eQ(j19:LB->LB->LI->Jz9 (LI->Br))(lE:Int->Int->Br)(v:LI)(a u:LB)(m f g h o p n b:Int)(k:LI)(ag af:Int):Br:=if(Bw ag (Aa v))then(Af v ag).bind λ_=>(Af v ag).bind λax=>lE (Ae ag 1) (Ae af ax)
else
j19 a u v m f g h o p n b af k
def Za:Nat->Int->Int->Br
|0,_,_=>none
|z+1,c,d=>eQ eE (Za z) l i o9 A V l5 Azv Azw Azx G o7 Bah c d
def Ade v a u m f g h o p n b k:=Za v a u m f g h o p n b k Aq
def dG(j20:Bbu)(j17:LI->LB->LB->Jz8 (LI->Int->Int->Br))(al:Int)(a u:LB)(m f g h o p n b ah ai:Int)(v k:LI):Br:=if(Ay al 0)then
j20 a u m f g h o p n b k al ah ai ([]:LI)
else
j17 v a u m f g h o p n b k 0 (Ae (Ae b (Cf 4 (Aa v))) 4)
def Ada:=dG Zu Ade
def fN(j20:Bbu)(j16:Int->LB->LB->Jz10 (LI->LI->Br))(a u:LB)(m f g h o p n b ah ai:Int)(k:LI):Br:=if(Bw (Aa a) b)then
j20 a u m f g h o p n b k 24 ah ai ([]:LI)
else(Bg a b (Aa a)).bind λay=>(Ws ay (Aa k)).bind λ(v,al)=>j16 al a u m f g h o p n b ah ai v k
def Amd:=fN Zu Ada
def fR(j15:LB->LB->Jz10 (LI->Br))(a u:LB)(m f g h o p n b ah ai:Int)(k:LI)(am:Int):Br:=if(Ay am 0)then
some (0,0,0,([]:LX),am)
else
j15 a u m f g h o p n b ah ai k
def JG:=fR Amd
def lJ(j14:LB->LB->Jz10 (LI->Int->Br))(a u:LB):Br:=if(Dp (Aa u) 64)then
some (0,0,0,([]:LX),2)
else(MX a).bind λ(m,f,g,h,o,p,n,b,ah,ai,k,ap)=>if(Ay ap 0)then
some (0,0,0,([]:LX),ap)
else
if((u==([]:LB)) !=(geq m 1))then
j14 a u m f g h o p n b ah ai k 26
else
if(geq m 1)then
j14 a u m f g h o p n b ah ai k 0
else
if(Bw (Aa a) b)then
j14 a u m f g h o p n b ah ai k 24
else(Bg a n b).bind λaz=>(Tn az u).bind λ(ba,bd)=>if(!ba)then
j14 a u m f g h o p n b ah ai k 26
else
j14 a u m f g h o p n b ah ai k 0
def YD:=lJ JG
def OP:Bbe:=(YD z e).bind λ(c,d,i,j,l)=>some l
def ZB(a n:LB)(b:Int):Option UInt8:=if(Dp (Aa a) 100000)then
some 0
else(Gd a).bind λ(f,g)=>if(Ay g 0)then
some 1
else(Bg a f (Aa a)).bind λh=>(Ka h).bind λ(k,o,p,u,v,m)=>if(Ay m 0)then
some 2
else
if(geq b 26)then
if(geq b 26)then
some 3
else
some 4
else
if((geq k 2)&&(Bw (As (Aa a) f) 30))then
some 3
else
some 4
abbrev Fw:=Option (LI×Int)
def As8:Fw:=some (l,0)
def NG:=As8
def TX(bk6:Int->Int->LI->Fw)(a:LI)(b g h:Int)(k:LI):Fw:=bk6 (Ae b 1) (Ae g h) k
def DD bk6:=TX bk6
def SQ(j8:Jz3 (LI->Fw))(j10:LI->Fw)(a:LI)(b g:Int)(f:LI):Fw:=if(Bw b (Aa a))then(Af a b).bind λh=>(Ba f ([(Ae g h)]:LI)).bind λk=>j8 b g h k
else
j10 f
def Tt:Nat->Int->Int->LI->Fw
|0,_,_,_=>none
|z+1,c,d,e=>SQ (DD (Tt z) l) NG l c d e
def Ayn a:=Tt a Aq
def TP(j6:LI->Int->Int->LI->Fw)(a:LI):Fw:=(Sd a).bind λm=>if(Ay m 0)then
some (([]:LI),m)
else
j6 a 0 0 ([(0:Int)]:LI)
def EP:=TP Ayn
abbrev Cv:=Option (LB×Int)
def Aaw:Cv:=some (z,0)
def bW:=Aaw
abbrev Bdj:=Int->LB->Cv
def Ace(Ff:Bdj)(b:Int)(a:LX)(f:Int)(h:LB):Cv:=Ff (Ae f 1) h
def aZ Ff:=Ace Ff
def aH(j28:Bdj)(Av8:Bdj)(b:Int)(a:LX)(k:Int32)(f m:Int)(h:LB):Cv:=if(Bw m (Ex b 8))then(Ew (Ft (Cf 8 m) 0)).bind λ_=>(Ba h ([(Al (Dj k (GI.toZ (Cf 8 m)).toNat):UInt8)]:LB)).bind λp=>Av8 (Ae m 1) p
else
j28 f h
def Wf(Ff:Bdj)(b:Int)(a:LX)(k:Int32)(f:Int):Nat->Int->LB->Cv
|0,_,_=>none
|q+1,m,h=>aH (aZ Ff b a) (Wf Ff b a k f q) b a k f m h
def cC Ff b a k f:=Wf Ff b a k f Aq
def ZE(j26:Int32->Int->Int->LB->Cv)(b:Int)(a:LX)(f:Int)(g:LB)(k:Int32):Cv:=j26 k f 0 g
def Acd Ff b a:=ZE (cC Ff b a) b a
def bM(j25:Int->LB->Int32->Cv)(j30:LB->Cv)(b:Int)(a:LX)(f:Int)(g:LB):Cv:=if(Bw f (Aa a))then(Af a f).bind λn=>if(geq b 8)then
j25 f g (Ae n 128)
else
j25 f g n
else
j30 g
def Wg:Nat->Int->LB->Cv
|0,_,_=>none
|z+1,d,e=>bM (Acd (Wg z) c B) bW c B d e
def Ac2 b a:=Wg b a Aq
def gH(j16:Int->LX->Int->LB->Cv)(b:Int)(a:LX):Cv:=(Rm b a).bind λo=>if(Ay o 0)then
some (([]:LB),o)
else
j16 b a 0 ([]:LB)
def Kh:=gH Ac2
abbrev Dy:=Option (LB×Int)
def Aao:Dy:=if(Ay d 0)then
some (([]:LB),d)
else
if((Bw c 0)||(Ft c 0))then
some (([]:LB),2)
else
none
def bC:=Aao
def Ax0:Dy:=some (i,c)
def RY:=Ax0
def Acw(j10:Int->LB->Dy)(w a m g:Int)(aa:LX)(n o p h:Int)(k:LB)(u:LX)(v b f:LI):Dy:=if(Ay w 0)then
j10 w ([]:LB)
else(Kh g aa).bind λ(ak,al)=>j10 al ak
def ZW:=Acw RY
def Acr(j10:Int->LB->Dy)(j9:Jz4 (LX->Int->Int->Int->Int->LB->LX->LI->LI->LI->Dy))(a h ab y:Int)(k:LB)(m g:Int)(u:LX)(n o p:Int)(f v b:LI):Dy:=if(Dp (Ae h y) (Aa k))then
j10 24 ([]:LB)
else(Af f a).bind λ_=>(Bg k (Ae h ab) (Ae h y)).bind λam=>(Af f a).bind λan=>(Ko m g u an am).bind λ(aa,w)=>j9 w a m g aa n o p h k u v b f
def Acf:=Acr RY ZW
def Aat(j8:Jz4 (LB->Int->Int->LX->Int->Int->Int->LI->LI->LI->Dy))(a:Int)(f:LI)(n m g o p h:Int)(k:LB)(u:LX)(v b:LI):Dy:=if(Ay (0:Int) (0:Int))then
some (([]:LB),0)
else
if((Bw a 0)||(Ft a (Aa f)))then
some (([]:LB),2)
else(Af b a).bind λ_=>(Af b (Ae a 1)).bind λ_=>(Af b a).bind λab=>(Af b (Ae a 1)).bind λy=>j8 a h ab y k m g u n o p f v b
def ZT:=Aat Acf
def Abp(j6:Int->Int->Dy)(j7:Int->LI->Jz6 (LB->LX->LI->LI->Dy))(k ad:LB)(a:Int):Dy:=(Gi k ad).bind λ(n,m,g,o,p,h,v,ae)=>if(Ay ae 0)then
j6 a ae
else(Bn n m g o p).bind λ(f,af)=>if(Ay af 0)then
j6 a af
else(EP v).bind λ(b,ag)=>if(Ay ag 0)then
j6 a ag
else(Nx ad).bind λ(u,ah)=>if(Ay ah 0)then
j6 a ah
else(Af b (Aa f)).bind λ_=>(Af b (Aa f)).bind λao=>j7 a f n m g o p h k u v b
def Oz:=Abp bC ZT
abbrev Mk:=Option (Int×Int)
def Are(n f a b g h:Int):Mk:=some ((Ex (Cf (Cf n a) b) 8),0)
def fX:=Are
def fU(j6:Jz6 Mk)(Yp:Int->Int->Mk)(m f a b g h:Int)(k:LI)(n o:Int):Mk:=if(Bw o m)then(Af k o).bind λ_=>(Af k o).bind λp=>Yp (Ae n p) (Ae o 1)
else
j6 n f a b g h
def AN:Nat->Int->Int->Mk
|0,_,_=>none
|z+1,e,i=>fU fX (AN z) c d j C E N I e i
def Adb m f a b g h k:=AN m f a b g h k Aq
def fV(j4:Jz6 (LI->Int->Int->Mk))(f a b g h m:Int):Mk:=(Bn f a b g h).bind λ(k,u)=>if((Ay u 0)||(Dp m (Aa k)))then
some (0,8)
else
j4 m f a b g h k 0 0
def OR:=fV Adb
abbrev Io:=Option (Int×UInt8×Int×Int×Int)
def Aqq(b f g h k m o:Int)(a:LI)(y:Int)(aa:UInt8)(ab:Int):Io:=(OR f g h k m y).bind λ(ac,ad)=>some (b,aa,ab,ac,ad)
def KN:=Aqq
def dY(j8:Jz7 (LI->Int->UInt8->Int->Io))(bk6:Int->Io)(p n:LB)(a:LI)(b:Int)(u:UInt8)(f g h k m o v:Int):Io:=if(Bw v (Aa a))then
if(geq b 0)then
j8 b f g h k m o a (Aa a) u 0
else(Oz p n v).bind λ(ag,ae)=>if(Ay ae 0)then
j8 b f g h k m o a v 5 v
else
bk6 (Ae v 1)
else
j8 b f g h k m o a (Aa a) u 0
def BY:Nat->Int->Io
|0,_=>none
|d+1,i=>dY KN (BY d) z e l c J L U Ba0 Ba1 Ba2 Ba3 i
def At6 p n a b u f g h k m o:=BY p n a b u f g h k m o Aq
def AL(j6:LB->LB->LI->Int->UInt8->Jz7 Io)(p n:LB)(b f g h k m o:Int)(a:LI)(u:UInt8):Io:=j6 p n a b u f g h k m o 0
def KL:=AL At6
def hH(j5:LB->LB->Jz7 (LI->UInt8->Io))(p n:LB):Io:=if(Dp (Aa n) 64)then
some (0,0,0,0,2)
else(OP p n).bind λb=>(Gi p n).bind λ(f,g,h,k,m,o,a,w)=>if(Ay w 0)then(ZB p n w).bind λaf=>some (b,af,0,0,0)
else
if(Ay b 0)then
j5 p n b f g h k m o a 6
else
j5 p n b f g h k m o a 0
def EV:=hH KL
def rM:Option (Int×Int×Int×Int×Int×Int×LI×Int×UInt8×Int×Int×Int):=(Gi z e).bind λ(c,d,i,j,l,A,B,C)=>if(Ay C 0)then
some (0,0,0,0,0,0,([]:LI),0,0,0,0,C)
else(EV z e).bind λ(D,E,F,G,I)=>if(Ay I 0)then
some (0,0,0,0,0,0,([]:LI),0,0,0,0,I)
else
some (c,d,i,j,l,A,B,D,E,F,G,0)
def Atb:Bbe:=if Baa then
some 8
else
if(Bw c 0)then
if(Bw c 0)then
some 8
else
some 0
else
if(Dp c 99)then
if(Dp c 99)then
some 8
else
some 0
else
if(Dp J 6)then
if(Dp J 6)then
some 8
else
some 0
else
if(Bw L 0)then
if(Bw L 0)then
some 8
else
some 0
else
if(Ft L (Aa l))then
if(Ft L (Aa l))then
some 8
else
some 0
else
if(Bw U 0)then
if(Bw U 0)then
some 8
else
some 0
else
if(Dp U 12000)then
some 8
else
some 0
def Aqf:=Atb
def Adn(j4:LI->Int->UInt8->Int->Int->Bool->Option Int)(n o p u v k:Int)(m:LI)(a:Int)(h:UInt8)(b g:Int)(f:LI)(ab:Bool):Bbe:=if ab then
some 8
else
if(Bw k 22)then
j4 f a h b g (Bw k 22)
else
j4 f a h b g (Dp k 100000)
def Adf:=Adn Aqf
def Au1(j3:Jz6 (LI->Int->UInt8->Int->Int->LI->Bool->Option Int))(n o p u v k:Int)(m:LI)(a:Int)(h:UInt8)(b g:Int):Bbe:=(Bn n o p u v).bind λ(f,w)=>if(Ay w 0)then
j3 n o p u v k m a h b g f (Ay w 0)
else(Sd m).bind λy=>if(Ay y 0)then
j3 n o p u v k m a h b g f (Ay y 0)
else
j3 n o p u v k m a h b g f (Ay (Aa f) (Aa m))
def PF:=Au1 Adf
abbrev Ah:=Option (LB×Int)
def eU:Ah:=(Ba z ([10]:LB)).bind λc=>(Ew (decide (Aa c<=17179869184))).bind λ_=>some (c,0)
def MN:=eU
abbrev Bco:=Int->LB->Ah
def dN(j50:LB->Ah)(Av9:Bco)(a:Int)(b:UInt8)(f g w:Int)(v:LB):Ah:=if(Bw w (Aa ([a,(Al b:Int),f,g]:LI)))then(Af ([a,(Al b:Int),f,g]:LI) w).bind λ_=>(Af ([a,(Al b:Int),f,g]:LI) w).bind λbf=>(strconv_Itoa bf).bind λaq=>(Ba ([32]:LB) aq).bind λbg=>(Ba v bg).bind λbh=>Av9 (Ae w 1) bh
else
j50 v
def BQ:Nat->Int->LB->Ah
|0,_,_=>none
|z+1,d,e=>dN MN (BQ z) c J L U d e
def dC a b f g:=BQ a b f g Aq
def KQ(j48:Int->UInt8->Jz3 (LB->Ah))(a:Int)(b:UInt8)(f g:Int)(y:LB):Ah:=(Ba y ([10,102,111,117,110,100]:LB)).bind λar=>j48 a b f g 0 ar
def iQ:=KQ dC
def gF(j47:Int->UInt8->Int->Int->LB->Ah)(Awa:Bco)(h:LI)(a:Int)(b:UInt8)(f g ak:Int)(y:LB):Ah:=if(Bw ak (Aa h))then(Af h ak).bind λbi=>(strconv_Itoa bi).bind λau=>(Ba ([32]:LB) au).bind λaq=>(Ba y aq).bind λbj=>Awa (Ae ak 1) bj
else
j47 a b f g y
def Zq:Nat->Int->LB->Ah
|0,_,_=>none
|z+1,d,e=>gF iQ (Zq z) l c J L U d e
def fL h a b f g:=Zq h a b f g Aq
def KE(j45:LI->Int->UInt8->Jz3 (LB->Ah))(k m n o p u:Int)(h:LI)(a:Int)(b:UInt8)(f g:Int)(aa:LB):Ah:=(Ba aa ([58]:LB)).bind λav=>j45 h a b f g 0 av
def fF:=KE fL
abbrev Bbn:=Jz6 (LI->Int->UInt8->Int->Int->LB->Ah)
def gC(j44:Bbn)(Awb:Bco)(u k m n o p:Int)(h:LI)(a:Int)(b:UInt8)(f g ab:Int)(aa:LB):Ah:=if(Bw ab (Aa ([u]:LI)))then(Af ([u]:LI) ab).bind λ_=>(Af ([u]:LI) ab).bind λbk=>(strconv_Itoa bk).bind λaw=>(Ba ([32]:LB) aw).bind λau=>(Ba aa au).bind λbl=>Awb (Ae ab 1) bl
else
j44 k m n o p u h a b f g aa
def Zk:Nat->Int->LB->Ah
|0,_,_=>none
|z+1,e,i=>gC fF (Zk z) c d j C E N I A J L U e i
def iL u k m n o p h a b f g:=Zk u k m n o p h a b f g Aq
abbrev Bbm:=Jz6 (LI->Int->UInt8->Int->Int->Int->LB->Ah)
def KS(j42:Bbm)(k m n o p u:Int)(h:LI)(a:Int)(b:UInt8)(f g:Int)(ac:LB):Ah:=(Ba ac ([10,102,114,97,109,101,115]:LB)).bind λax=>j42 u k m n o p h a b f g 0 ax
def gD:=KS iL
def fH(j41:Bbn)(Awc:Bco)(p k m n o u:Int)(h:LI)(a:Int)(b:UInt8)(f g ad:Int)(ac:LB):Ah:=if(Bw ad (Aa ([p]:LI)))then(Af ([p]:LI) ad).bind λ_=>(Af ([p]:LI) ad).bind λbm=>(strconv_Itoa bm).bind λay=>(Ba ([32]:LB) ay).bind λaw=>(Ba ac aw).bind λap=>Awc (Ae ad 1) ap
else
j41 k m n o p u h a b f g ac
def BH:Nat->Int->LB->Ah
|0,_,_=>none
|z+1,e,i=>fH gD (BH z) c d j C E N I A J L U e i
def gP p k m n o u h a b f g:=BH p k m n o u h a b f g Aq
def KT(j39:Bbm)(k m n o p u:Int)(h:LI)(a:Int)(b:UInt8)(f g:Int)(ae:LB):Ah:=(Ba ae ([32,99,111,117,110,116]:LB)).bind λaz=>j39 p k m n o u h a b f g 0 az
def iB:=KT gP
def eS(j38:Bbn)(Awd:Bco)(o k m n p u:Int)(h:LI)(a:Int)(b:UInt8)(f g af:Int)(ae:LB):Ah:=if(Bw af (Aa ([o]:LI)))then(Af ([o]:LI) af).bind λ_=>(Af ([o]:LI) af).bind λbn=>(strconv_Itoa bn).bind λba=>(Ba ([32]:LB) ba).bind λay=>(Ba ae ay).bind λar=>Awd (Ae af 1) ar
else
j38 k m n o p u h a b f g ae
def BD:Nat->Int->LB->Ah
|0,_,_=>none
|z+1,e,i=>eS iB (BD z) c d j C E N I A J L U e i
def iF o k m n p u h a b f g:=BD o k m n p u h a b f g Aq
def KC(j36:Bbm)(k m n o p u:Int)(h:LI)(a:Int)(b:UInt8)(f g:Int)(ag:LB):Ah:=(Ba ag ([32,114,97,116,101]:LB)).bind λbp=>j36 o k m n p u h a b f g 0 bp
def fA:=KC iF
def gU(j35:Bbn)(Awe:Bco)(n k m o p u:Int)(h:LI)(a:Int)(b:UInt8)(f g ah:Int)(ag:LB):Ah:=if(Bw ah (Aa ([n]:LI)))then(Af ([n]:LI) ah).bind λ_=>(Af ([n]:LI) ah).bind λbq=>(strconv_Itoa bq).bind λbb=>(Ba ([32]:LB) bb).bind λba=>(Ba ag ba).bind λav=>Awe (Ae ah 1) av
else
j35 k m n o p u h a b f g ag
def Yv:Nat->Int->LB->Ah
|0,_,_=>none
|z+1,e,i=>gU fA (Yv z) c d j C E N I A J L U e i
def fQ n k m o p u h a b f g:=Yv n k m o p u h a b f g Aq
def LZ(j33:Bbm)(k m n o p u:Int)(h:LI)(a:Int)(b:UInt8)(f g:Int)(ai:LB):Ah:=(Ba ai ([32,98,105,116,115]:LB)).bind λbr=>j33 n k m o p u h a b f g 0 br
def gI:=LZ fQ
def fE(j32:Bbn)(Awf:Bco)(m k n o p u:Int)(h:LI)(a:Int)(b:UInt8)(f g aj:Int)(ai:LB):Ah:=if(Bw aj (Aa ([m]:LI)))then(Af ([m]:LI) aj).bind λ_=>(Af ([m]:LI) aj).bind λbs=>(strconv_Itoa bs).bind λbc=>(Ba ([32]:LB) bc).bind λbb=>(Ba ai bb).bind λax=>Awf (Ae aj 1) ax
else
j32 k m n o p u h a b f g ai
def Zi:Nat->Int->LB->Ah
|0,_,_=>none
|z+1,e,i=>fE gI (Zi z) c d j C E N I A J L U e i
def jA m k n o p u h a b f g:=Zi m k n o p u h a b f g Aq
def KY(j30:Bbm)(k m n o p u:Int)(h:LI)(a:Int)(b:UInt8)(f g:Int)(al:LB):Ah:=(Ba al ([32,99,104,97,110,110,101,108,115]:LB)).bind λbt=>j30 m k n o p u h a b f g 0 bt
def eN:=KY jA
def cQ(j29:Bbn)(Uk:Bco)(k m n o p u:Int)(h:LI)(a:Int)(b:UInt8)(f g am:Int)(al:LB):Ah:=if(Bw am (Aa ([k]:LI)))then(Af ([k]:LI) am).bind λ_=>(Af ([k]:LI) am).bind λbu=>(strconv_Itoa bu).bind λbv=>(Ba ([32]:LB) bv).bind λbc=>(Ba al bc).bind λaz=>Uk (Ae am 1) az
else
j29 k m n o p u h a b f g al
def AZ:Nat->Int->LB->Ah
|0,_,_=>none
|z+1,e,i=>cQ eN (AZ z) c d j C E N I A J L U e i
def Agn k m n o p u h a b f g:=AZ k m n o p u h a b f g Aq
def KP(j27:Bbm)(k m n o p u:Int)(h:LI)(a:Int)(b:UInt8)(f g:Int):Ah:=(Ba ([]:LB) ([102,111,114,109,97,116]:LB)).bind λbw=>j27 k m n o p u h a b f g 0 bw
def IX:=KP Agn
def QU(j26:Jz6 (LI->Int->UInt8->Int->Int->Ah))(k m n o p u:Int)(h:LI)(a:Int)(b:UInt8)(f g:Int):Ah:=(PF k m n o p u h a b f g).bind λan=>if(Ay an 0)then
some (([]:LB),an)
else(
(
(
j26 k m n o p u h a b f g)))
def oZ:=QU IX
def En:Bbh:=(Cx z e).bind λc=>if c then(Bg z 0 (As (Aa z) (Aa e))).bind λd=>some d
else
some z
def Fy:Bbh:=(En z e).bind λc=>some c
def zS(s:LB):Option (Int32×Int):=none
def GR:Bbh:=(Bg z c (Aa z)).bind λd=>(Ba i d).bind λe=>(Ew (decide (Aa e<=17179869184))).bind λ_=>some e
def Jm:=GR
abbrev Bdb:=Int->Int->LB->Option (LB)
def JT(j12:Bcv)(bk8:Bdb)(a g b:LB)(f h m:Int)(n:LB):Bbh:=if(Bw m f)then(Bg a h (Aa a)).bind λae=>(strings_Index ae g).bind λaa=>(Bg a h (Ae h aa)).bind λaf=>(Ba n af).bind λag=>(Ba ag b).bind λah=>bk8 (Ae (Ae h aa) (Aa g)) (Ae m 1) ah
else
j12 a h n
def On:Nat->Int->Int->LB->Option (LB)
|0,_,_,_=>none
|c+1,d,j,l=>JT Jm (On c) z e i A d j l
def Ar8 a g b f:=On a g b f Aq
def HB(j12:Bcv)(RW:Bdb)(a b:LB)(f k o:Int)(p:LB):Bbh:=if(Bw o (As f 1))then(Bg a k (Aa a)).bind λv=>(zS v).bind λ(am,ab)=>(Bg a k (Ae k ab)).bind λai=>(Ba p ai).bind λaj=>(Ba aj b).bind λak=>RW (Ae k ab) (Ae o 1) ak
else
j12 a k p
def Uf:Nat->Int->Int->LB->Option (LB)
|0,_,_,_=>none
|d+1,i,j,l=>HB Jm (Uf d) z e c i j l
def An1 a b f:=Uf a b f Aq
def Wz(j8:LB->LB->LB->Jz3 (LB->Option (LB)))(j10:LB->LB->Jz3 (LB->Option (LB)))(a g b:LB)(f:Int):Bbh:=Option.bind (Ew (decide (0<= (Ae (Aa a) (Cf f (As (Aa b) (Aa g))))/\ (Ae (Aa a) (Cf f (As (Aa b) (Aa g))))<=281474976710656))) λ_=>if(Dp (Aa g) 0)then
j8 a g b f 0 0 ([]:LB)
else(Ba ([]:LB) b).bind λal=>j10 a b f 0 0 al
def JP:=Wz Ar8 An1
def IK(j7:LB->LB->LB->Int->Option (LB))(a g b:LB)(u:Int):Bbh:=if((g==b)||(geq u 0))then
some a
else(strings_Count a g).bind λw=>if(geq w 0)then
some a
else
if((Bw u 0)||(Bw w u))then
j7 a g b w
else
j7 a g b u
def FQ:=IK JP
def Wq:Bbh:=(FQ z e i (-1:Int)).bind λc=>some c
def Axh:Bbh:=(Ew (decide (Aa z<=17179869184))).bind λ_=>some z
def TA:=Axh
def UM:Bbh:=if(Bw y9 (Aa Bab))then(Af Bab y9).bind λz=>(Ba Azu o8).bind λc=>(Ba c z).bind λd=>Azz (Ae y9 1) d
else
Azy Azu
def Sm:Nat->Int->LB->Option (LB)
|0,_,_=>none
|c+1,d,e=>UM TA (Sm c) z M d e
def UJ a f:=Sm a f Aq
def QW(j14:LB-> (List LB)->Int->LB->Option (LB))(b:Bbf)(a:LB)(g:Int):Bbh:=(Ew (decide (0<=g/\g<=281474976710656))).bind λ_=>(Af b 0).bind λn=>(Ba ([]:LB) n).bind λv=>(Bg b 1 (Aa b)).bind λf=>j14 a f 0 v
def Aww:=QW UJ
abbrev Bdm:=Int->Int->Option (LB)
def RH(j13:Bcm)(MP:Bdm)(b:Bbf)(a:LB)(g m:Int):Bbh:=if(Bw m (Aa b))then(Af b m).bind λn=>if(Dp (Aa n) (As 9223372036854775807 g))then
none
else
MP (Ae g (Aa n)) (Ae m 1)
else
j13 b a g
def Tm:Nat->Int->Int->Option (LB)
|0,_,_=>none
|z+1,c,d=>RH Aww (Tm z) M l6 c d
def Axw b a:=Tm b a Aq
def DU(j11:(List LB)->LB->Int->Int->Option (LB))(b:Bbf)(a:LB)(w:Int):Bbh:=j11 b a w 0
def RQ:=DU Axw
def bK:Bbh:=Bap Bag Bax (Ae 0 (Cf (Aa Bax) (As (Aa Bag) 1)))
def Ad1:=bK RQ
abbrev Bc9:=(List LB)->LB->Option (LB)
def aS(j9:Bc9)(j10:Bcm)(b:Bbf)(a:LB):Bbh:=if(geq (Aa b) 0)then
some ([]:LB)
else
if(geq (Aa b) 1)then(Af b 0).bind λn=>some n
else
if(Dp (Aa a) 0)then(Ew (Ay (As (Aa b) 1) 0)).bind λ_=>if(Ft (Aa a) (Ex 9223372036854775807 (As (Aa b) 1)))then
none
else
j9 b a
else
j10 b a 0
def HO:=aS Ad1 RQ
def Ac0:Bbh:=(HO M ([32]:LB)).bind λz=>some z
def ZQ:=Ac0
abbrev Bc5:=Int-> (List LB)->Option (LB)
def aK(j6:(List LB)->Option (LB))(Yp:Bc5)(a:LI)(f:Int)(b:Bbf):Bbh:=if(Bw f (Aa a))then(Af a f).bind λk=>(strconv_Itoa k).bind λm=>(Ba b ([m]:Bbf)).bind λn=>Yp (Ae f 1) n
else
j6 b
def Vt:Nat->Int-> (List LB)->Option (LB)
|0,_,_=>none
|z+1,c,d=>aK ZQ (Vt z) l c d
def Abw a:=Vt a Aq
def ZM(j4:LI->Int-> (List LB)->Option (LB))(a:LI)(h:Int):Bbh:=if(Ay h 0)then(Aj h).bind λg=>some g
else
j4 a 0 ([]:Bbf)
def Eh:=ZM Abw
abbrev Bbq:=Option (LB×LB×Int×Int×Int×Int×Int×LI×Int×LB×Bool×Int×Int)
def Rs:Bbq:=if(Dp (Aa z) 64)then
some (([]:LB),([]:LB),0,0,0,0,0,([]:LI),0,([]:LB),false,0,2)
else
some (z,([]:LB),0,0,0,0,0,([]:LI),0,([]:LB),false,0,0)
def Ke:Bbh:=(
(Ba ([]:LB) z).bind λc=>some c)
def Gh:Bb1:=(
(Ba ([]:LI) l).bind λz=>some z)
def Ej:Option (LB×LB×Int×Int×Int×Int×Int×LI×Int×LB×Bool×Int):=(Ke e).bind λi=>(Ke P).bind λl=>(Gh I).bind λB=>some (z,i,c,d,j,C,E,B,A,l,D,G)
def Rl(a f g h k:Int)(b:LB):Bbe:=if((b==([]:LB)) !=(geq a 1))then
some 26
else
some 0
def Aai(y:Int)(o p:LB)(h b f k m:Int)(g:LI)(a:Int)(n:LB)(u:Bool)(v:Int):Bbg:=some (TL (Aa n) y)
def bI:=Aai
def ZV(j8:Int->LB->LB->Jz5 (LI->Int->LB->Bool->Int->Option Bool))(bk6:Int->Int->Option Bool)(w:LI)(o p:LB)(h b f k m:Int)(g:LI)(a:Int)(n:LB)(u:Bool)(v y aa:Int):Bbg:=if(Bw aa (Aa w))then(Af w aa).bind λac=>bk6 (Ae y (Ex (Cf (Cf ac b) f) 8)) (Ae aa 1)
else
j8 y o p h b f k m g a n u v
def Vs:Nat->Int->Int->Option Bool
|0,_,_=>none
|z+1,c,d=>ZV bI (Vs z) l i o9 A V l5 Azv Azw Bae Azx P D G c d
def Acm w o p h b f k m g a n u v:=Vs w o p h b f k m g a n u v Aq
def bH(j6:LI->LB->LB->Jz5 (LI->Int->LB->Bool->Int->Int->Int->Option Bool))(o p:LB)(h b f k m:Int)(g:LI)(a:Int)(n:LB)(u:Bool)(v:Int)(ab:LI):Bbg:=if(geq (Aa g) 0)then
some ((geq a 0)&&(geq (Aa n) 0))
else(Sd g).bind λad=>if((((Ay ad 0)||(Ay (Aa g) (Aa ab)))||(Bw a 0))||(Dp a (Aa ab)))then
some false
else(Bg ab 0 a).bind λw=>j6 w o p h b f k m g a n u v 0 0
def Acb:=bH Acm
def bO(j5:LB->LB->Jz5 (LI->Int->LB->Bool->Int->LI->Option Bool))(o p:LB)(h b f k m:Int)(g:LI)(a:Int)(n:LB)(u:Bool)(v:Int):Bbg:=if((geq h 0)&&((geq b 0)&&((geq f 0)&&((geq k 0)&&((geq m 0)&&true)))))then
some (((geq (Aa g) 0)&&(geq a 0))&&(geq (Aa n) 0))
else(Bn h b f k m).bind λ(ab,ae)=>if(Ay ae 0)then
some false
else(Rl h b f k m o).bind λaf=>if(Ay af 0)then
some false
else
j5 o p h b f k m g a n u v ab
def HK:=bO Acb
def Ao:Bc8:=some (false,c)
def Abi:Bbg:=some false
def aN:=Abi
abbrev Bcq:=Int->Option Bool
def aC(j6:Bbg)(Yp:Bcq)(a:LB)(b:Int):Bbg:=if(Bw b 2)then(Af ([([73,68,51]:LB),([65,80,69,84,65,71,69,88]:LB)]:Bbf) b).bind λf=>if(Bw (Aa a) (Aa f))then(Qs f a).bind λg=>if g then
some true
else
Yp (Ae b 1)
else
Yp (Ae b 1)
else
j6
def Vy:Nat->Int->Option Bool
|0,_=>none
|c+1,d=>aC aN (Vy c) z d
def aR a:=Vy a Aq
abbrev Bdo:=LB->Int->Option Bool
def GB(j4:Bdo)(a:LB):Bbg:=j4 a 0
def Pn:=GB aR
def DZ(f a b g h:Int):Bbw:=some (a,b)
def Ah7:Bbe:=some (-1:Int)
def Jz:=Ah7
def Kg(j6:Bbe)(Yp:Bb7)(a:LI)(b f:Int):Bbe:=if(Bw f (Aa a))then(Af a f).bind λg=>if(geq b g)then
some f
else
Yp (Ae f 1)
else
j6
def Dt:Nat->Int->Option Int
|0,_=>none
|z+1,d=>Kg Jz (Dt z) l c d
def Ki a b:=Dt a b Aq
def Fp(j4:Bdd)(a:LI)(b:Int):Bbe:=j4 a b 0
def El:=Fp Ki
def Fj:Bbg:=(El l c).bind λz=>some (Ft z 0)
def Qg:Bbg:=(Fj ([(4:Int),(12:Int),(16:Int),(22:Int),(24:Int),(26:Int),(38:Int)]:LI) c).bind λz=>some z
def Auu:Bbe:=if(!D)then
some 8
else
some 0
def Gx:=Auu
def OI:Bbe:=Y ((true==true)&&((geq (0:Int) (0:Int))&&true))
def AV:=OI Gx
def Arx:Bbe:=Y ((p9==true)&&((geq Bac 0)&&true))
def Qt:=Arx Gx
abbrev Bb2:=Bool->Int->Option Int
def Auz(j13:Bb2)(g ax:LB)(ay az ab ba af b:Int)(n:Bool)(o:Int)(f:LI)(k:LB):Bbe:=(Rl ay az ab ba af g).bind λdi=>(Ao di).bind λ(dj,ai)=>j13 dj ai
def Zf:=Auz Qt
def Atc:Bbe:=Y ((p9==true)&&((geq Bac 0)&&true))
def Mc:=Atc Gx
def Asm(j25:Bb2)(g a:LB)(h p m u v b:Int)(n:Bool)(o:Int)(f:LI)(k:LB)(de:Int):Bbe:=(Bn h p m u v).bind λ(dm,be)=>if(Ay be 0)then(Ao be).bind λ(aj,bg)=>j25 aj bg
else(Bg a de (Aa a)).bind λdn=>(Ws dn (Aa dm)).bind λ(dp,ab)=>if(geq ab 24)then
j25 true 0
else
if(Ay ab 0)then(Ao ab).bind λ(dq,af)=>j25 dq af
else(Bg a (Ae (Ae de (Cf 4 (Aa dp))) 4) (Aa a)).bind λfc=>j25 false 0
def Rh:=Asm Mc
abbrev Bb4:=LB->LB->Jz6 (Bool->Int->LI->LB->Int->Option Int)
def Ass(j25:Bb2)(j24:Bb4)(bh:Bool)(bf:Int)(g a:LB)(h p m u v b:Int)(n:Bool)(o:Int)(f:LI)(k:LB):Bbe:=if(Ay bf 0)then(Ao bf).bind λ(dr,be)=>j25 dr be
else
if(!bh)then(Ao 26).bind λ(aj,bg)=>j25 aj bg
else
j24 g a h p m u v b n o f k 8
def Aug:=Ass Mc Rh
def Aup(j15:Bool->Int->LB->LB->Jz6 (Bool->Int->LI->LB->Option Int))(g a:LB)(h p m u v b:Int)(n:Bool)(o:Int)(f:LI)(k:LB):Bbe:=(Bg a 0 8).bind λds=>(Tn ds g).bind λ(bh,bf)=>j15 bh bf g a h p m u v b n o f k
def ND:=Aup Aug
def Asj:Bbe:=Y ((p9==true)&&((geq Bac 0)&&true))
def Mb:=Asj Gx
def BK(j28:Bb2)(y ac:Int)(g a:LB)(h p m u v b:Int)(n:Bool)(o:Int)(ak:LX)(f:LI)(k:LB):Bbe:=if(Ay ac 0)then(Ao ac).bind λ(bi,bj)=>j28 bi bj
else(Kh m ak).bind λ(bk,bb)=>if(Ay bb 0)then(Ao bb).bind λ(bl,bm)=>j28 bl bm
else(Ba k bk).bind λdv=>(
(Bg a y (Aa a)).bind λdw=>j28 false 0)
def PB:=BK Mb
def OA(j27:Int->Int->LB->LB->Jz6 (Bool->Int->LX->LI->LB->Option Int))(y:Int)(g a:LB)(h p m u v b:Int)(n:Bool)(o:Int)(bc:LX)(ag f:LI)(k:LB):Bbe:=(Af ag b).bind λ_=>(Bg a 0 y).bind λdx=>(Af ag b).bind λdy=>(DZ h p m u v).bind λ(dz,bd)=>(Ko dz bd bc dy dx).bind λ(ak,ac)=>j27 y ac g a h p m u v b n o ak f k
def NB:=OA PB
abbrev Bb8:=LB->LB->Jz6 (Bool->Int->LI->LB->Option Int)
def DE(j13:Bb2)(j12:Bb8)(j25:Bb2)(j23:Bb8)(j24:Bb4)(j28:Bb2)(j26:Int->LB->LB->Jz6 (Bool->Int->LX->LI->LI->LB->Option Int))(j22:Bcl)(j21:Bbe)(al am:LB)(an ao ap aq ar:Int)(au:LI)(ad:Int)(ae:LB)(aa:Bool)(w:Int):Bbe:=if(Dp (Aa al) 64)then
some 8
else
if((geq w 0)&&(!aa))then(Ej al am an ao ap aq ar au ad ae aa w).bind λ(g,a,h,p,m,u,v,f,b,k,n,o)=>(HK al am an ao ap aq ar au ad ae aa w).bind λbn=>if bn then
if(geq h 0)then(Gd a).bind λ(ah,av)=>if(geq av 24)then
j13 true 0
else
if(Ay av 0)then(Ao av).bind λ(bp,bq)=>j13 bp bq
else(Bg a ah (Aa a)).bind λbr=>(Pn br).bind λaj=>if aj then
j13 true 0
else(Bg a ah (Aa a)).bind λbs=>(Ka bs).bind λ(ay,az,ab,ba,af,aw)=>if(geq aw 24)then
j13 true 0
else
if(Ay aw 0)then(Ao aw).bind λ(bt,bu)=>j13 bt bu
else(
(Bg a (Ae ah 22) (Aa a)).bind λax=>(
j12 g ax ay az ab ba af b n o f k))
else
if(geq (Aa f) 0)then
if(geq h 2)then
if(Bw (Aa a) 8)then
j25 true 0
else
j23 g a h p m u v b n o f k
else
j24 g a h p m u v b n o f k 0
else
if(Bw b (Aa f))then(Af f b).bind λ_=>(Af f b).bind λy=>if(Bw (Aa a) y)then
j28 true 0
else(Nx g).bind λ(bc,ai)=>if(Ay ai 0)then(Ao ai).bind λ(bv,bw)=>j28 bv bw
else(Bn h p m u v).bind λ(ag,bx)=>if((Ay bx 0)||(Ft b (Aa ag)))then(Ao 8).bind λ(bz,da)=>j28 bz da
else
j26 y g a h p m u v b n o bc ag f k
else
if(Dp (Aa a) 4000)then(Ao 38).bind λ(db,bd)=>j22 ((db==true)&&((geq bd 0)&&true))
else
j21
else
j22 false
else
if((geq (Aa am) 0)&&(geq (Aa au) 0))then
if((((geq an 0)&&((geq ao 0)&&((geq ap 0)&&((geq aq 0)&&((geq ar 0)&&true)))))&&(geq ad 0))&&(TL (Aa ae) 12000))then
if(geq w 0)then
j22 true
else
if(!aa)then(Qg w).bind λdc=>j22 dc
else
j22 false
else
j22 false
else
if((false&&(geq ad 0))&&(TL (Aa ae) 12000))then
if(geq w 0)then
j22 true
else
if(!aa)then(Qg w).bind λdd=>j22 dd
else
j22 false
else
j22 false
def Qh:=DE Qt Zf Mc ND Rh Mb NB Gx AV
def Qi:Bbq:=(Qh z e c d j C E I A P D G).bind λi=>if(Ay i 0)then
some (([]:LB),([]:LB),0,0,0,0,0,([]:LI),0,([]:LB),false,0,i)
else
if(Ay G 0)then(
(
(Ej z e c d j C E I A P D G).bind λ(l,B,F,J,L,M,N,O,R,U,V,X)=>(
some (l,B,F,J,L,M,N,O,R,U,V,X,G))))
else
if D then(Ej z e c d j C E I A P D G).bind λ(Y,Z,l5,l6,l7,l8,l9,o7,o8,o9,p8,p9)=>some (Y,Z,l5,l6,l7,l8,l9,o7,o8,o9,p8,p9,36)
else(Ej z e c d j C E I A P D G).bind λ(q8,q9,w9,y5,y7,y8,y9,Azs,Azt,Azu,Azv,Azw)=>some (q8,q9,w9,y5,y7,y8,y9,Azs,Azt,Azu,Azv,Azw,0)
def IC(b g:LB)(h k m n o:Int)(p:LI)(u:Int)(f:LB)(v:Bool)(w a:Int):Bbq:=some (b,([]:LB),0,0,0,0,0,([]:LI),0,f,false,a,a)
abbrev Ak:=Option (LB×LB×Int×Int×Int×Int×Int×LI×Int×LB×Bool×Int×Int)
abbrev Bby:=LB->Jz6 (LI->LB->Ak)
def Aw7(Pr:Bby)(a:LB)(b:Bool)(f:Int)(av:LB)(aw ax ay az ba bb:Int)(dy:Bool)(dk:Int)(bc:LI)(bd:LB):Ak:=if dy then(Ej a av aw ax ay az ba bc bb bd b f).bind λ(dz,fa,fb,ap,be,ae,fc,fd,fe,ff,fg,af)=>some (dz,fa,fb,ap,be,ae,fc,fd,fe,ff,fg,af,0)
else
if(Ay dk 0)then(IC a av aw ax ay az ba bc bb bd b f dk).bind λ(fh,fi,fj,fk,fl,fm,fn,fo,fp,fq,fs,ft,fu)=>some (fh,fi,fj,fk,fl,fm,fn,fo,fp,fq,fs,ft,fu)
else
Pr av aw ax ay az ba bb bc bd
def Hx Pr:=Aw7 Pr
abbrev Bbr:=LB->Jz6 (Bool->Int->LI->LB->Ak)
def VS(j71:Bbr)(a:LB)(b:Bool)(f:Int)(g:LB)(m o n p u h:Int)(k:LI)(v:LB):Ak:=j71 g m o n p u h true 0 k v
def DI Pr a b f:=VS (Hx Pr a b f) a b f
def Ay1(j71:Bbr)(a:LB)(b:Bool)(f h:Int)(k:LI)(v:LB)(fv:Bool)(fw:Int)(fx:LB)(fy fz ga gb gc:Int):Ak:=j71 fx fy fz ga gb gc h fv fw k v
def Tl Pr a b f:=Ay1 (Hx Pr a b f) a b f
abbrev Bcf:=Int->LI->LB->Bool->Int->LB->Jz5 Ak
def Ayj(j62:Bcf)(a:LB)(b:Bool)(f:Int)(ag:LB)(ah ai y aj aa h:Int)(k:LI)(v:LB):Ak:=(Rl ah ai y aj aa a).bind λgd=>(Ao gd).bind λ(ge,ak)=>j62 h k v ge ak ag ah ai y aj aa
def RI Pr a b f:=Ayj (Tl Pr a b f) a b f
def Ay0(j71:Bbr)(a:LB)(b:Bool)(f m o n p u h:Int)(v:LB)(bf:Bool)(bg:Int)(bh:LB)(bi:LI):Ak:=j71 bh m o n p u h bf bg bi v
def Nr Pr a b f:=Ay0 (Hx Pr a b f) a b f
abbrev Bb0:=Jz6 (LB->Bool->Int->LB->LI->Ak)
def DR(j75:Bb0)(a:LB)(b:Bool)(f:Int)(g:LB)(m o n p u h:Int)(k:LI)(v:LB)(dl:Int):Ak:=(Bn m o n p u).bind λ(gf,ar)=>if(Ay ar 0)then(Ao ar).bind λ(al,bj)=>j75 m o n p u h v al bj g k
else(Bg g dl (Aa g)).bind λgg=>(Ws gg (Aa gf)).bind λ(dm,y)=>if(geq y 24)then
j75 m o n p u h v true 0 g k
else
if(Ay y 0)then(Ao y).bind λ(gh,aa)=>j75 m o n p u h v gh aa g k
else(Bg g (Ae (Ae dl (Cf 4 (Aa dm))) 4) (Aa g)).bind λgi=>j75 m o n p u h v false 0 gi dm
def DQ Pr a b f:=DR (Nr Pr a b f) a b f
abbrev Bcj:=LB->Jz6 (LI->LB->Int->Ak)
def VH(j75:Bb0)(j74:Bcj)(a:LB)(b:Bool)(f:Int)(bk:Bool)(au:Int)(g:LB)(m o n p u h:Int)(k:LI)(v:LB):Ak:=if(Ay au 0)then(Ao au).bind λ(gj,ar)=>j75 m o n p u h v gj ar g k
else
if(!bk)then(Ao 26).bind λ(al,bj)=>j75 m o n p u h v al bj g k
else
j74 g m o n p u h k v 8
def Aw1 Pr a b f:=VH (Nr Pr a b f) (DQ Pr a b f) a b f
def RM(j64:Bool->Int->LB->Jz6 (LI->LB->Ak))(a:LB)(b:Bool)(f:Int)(g:LB)(m o n p u h:Int)(k:LI)(v:LB):Ak:=(Bg g 0 8).bind λgk=>(Tn gk a).bind λ(bk,au)=>j64 bk au g m o n p u h k v
def Awx Pr a b f:=RM (Aw1 Pr a b f) a b f
def Axm(j71:Bbr)(a:LB)(b:Bool)(f m o n p u:Int)(k:LI)(bl:Bool)(bm:Int)(bn:LB)(bp:Int)(bq:LB):Ak:=j71 bn m o n p u bp bl bm k bq
def Tk Pr a b f:=Axm (Hx Pr a b f) a b f
abbrev Bcg:=Jz5 (LI->Bool->Int->LB->Int->LB->Ak)
def CZ(j78:Bcg)(a:LB)(b:Bool)(f w ab:Int)(g:LB)(m o n p u h:Int)(am:LX)(k:LI)(v:LB):Ak:=if(Ay ab 0)then(Ao ab).bind λ(br,bs)=>j78 m o n p u k br bs g h v
else(Kh n am).bind λ(bt,af)=>if(Ay af 0)then(Ao af).bind λ(bu,bv)=>j78 m o n p u k bu bv g h v
else(Ba v bt).bind λbw=>(
(Bg g w (Aa g)).bind λbx=>j78 m o n p u k false 0 bx (Ae h 1) bw)
def SY Pr a b f:=CZ (Tk Pr a b f) a b f
def RL(j77:Int->Int->LB->Jz6 (LX->LI->LB->Ak))(a:LB)(b:Bool)(f w:Int)(g:LB)(m o n p u h:Int)(aq:LX)(ac k:LI)(v:LB):Ak:=(Af ac h).bind λ_=>(Bg g 0 w).bind λgl=>(Af ac h).bind λgm=>(DZ m o n p u).bind λ(be,ae)=>(Ko be ae aq gm gl).bind λ(am,ab)=>j77 w ab g m o n p u h am k v
def Ayy Pr a b f:=RL (SY Pr a b f) a b f
def CP(j62:Bcf)(j61:Bby)(j75:Bb0)(j73:Bby)(j74:Bcj)(j78:Bcg)(j76:Int->LB->Jz6 (LX->LI->LI->LB->Ak))(j71:Bbr)(j70:Bby)(a:LB)(b:Bool)(f:Int)(g:LB)(m o n p u h:Int)(k:LI)(v:LB):Ak:=if(geq m 0)then(Gd g).bind λ(ad,an)=>if(geq an 24)then
j62 h k v true 0 g m o n p u
else
if(Ay an 0)then(Ao an).bind λ(bz,da)=>j62 h k v bz da g m o n p u
else(Bg g ad (Aa g)).bind λdb=>(Pn db).bind λal=>if al then
j62 h k v true 0 g m o n p u
else(Bg g ad (Aa g)).bind λdc=>(Ka dc).bind λ(ah,ai,y,aj,aa,ao)=>if(geq ao 24)then
j62 h k v true 0 g m o n p u
else
if(Ay ao 0)then(Ao ao).bind λ(dd,de)=>j62 h k v dd de g m o n p u
else(
(Bg g (Ae ad 22) (Aa g)).bind λag=>(
j61 ag ah ai y aj aa h k v))
else
if(geq (Aa k) 0)then
if(geq m 2)then
if(Bw (Aa g) 8)then
j75 m o n p u h v true 0 g k
else
j73 g m o n p u h k v
else
j74 g m o n p u h k v 0
else
if(Bw h (Aa k))then(Af k h).bind λ_=>(Af k h).bind λw=>if(Bw (Aa g) w)then
j78 m o n p u k true 0 g h v
else(Nx a).bind λ(aq,ak)=>if(Ay ak 0)then(Ao ak).bind λ(df,dg)=>j78 m o n p u k df dg g h v
else(Bn m o n p u).bind λ(ac,dh)=>if((Ay dh 0)||(Ft h (Aa ac)))then(Ao 8).bind λ(di,ap)=>j78 m o n p u k di ap g h v
else
j76 w g m o n p u h aq ac k v
else
if(Dp (Aa g) 4000)then(Ao 38).bind λ(dj,ae)=>j71 g m o n p u h dj ae k v
else
j70 g m o n p u h k v
def Dc:Nat->LB->Jz6 (LI->LB->Ak)
|0,_,_,_,_,_,_,_,_,_=>none
|c+1,d,e,i,j,l,A,B,C,E=>CP (Tl (Dc c) z D G) (RI (Dc c) z D G) (Nr (Dc c) z D G) (Awx (Dc c) z D G) (DQ (Dc c) z D G) (Tk (Dc c) z D G) (Ayy (Dc c) z D G) (Hx (Dc c) z D G) (DI (Dc c) z D G) z D G d e i j l A B C E
def Axo a b f:=Dc a b f Aq
def bL(j37:LB->Bool->Int->LB->Jz6 (LI->LB->Ak))(gn go:LB)(gp gq gr gs gt:Int)(gu:LI)(gv:Int)(gw:LB)(gx:Bool)(gy:Int)(gz:LB):Ak:=(Qi gn go gp gq gr gs gt gu gv gw gx gy).bind λ(a,dn,dp,dq,dr,ds,dt,du,dv,dw,b,f,dx)=>if(Ay dx 0)then
some (a,dn,dp,dq,dr,ds,dt,du,dv,dw,b,f,dx)
else(Ba dn gz).bind λha=>j37 a b f ha dp dq dr ds dt dv du dw
def Gz:=bL Axo
def JH(p a:LB)(g u v w y:Int)(b:LI)(h:Int)(aa:LB)(ab:Bool)(ac:Int):Bbe:=if(geq g 0)then(Gd a).bind λ(k,f)=>if(Ay f 0)then
some f
else(Bg a k (Aa a)).bind λm=>(Ka m).bind λ(ad,ae,af,ag,ah,n)=>some n
else
if((Bw h (Aa b))||(geq (Aa b) 0))then
some 24
else(Td a).bind λ(ai,o)=>some o
def Ky:Bbq:=(Qi z e c d j C E I A P D G).bind λ(i,l,B,F,J,L,M,N,O,R,U,V,X)=>if(Ay X 0)then
some (i,l,B,F,J,L,M,N,O,R,U,V,X)
else(JH i l B F J L M N O R U V).bind λY=>if(Ay Y 0)then(IC i l B F J L M N O R U V Y).bind λ(Z,l5,l6,l7,l8,l9,o7,o8,o9,p8,p9,q8,q9)=>some (Z,l5,l6,l7,l8,l9,o7,o8,o9,p8,p9,q8,q9)
else
some (i,([]:LB),0,0,0,0,0,([]:LI),0,R,true,0,0)
abbrev By:=Option (LX×Int)
def Aub:By:=some (B,0)
def OC:=Aub
abbrev Bdk:=Int->LX->By
def Asu(Ff:Bdk)(a:Int)(b:LB)(f:Int)(o:LX):By:=Ff (Ae f (Ex a 8)) o
def Zx Ff:=Asu Ff
def As2(j28:Bdk)(a:Int)(b:LB)(f:Int)(k:Int32)(g:LX):By:=(Ew (Ft (As 32 a) 0)).bind λ_=>(Ew (Ft (As 32 a) 0)).bind λ_=>(Ba g ([(Dj (Fe k (GI.toZ (As 32 a)).toNat) (GI.toZ (As 32 a)).toNat)]:LX)).bind λp=>j28 f p
def NZ Ff a b:=As2 (Zx Ff a b) a b
def NS(j27:Int->Int32->LX->By)(Awg:Int32->Int->By)(a:Int)(b:LB)(f:Int)(g:LX)(k:Int32)(h:Int):By:=if(Bw h (Ex a 8))then(Af b (Ae f h)).bind λm=>(Ew (Ft (Cf 8 h) 0)).bind λ_=>Awg (gor k (Fe (Al m:Int32) (GI.toZ (Cf 8 h)).toNat)) (Ae h 1)
else
j27 f k g
def Rc(Ff:Bdk)(a:Int)(b:LB)(f:Int)(g:LX):Nat->Int32->Int->By
|0,_,_=>none
|q+1,k,h=>NS (NZ Ff a b) (Rc Ff a b f g q) a b f g k h
def OO Ff a b f g:=Rc Ff a b f g Aq
def OW(j28:Bdk)(j25:Int->LX->Int32->Int->By)(j30:LX->By)(a:Int)(b:LB)(f:Int)(g:LX):By:=if(Bw f (Aa b))then
if(geq a 8)then(Af b f).bind λm=>(Ba g ([(As (Al m:Int32) 128)]:LX)).bind λu=>j28 f u
else
j25 f g 0 0
else
j30 g
def Mg:Nat->Int->LX->By
|0,_,_=>none
|z+1,d,e=>OW (Zx (Mg z) c i) (OO (Mg z) c i) OC c i d e
def Aun a b:=Mg a b Aq
def TM(j16:Int->LB->Int->LX->By)(a:Int)(b:LB):By:=(FH a).bind λ(v,w,n)=>if(Ay n 0)then
some (([]:LX),n)
else(Ew (Ay (Ex a 8) 0)).bind λ_=>if(Ay (Jh (Aa b) (Ex a 8)) 0)then
some (([]:LX),12)
else(Ew (Ay (Ex a 8) 0)).bind λ_=>if(Dp (Ex (Aa b) (Ex a 8)) 4000)then
some (([]:LX),4)
else
j16 a b 0 ([]:LX)
def Qa:=TM Aun
def Ru:Option (Int×Int×Int×LX×Int):=(Rs e).bind λ(c,d,i,j,l,A,B,C,D,E,F,G,I)=>if(Ay I 0)then
some (0,0,0,([]:LX),I)
else(Gz c d i j l A B C D E F G z).bind λ(J,L,M,N,O,P,R,U,V,X,Y,Z,l5)=>if(Ay l5 0)then
some (0,0,0,([]:LX),l5)
else(Ky J L M N O P R U V X Y Z).bind λ(l6,l7,l8,l9,o7,o8,o9,p8,p9,q8,q9,w9,y5)=>if(Ay y5 0)then
some (0,0,0,([]:LX),y5)
else
if((geq M 0)&&((geq N 0)&&((geq O 0)&&((geq P 0)&&((geq R 0)&&true)))))then
some (0,0,0,([]:LX),24)
else(Qa O q8).bind λ(y7,y8)=>if(Ay y8 0)then
some (0,0,0,([]:LX),y8)
else
some (N,O,P,y7,0)
def Aqv:Bbh:=(Eh I c).bind λz=>some z
def KX:=Aqv
abbrev Bdp:=Int->LI->Option (LB)
def KR(j6:Bdp)(Yp:Bdp)(a:Int)(b:LX)(g:Int)(f:LI):Bbh:=if(Bw g (Aa b))then(Af b g).bind λk=>(Ba f ([(Al k:Int)]:LI)).bind λm=>Yp (Ae g 1) m
else
j6 a f
def Pm:Nat->Int->LI->Option (LB)
|0,_,_=>none
|z+1,d,e=>KR KX (Pm z) c B d e
def LY a b:=Pm a b Aq
def Xc(j4:Int->LX->Int->LI->Option (LB))(n o p:Int)(b:LX)(a:Int):Bbh:=j4 a b 0 ([]:LI)
def Fv:=Xc LY
abbrev Cz:=Option (LI×Int)
def Aji:Cz:=if(Ay c 0)then
some (([]:LI),c)
else
some (I,0)
def Kz:=Aji
abbrev Bcr:=Int->LI->Cz
def fS(j26:Bcr)(a b:LB)(h k f m n o:Int)(p v:LI):Cz:=j26 0 v
def KO:=fS Kz
def Ri(Yq:Bcr)(a b:LB)(g:LI)(h k f m n o:Int)(p:LI)(u:Int)(y:LI):Cz:=Yq (Ae u 1) y
def Sa Yq:=Ri Yq
def Rq(j26:Bcr)(j23:Bcr)(a b:LB)(g:LI)(h k f m n o:Int)(p:LI)(u:Int)(y:LI):Cz:=if(Ay (0:Int) (0:Int))then
j26 0 y
else
j23 u y
def Rw Yq a b g h k f m n o p:=Rq Kz (Sa Yq a b g h k f m n o p) a b g h k f m n o p
def JZ(j22:Bcr)(a b:LB)(g:LI)(h k f m n o:Int)(p:LI)(u aa w:Int)(v:LI)(aj:LX):Cz:=if(!(geq w 0))then(Ba v ([u]:LI)).bind λag=>j22 u ag
else
j22 u v
def BP Yq a b g h k f m n o p:=JZ (Rw Yq a b g h k f m n o p) a b g h k f m n o p
def fZ(j26:Bcr)(j21:Jz3 (LI->LX->Cz))(j25:LB->LB->Jz6 (LI->LI->Cz))(a b:LB)(g:LI)(h k f m n o:Int)(p:LI)(u:Int)(v:LI):Cz:=if(Bw u (Aa g))then(Af g u).bind λ_=>(Af g u).bind λaa=>(Oz a b u).bind λ(ah,w)=>if(geq w 0)then(Qa f ah).bind λ(ai,ac)=>if(Ay ac 0)then
j26 ac v
else
j21 u aa w v ai
else
j21 u aa w v ([]:LX)
else
j25 a b h k f m n o p v
def Zv:Nat->Int->LI->Cz
|0,_,_=>none
|i+1,A,B=>fZ Kz (BP (Zv i) z e l c d j C E N I) KO z e l c d j C E N I A B
def Af2 a b g h k f m n o p:=Zv a b g h k f m n o p Aq
def lK(j26:Bcr)(j14:LB->LB->LI->Jz6 (LI->Int->LI->Cz))(a b:LB):Cz:=(Gi a b).bind λ(h,k,f,m,n,o,p,ad)=>if(Ay ad 0)then
j26 ad ([]:LI)
else(Bn h k f m n).bind λ(g,ae)=>if(Ay ae 0)then
j26 ae ([]:LI)
else
j14 a b g h k f m n o p 0 ([]:LI)
def YN:=lK Kz Af2
def PN:Bbe:=(Mn c d).bind λz=>if(Ay z 0)then
some z
else
if(Bw j 1)then
some 2
else(Ew (Ay c 0)).bind λ_=>if(Dp j (Ex 4000 c))then
some 2
else
some 0
def FW:Bde:=(PN c d j).bind λz=>if(Ay z 0)then
some (([]:LX),z)
else(mkI (Cf j c) (0:Int32)).bind λe=>(Ew (geq (Cf j c) (Cf j c))).bind λ_=>some (e,0)
abbrev Ax:=Option (Int×Int×Int×LX×LI×Int)
def BU:Ax:=if(Ay C 0)then
some (0,0,0,([]:LX),([]:LI),C)
else
if(geq (Aa B) 0)then
some (0,0,0,([]:LX),([]:LI),6)
else(
(
some (c,d,j,B,I,0)))
def Jc:=BU
abbrev Bcd:=Jz4 (LI->LX->Ax)
def CC(j40:Bcd)(g h:LB)(m p u n v w y k a b f:Int)(aa ad:LI)(ac:LX):Ax:=j40 a b f 0 ad ac
def MZ:=CC Jc
def NT(IE:Int->LI->LX->Ax)(g h:LB)(o:LI)(m k a b f p u n v w y:Int)(aa:LI)(ab:Int)(am:LI)(an:LX):Ax:=IE (Ae ab 1) am an
def Mh IE:=NT IE
def Ra(j40:Bcd)(j37:Int->LI->LX->Ax)(g h:LB)(o:LI)(m k a b f p u n v w y:Int)(aa:LI)(ab ao:Int)(am:LI)(an:LX):Ax:=if(Ay ao 0)then
j40 a b f ao am an
else
j37 ab am an
def Qw IE g h o m k a b f p u n v w y aa:=Ra Jc (Mh IE g h o m k a b f p u n v w y aa) g h o m k a b f p u n v w y aa
abbrev Bc2:=Int->Int->LI->LX->Ax
def NF(j36:Bc2)(g h:LB)(o:LI)(m a b f k p u n v w y:Int)(aa:LI)(ab af ae:Int)(ak aj ac:LX)(al:LI):Ax:=(Ba ac ak).bind λav=>j36 ab 0 al av
def Av0 IE g h o m a b f k p u n v w y aa:=NF (Qw IE g h o m k a b f p u n v w y aa) g h o m a b f k p u n v w y aa
def NU(j36:Bc2)(g h:LB)(o:LI)(m a b f k p u n v w y:Int)(aa:LI)(ab af ae:Int)(aj ac:LX)(aw:LI):Ax:=(Ba ac aj).bind λak=>j36 ab 0 aw ak
def Atr IE g h o m a b f k p u n v w y aa:=NU (Qw IE g h o m k a b f p u n v w y aa) g h o m a b f k p u n v w y aa
def OD(j36:Bc2)(j34:Jz3 (LX->LX->LX->LI->Ax))(j35:Jz3 (LX->LX->LI->Ax))(g h:LB)(o:LI)(m k a b f p u n v w y:Int)(aa:LI)(ab af ae:Int)(ad:LI)(ac aj:LX):Ax:=if(!(geq ae 0))then(Ba ad ([ab]:LI)).bind λal=>if(geq k 2)then(FW a b af).bind λ(ak,ap)=>if(Ay ap 0)then
j36 ab ap al ac
else
j34 ab af ae ak aj ac al
else
j35 ab af ae aj ac al
else
j35 ab af ae aj ac ad
def As0 IE g h o m k a b f p u n v w y aa:=OD (Qw IE g h o m k a b f p u n v w y aa) (Av0 IE g h o m a b f k p u n v w y aa) (Atr IE g h o m a b f k p u n v w y aa) g h o m k a b f p u n v w y aa
def OT(j40:Bcd)(j33:Jz3 (LI->LX->LX->Ax))(j39:LB->LB->Jz11 (LI->LI->LX->Ax))(g h:LB)(o:LI)(m k a b f p u n v w y:Int)(aa:LI)(ab:Int)(ad:LI)(ac:LX):Ax:=if(Bw ab (Aa o))then(Af o ab).bind λ_=>(Af o ab).bind λaf=>(Oz g h ab).bind λ(ax,ae)=>if(geq ae 0)then(Qa n ax).bind λ(ay,aq)=>if(Ay aq 0)then
j40 a b f aq ad ac
else
j33 ab af ae ad ac ay
else
j33 ab af ae ad ac ([]:LX)
else
j39 g h m p u n v w y k a b f aa ad ac
def Rb:Nat->Int->LI->LX->Ax
|0,_,_,_=>none
|i+1,A,B,D=>OT Jc (As0 (Rb i) z e l c d j C E N Azs Az5 Az6 Az7 Bau I) MZ z e l c d j C E N Azs Az5 Az6 Az7 Bau I A B D
def Auk g h o m k a b f p u n v w y aa:=Rb g h o m k a b f p u n v w y aa Aq
def TZ(j40:Bcd)(j21:LB->LB->LI->Jz11 (LI->Int->LI->LX->Ax))(g h:LB)(k:Int):Ax:=if((Bw k 0)||(Dp k 2))then
some (0,0,0,([]:LX),([]:LI),2)
else
if(geq k 0)then(YD g h).bind λ(az,ba,bb,bc,bd)=>some (az,ba,bb,bc,([]:LI),bd)
else(Gi g h).bind λ(be,a,b,f,bf,bg,bh,m)=>if(Ay m 0)then
some (0,0,0,([]:LX),([]:LI),m)
else(Gi g h).bind λ(p,u,n,v,w,y,aa,ar)=>if(Ay ar 0)then
j40 a b f ar ([]:LI) ([]:LX)
else(Bn p u n v w).bind λ(o,au)=>if(Ay au 0)then
j40 a b f au ([]:LI) ([]:LX)
else
j21 g h o m k a b f p u n v w y aa 0 ([]:LI) ([]:LX)
def Qj:=TZ Jc Auk
def nE(a b f:Int)(g:LX):Bbw:=some (a,b)
def vH:Bbe:=(nE c d j B).bind λ(z,e)=>(Mn z e).bind λi=>if((Ay i 0)||(Bw A 1))then
some 8
else(Ew (Ay c 0)).bind λ_=>if(Dp A (Ex 4000 c))then
some 8
else(Kf j A).bind λ(l,C)=>if(Ay C 0)then
some 8
else
some 0
def XC:Bbe:=if(Bw c 1)then
some 8
else(Ew (Ay c 0)).bind λ_=>if(Ay (Jh (Aa B) c) 0)then
some 8
else(Ew (Ay c 0)).bind λ_=>(vH c d j B (Ex (Aa B) c)).bind λz=>if(Ay z 0)then
some z
else(Rm d B).bind λe=>if(Ay e 0)then
some 8
else
some 0
def MJ:Bbe:=if((((Bw c 1)||(Dp c 6))||(Bw j 1))||(Dp j 1048576))then
some 8
else
if(geq d 8)then
if(geq d 8)then
some 0
else
some 8
else
if(geq d 16)then
if(geq d 16)then
some 0
else
some 8
else
if(geq d 24)then
some 0
else
some 8
def QF:Bc8:=(MJ c d j).bind λz=>if(Ay z 0)then
some (false,z)
else
some (((Dp c 2)||(Dp d 16)),0)
def Ayw:Bbh:=if D then(Bg ([(1:UInt8),(0:UInt8),(0:UInt8),(0:UInt8),(0:UInt8),(0:UInt8),(16:UInt8),(0:UInt8),(128:UInt8),(0:UInt8),(0:UInt8),(170:UInt8),(0:UInt8),(56:UInt8),(155:UInt8),(113:UInt8)]:LB) 0 16).bind λz=>(Ba Z z).bind λc=>some c
else
some Z
def UQ:=Ayw
def QZ(j8:Bool->LB->Option (LB))(bk6:Bdn)(a:Bool)(h:Int)(f:LQ)(g:Int)(b:LB):Bbh:=if(Bw g h)then(Af f g).bind λ_=>(Af f g).bind λv=>(Af ([(2:Int),(2:Int),(4:Int),(4:Int),(2:Int),(2:Int),(2:Int),(2:Int),(4:Int)]:LI) g).bind λw=>(Ly v w).bind λ(y,ac)=>(Ba b y).bind λaa=>bk6 (Ae g 1) aa
else
j8 a b
def Tg:Nat->Int->LB->Option (LB)
|0,_,_=>none
|z+1,c,d=>QZ UQ (Tg z) D G Bao c d
def Aw2 a h f:=Tg a h f Aq
def Tp(j6:Bool->Int->LQ->Int->LB->Option (LB))(a:Bool)(h:Int)(f:LQ):Bbh:=j6 a h f 0 ([]:LB)
def DO:=Tp Aw2
def RJ(j5:Bool->Int->LQ->Option (LB))(m k n:Int)(a:Bool)(o:UInt64):Bbh:=if a then(Af ([(1:UInt64),(Al m:UInt64),(Al n:UInt64),(Cf (Al n:UInt64) (Al (Ex (Cf m k) 8):UInt64)),(Al (Ex (Cf m k) 8):UInt64),(Al k:UInt64),(22:UInt64),(Al k:UInt64),o]:LQ) 0).bind λ_=>(Me ([(1:UInt64),(Al m:UInt64),(Al n:UInt64),(Cf (Al n:UInt64) (Al (Ex (Cf m k) 8):UInt64)),(Al (Ex (Cf m k) 8):UInt64),(Al k:UInt64),(22:UInt64),(Al k:UInt64),o]:LQ) 0 65534).bind λab=>j5 a 9 ab
else
j5 a 6 ([(1:UInt64),(Al m:UInt64),(Al n:UInt64),(Cf (Al n:UInt64) (Al (Ex (Cf m k) 8):UInt64)),(Al (Ex (Cf m k) 8):UInt64),(Al k:UInt64),(22:UInt64),(Al k:UInt64),o]:LQ)
def QN:=RJ DO
def MK:Bb3:=(QF c d j).bind λ(z,e)=>if(Ay e 0)then
some (([]:LB),e)
else(Ew (Ft c 0)).bind λ_=>(QN c d j z (As (Fe (1:UInt64) (GI.toZ c).toNat) 1)).bind λi=>some (i,0)
def Aik:Bbg:=some (geq (Aa z) 4)
def gV:=Aik
def fO(j6:LB->Option Bool)(Yp:Bcq)(a:LB)(b:Int):Bbg:=if(Bw b (Aa a))then(Af a b).bind λ_=>(Af a b).bind λf=>if((Bw f 32)||(Dp f 126))then
some false
else
Yp (Ae b 1)
else
j6 a
def BF:Nat->Int->Option Bool
|0,_=>none
|c+1,d=>fO gV (BF c) z d
def eI a:=BF a Aq
def LR(j4:Bdo)(a:LB):Bbg:=j4 a 0
def EZ:=LR eI
def Arm (b:Int):Bbe:=some b
def rU:=Arm
def sE(j6:Bb7)(Yp:Bc1)(a:Bbv)(b f:Int):Bbe:=if(Bw f (Aa a))then(Af a f).bind λg=>Yp (Ae b (Ae (Ae 8 (Aa g.2.1)) (Ec (Aa g.2.1) 1))) (Ae f 1)
else
j6 b
def HM:Nat->Int->Int->Option Int
|0,_,_=>none
|z+1,c,d=>sE rU (HM z) q8 c d
def qJ a:=HM a Aq
def XV(j4:(List (LB×LB×Unit))->Int->Int->Option Int)(a:Bbv):Bbe:=j4 a 4 0
def CT:=XV qJ
def HR(a f:LB):Bbg:=(EZ a).bind λb=>some (!b)
def Af6:Bbe:=some 0
def Awo:=Af6
def Ami:Bbe:=if Bas then
some 8
else
Baq
def Rv:=Ami Awo
def Af8:Bbe:=Y p9
def fM:=Af8 Rv
def Aiy:Bbe:=Y (Ft (-1:Int) (0:Int))
def iP:=Aiy fM
def Amh(RX:Bb7)(a:Bbv)(b:Int):Bbe:=RX (Ae b 1)
def Ady RX:=Amh RX
def Awm(j26:Bcl)(j23:Bb7)(a:Bbv)(b:Int)(g:Bool):Bbe:=if g then
j26 (Ft b 0)
else
j23 b
def iO RX a:=Awm fM (Ady RX a) a
abbrev Bcz:=Int->Bool->Option Int
def hU(j22:Bcz)(j25:Bbe)(a:Bbv)(b:Int):Bbe:=if(Bw b (Aa a))then(Af a b).bind λk=>(HR k.1 k.2.1).bind λg=>j22 b g
else
j25
def KA:Nat->Int->Option Int
|0,_=>none
|z+1,c=>hU (iO (KA z) q8) iP q8 c
def Agp a:=KA a Aq
def JY:Bbe:=Y p9
def AD:=JY Rv
def eF:Bbe:=Y (Ft (-1:Int) (0:Int))
def KZ:=eF AD
def eY(Uk:Bb7)(a:Bbv)(f:Int):Bbe:=Uk (Ae f 1)
def dQ Uk:=eY Uk
def eW(j34:Bcl)(j31:Bb7)(a:Bbv)(f:Int)(h:Bool):Bbe:=if h then
j34 (Ft f 0)
else
j31 f
def LK Uk a:=eW AD (dQ Uk a) a
def iH(j30:Bcz)(j33:Bbe)(a:Bbv)(f:Int):Bbe:=if(Bw f (Aa a))then(Af a f).bind λm=>(HR m.1 m.2.1).bind λh=>j30 f h
else
j33
def AG:Nat->Int->Option Int
|0,_=>none
|z+1,c=>iH (LK (AG z) q8) KZ q8 c
def Ame a:=AG a Aq
abbrev Bcs:=(List (LB×LB×Unit))->Int->Option Int
def DX(j35:Bcl)(j19:Bcs)(j27:Bcs)(u:LB)(a:Bbv):Bbe:=if(Dp (Aa a) 20)then
some 4
else(EZ u).bind λv=>if(!v)then
if true then
j35 true
else
j19 a 0
else(CT a).bind λw=>if(Dp (Ae w 8) 100000)then
j35 true
else
j27 a 0
def Rj:=DX Rv Agp Ame
def SJ:Option LB:=(Ly (Al c:UInt64) 4).bind λ(d,_)=>(Ba z e).bind λi=>Ba i d
def EY:List (LB×LB×Unit)->LB->Option LB
|[],o=>some o
|c::l,o=>(SJ o c.1 (Aa c.2.1)).bind λp=>(Ba p c.2.1).bind λu=>(mkI (Ec (Aa c.2.1) 1) (0:UInt8)).bind λz=>(Ba u z).bind λv=>EY l v
def LM:Bb3:=(Rj z q8).bind λc=>if(Ay c 0)then
some (([]:LB),c)
else(CT q8).bind λd=>(SJ [] [82,73,70,70] d).bind λe=>(Ba e z).bind λi=>(EY q8 i).bind λj=>some (j,0)
def xZ:Bb3:=(XC c d j B).bind λz=>if(Ay z 0)then
some (([]:LB),z)
else(MK c d j).bind λ(e,i)=>(Kh d B).bind λ(l,A)=>(LM ([87,65,86,69]:LB) ([(([102,109,116,32]:LB),e,()),(([100,97,116,97]:LB),l,())]:Bbv)).bind λ(C,D)=>some (C,D)
abbrev Hj:=Option (LB×Int)
def Ayl:Hj:=some (i,c)
def DG:=Ayl
abbrev Bdy:=Int->LB->Hj
def VZ(j6:Bdy)(b:Int)(f:LB):Hj:=j6 b f
def UP:=VZ DG
def SA(j6:Bdy)(j5:Bdy)(a g h k:Int)(m:LX):Hj:=if(Ay a 0)then
j6 a ([]:LB)
else(xZ g h k m).bind λ(f,b)=>j5 b f
def UU:=SA DG UP
def Ay5(j4:Jz4 (LX->Hj))(p u:LB):Hj:=(Ru p u).bind λ(g,h,k,m,a)=>j4 a g h k m
def EN:=Ay5 UU
def Lu:List LB->LB->Option (LB×Bool)
|[],a=>some (a,true)
|b::xs,a=>(Af b 0).bind λh=>(Af b 1).bind λk=>(Ds ([48,49,50,51,52,53,54,55,56,57,97,98,99,100,101,102]:LB) h).bind λf=>(Ds ([48,49,50,51,52,53,54,55,56,57,97,98,99,100,101,102]:LB) k).bind λg=>if((Bw f 0)||(Bw g 0))then
some (([]:LB),false)
else
Option.bind (Ba a ([(Al (gor (Fe f (GI.toZ (4:UInt64)).toNat) g):UInt8)]:LB)) λm=>Lu xs m
def Qc:Option (LB×Bool):=if(Ay (Jh (Aa z) 2) 0)then
some (([]:LB),false)
else
if(Bw (2:Int) (1:Int))then
none
else(e! z).bind λc=>Lu c ([]:LB)
def Ac5:Bbh:=some z
def Qu:=Ac5
def Gk:Bbh:=if(Bw y9 (Aa Bab))then(Af Bab y9).bind λz=>(Ba Azu z).bind λc=>Azz (Ae y9 1) c
else
Azy Azu
def Dh:Nat->Int->LB->Option (LB)
|0,_,_=>none
|z+1,c,d=>Gk Qu (Dh z) M c d
def Jp a:=Dh a Aq
def Js(j14:(List LB)->Int->LB->Option (LB))(a:Bbf)(p:LB):Bbh:=j14 a 0 p
def Jv:=Js Jp
def Jw(j13:Bc9)(b:Int)(a:Bbf):Bbh:=if(Dp (As b (As (0:Int) (0:Int))) 0)then(jN 0 0 0).bind λ_=>(mkI (As b (As (0:Int) (0:Int))) (0:UInt8)).bind λu=>(Ba ([]:LB) u).bind λk=>(jN (Aa k) 0 0).bind λ_=>j13 a (Eg k 0 ((0:Int)-(0:Int)))
else
j13 a ([]:LB)
def Re:=Jw Jv
def Jt(j12:Bc5)(a:Bbf)(b:Int):Bbh:=if(Bw b 0)then
none
else
j12 b a
def Gl:=Jt Re
def Gy(j11:(List LB)->Int->Option (LB))(bk9:Bdm)(a:Bbf)(b h:Int):Bbh:=if(Bw h (Aa a))then(Af a h).bind λm=>if(Bw (Ae b (Aa m)) 0)then
none
else
bk9 (Ae b (Aa m)) (Ae h 1)
else
j11 a b
def Dn:Nat->Int->Int->Option (LB)
|0,_,_=>none
|z+1,c,d=>Gy Gl (Dn z) M c d
def Acj a:=Dn a Aq
def Sf(j9:(List LB)->Int->Int->Option (LB))(a:Bbf):Bbh:=j9 a 0 0
def Cd:=Sf Acj
def Hc(s:LB):Option (Int×Bool):=if s.length<=281474976710656 then
  match Lib.atoiAll s with
  | .ok n=>Option.bind (strconv_Itoa n) λt=>some (n,t==s&&(Ft n (-999999999)&&TL n 999999999))
  | .range=>some (Lib.atoiSat s,false)
  |_=>some (0,false)
  else none
abbrev Ji:=Option ((List (UInt8×Int×Unit))×Bool)
def Awz:Ji:=some (l9,true)
def SD:=Awz
def SI(j6:(List (UInt8×Int×Unit))->Ji)(Yp:Int-> (List (UInt8×Int×Unit))->Ji)(a:Bbf)(f:Int)(b:Bbl):Ji:=if(Bw f (Aa a))then(Af a f).bind λg=>if(g !=([101]:LB))then(Af g 0).bind λm=>(Ds ([32,102,100]:LB) m).bind λh=>(Bg g 1 (Aa g)).bind λn=>(Hc n).bind λ(k,o)=>if(((Bw h 1)||(!o))||(Bw k 0))then
some (([]:Bbl),false)
else(Ba b ([((Al h:UInt8),k,())]:Bbl)).bind λp=>Yp (Ae f 1) p
else(Ba b ([((3:UInt8),(0:Int),())]:Bbl)).bind λu=>Yp (Ae f 1) u
else
j6 b
def Sy:Nat->Int-> (List (UInt8×Int×Unit))->Ji
|0,_,_=>none
|z+1,c,d=>SI SD (Sy z) M c d
def TQ a:=Sy a Aq
def DM(j4:(List LB)->Int-> (List (UInt8×Int×Unit))->Ji)(a:Bbf):Ji:=j4 a 0 ([]:Bbl)
def Uw:=DM TQ
def Abl:Bbg:=if Baa then
some ((Ft L 0)&&(TL L 100000))
else
if(geq J 3)then
some (geq L 0)
else
some false
def Abx:=Abl
def Aaj(j2:UInt8->Int->Bool->Option Bool)(a:UInt8)(b:Int):Bbg:=if(geq a 1)then
j2 a b (geq a 1)
else
j2 a b (geq a 2)
def YF:=Aaj Abx
def KH:Bbg:=(YF J L).bind λz=>some (!z)
def RV:Bbe:=some 0
def UI:=RV
def Ay8:Bbe:=if Bas then
some 2
else
Baq
def VD:=Ay8 UI
def Axd:Bbe:=Y p9
def DA:=Axd VD
def TJ:Bbe:=Y (Ft (-1:Int) (0:Int))
def DH:=TJ DA
def TC(MP:Bb7)(a:Bbl)(b:Int):Bbe:=MP (Ae b 1)
def WC MP:=TC MP
def UT(j18:Bcl)(j15:Bb7)(a:Bbl)(b:Int)(g:Bool):Bbe:=if g then
j18 (Ft b 0)
else
j15 b
def CS MP a:=UT DA (WC MP a) a
def TE(j14:Bcz)(j17:Bbe)(a:Bbl)(b:Int):Bbe:=if(Bw b (Aa a))then(Af a b).bind λh=>(KH h.1 h.2.1).bind λg=>j14 b g
else
j17
def Tc:Nat->Int->Option Int
|0,_=>none
|z+1,c=>TE (CS (Tc z) l9) DH l9 c
def Axx a:=Tc a Aq
def bG(j11:(List (UInt8×Int×Unit))->Int->Option Int)(a:Bbl):Bbe:=if(Dp (Aa a) 200)then
some 4
else
j11 a 0
def XT:=bG Axx
def Uy:Option (LB×LB×Int×Int×Int×Int×Int×LI×Int×LB×Bool×Int×LB×Int):=(Qh z e c d j C E I A P D G).bind λi=>if(Ay i 0)then
some (([]:LB),([]:LB),0,0,0,0,0,([]:LI),0,([]:LB),false,0,([]:LB),i)
else
if(Bw o7 0)then
some (([]:LB),([]:LB),0,0,0,0,0,([]:LI),0,([]:LB),false,0,([]:LB),2)
else(Ej z e c d j C E I A P D G).bind λ(l,B,F,J,L,M,N,O,R,U,V,X)=>(Bg U 0 (Ge o7 (Aa U))).bind λY=>(Ke Y).bind λZ=>(Bg U (Ge o7 (Aa U)) (Aa U)).bind λl5=>some (l,B,F,J,L,M,N,O,R,l5,V,X,Z,0)
abbrev Bm:=Option (LB×LB×Int×Int×Int×Int×Int×LI×Int×LB×Bool×Int×(List (Int×LB×Unit))×Int)
abbrev Bbo:=List (Int×LB×Unit)
def Aua(f:LB)(g h k m n o:Int)(p:LB)(u:Bool)(v:Int)(a:LB)(aa:Bbo)(w:LB)(y:LI):Bm:=some (f,w,g,h,k,m,n,y,o,p,u,v,aa,0)
def Asn:=Aua
def Auj(j32:LB->Jz6 (LB->Bool->Int->LB-> (List (Int×LB×Unit))->LB->LI->Bm))(aa:Bbo)(f:LB)(g h k m n o:Int)(p:LB)(u:Bool)(v:Int)(a w:LB)(y:LI):Bm:=j32 f g h k m n o p u v a aa w y
def NA:=Auj Asn
abbrev Bbk:=Int->LB->Jz6 (LB->Bool->Int->LB-> (List (Int×LB×Unit))->LB->LI->Bm)
def Au7(lE:Bbk)(b:Bbl)(ab:Int)(dm:LB)(dn dp dq dr ds dt:Int)(du:LB)(dv:Bool)(dw:Int)(dx:LB)(dy:Bbo)(dz:LB)(fa:LI):Bm:=lE (Ae ab 1) dm dn dp dq dr ds dt du dv dw dx dy dz fa
def Je lE:=Au7 lE
def AU(j29:Bbk)(b:Bbl)(ac:UInt8×Int×Unit)(a:LB)(ad ab:Int)(f w:LB)(g h k m n:Int)(y:LI)(o:Int)(p:LB)(u:Bool)(v:Int)(ae:LB)(af ag ah ai aj ak:Int)(al:LB)(am:Bool)(an:Int)(aa:Bbo)(ao:LB)(ap:LI):Bm:=(
(Bg a (Ge ac.2.1 (Aa a)) (Aa a)).bind λbv=>(Ba aa ([(ad,([]:LB),())]:Bbo)).bind λar=>j29 ab ae af ag ah ai aj ak al am an bv ar ao ap)
def PA lE b:=AU (Je lE b) b
def Avb(j29:Bbk)(b:Bbl)(au ab:Int)(f w:LB)(g h k m n:Int)(y:LI)(o:Int)(p:LB)(u:Bool)(v:Int)(a av:LB)(aw ax ay az ba bb:Int)(bc:LB)(bd:Bool)(be:Int)(bf:LB)(aa:Bbo)(ar:LB)(bg:LI):Bm:=(Ba aa ([(au,bf,())]:Bbo)).bind λfb=>j29 ab av aw ax ay az ba bb bc bd be a fb ar bg
def MU lE b:=Avb (Je lE b) b
def Aut(j29:Bbk)(b:Bbl)(bh ab:Int)(f w:LB)(g h k m n:Int)(y:LI)(o:Int)(p:LB)(u:Bool)(v:Int)(a bi:LB)(bj bk bl bm bn bp:Int)(bq:LB)(br:Bool)(bs:Int)(aa:Bbo)(bt:LB)(bu:LI):Bm:=(Ba aa ([(bh,([]:LB),())]:Bbo)).bind λfc=>j29 ab bi bj bk bl bm bn bp bq br bs a fc bt bu
def NO lE b:=Aut (Je lE b) b
def AP(j26:(UInt8×Int×Unit)->LB->Int->Int->LB->LB->Jz5 (LI->Int->LB->Bool->Int->LB->Int->Int->Int->Int->Int->Int->LB->Bool->Int-> (List (Int×LB×Unit))->LB->LI->Bm))(j33:Int->Int->LB->LB->Jz5 (LI->Int->LB->Bool->Int->LB->LB->Int->Int->Int->Int->Int->Int->LB->Bool->Int->LB-> (List (Int×LB×Unit))->LB->LI->Bm))(j34:Int->Int->LB->LB->Jz5 (LI->Int->LB->Bool->Int->LB->LB->Int->Int->Int->Int->Int->Int->LB->Bool->Int-> (List (Int×LB×Unit))->LB->LI->Bm))(j29:Bbk)(j31:(List (Int×LB×Unit))->LB->Jz6 (LB->Bool->Int->LB->LB->LI->Bm))(b:Bbl)(ab:Int)(f:LB)(g h k m n o:Int)(p:LB)(u:Bool)(v:Int)(a:LB)(aa:Bbo)(w:LB)(y:LI):Bm:=if(Bw ab (Aa b))then(Af b ab).bind λac=>if(geq ac.1 1)then(
(
(
(Bg a 0 (Ge ac.2.1 (Aa a))).bind λaq=>(
(Gz f w g h k m n y o p u v aq).bind λ(ae,ao,af,ag,ah,ai,aj,ap,ak,al,am,an,ad)=>j26 ac a ad ab f w g h k m n y o p u v ae af ag ah ai aj ak al am an aa ao ap))))
else
if(geq ac.1 2)then(
(
(
(Uy f w g h k m n y o p u v ac.2.1).bind λ(av,ar,aw,ax,ay,az,ba,bg,bb,bc,bd,be,bf,au)=>j33 au ab f w g h k m n y o p u v a av aw ax ay az ba bb bc bd be bf aa ar bg)))
else
if(geq ac.1 3)then(
(
(
(Ky f w g h k m n y o p u v).bind λ(bi,bt,bj,bk,bl,bm,bn,bu,bp,bq,br,bs,bh)=>j34 bh ab f w g h k m n y o p u v a bi bj bk bl bm bn bp bq br bs aa bt bu)))
else
j29 ab f g h k m n o p u v a aa w y
else
j31 aa f g h k m n o p u v a w y
def Gq:Nat->Int->LB->Jz6 (LB->Bool->Int->LB-> (List (Int×LB×Unit))->LB->LI->Bm)
|0,_,_,_,_,_,_,_,_,_,_,_,_,_,_,_=>none
|z+1,c,d,e,i,j,l,A,B,C,D,E,F,G,I,J=>AP (PA (Gq z) l9) (MU (Gq z) l9) (NO (Gq z) l9) (Je (Gq z) l9) NA l9 c d e i j l A B C D E F G I J
def Aue b:=Gq b Aq
def SC(j17:(List (UInt8×Int×Unit))->Int->LB->Jz6 (LB->Bool->Int->LB-> (List (Int×LB×Unit))->LB->LI->Bm))(fd fe:LB)(b:Bbl):Bm:=(XT b).bind λbx=>if(Ay bx 0)then
some (([]:LB),([]:LB),0,0,0,0,0,([]:LI),0,([]:LB),false,0,([]:Bbo),bx)
else(Rs fd).bind λ(ff,fg,fh,fi,fj,fk,fl,fm,fn,fo,fp,fq,bz)=>if(Ay bz 0)then
some (([]:LB),([]:LB),0,0,0,0,0,([]:LI),0,([]:LB),false,0,([]:Bbo),bz)
else
j17 b 0 ff fh fi fj fk fl fn fo fp fq fe ([]:Bbo) fg fm
def Uz:=SC Aue
def IS:Bbw:=(Qh z e c d j C E I A P D G).bind λi=>if(Ay i 0)then
some (0,i)
else
some ((Ae (Aa e) (Cf 8 (Aa I))),0)
abbrev Ik:=Option (Int×Int×Int)
def Abk:Ik:=some (c,d,0)
def ZP:=Abk
def Aa8(bk7:LB->Jz3 (LB->Int->Int->Int->Int->Int->Int->LB->Bool->Int->LB->LI->Ik))(a:Bbl)(b f g:Int)(ax af:LB)(ag ah ai aj ak al:Int)(ae:LB)(am:Bool)(an:Int)(ao:LB)(ap:LI):Ik:=(IS af ao ag ah ai aj ak ap al ae am an).bind λ(ay,aq)=>if(Ay aq 0)then
some (0,0,aq)
else
bk7 ax (G7 b ay) (G7 f (Aa ae)) (Ae g 1) af ag ah ai aj ak al ae am an ao ap
def ZK bk7:=Aa8 bk7
def fD(j10:Jz3 (LB->LB->Int->Int->Int->Int->Int->Int->LB->Bool->Int->LB->LI->Ik))(j12:Int->Int->Ik)(a:Bbl)(h:LB)(b f g:Int)(k:LB)(m n o p u v:Int)(w:LB)(y:Bool)(aa:Int)(ab:LB)(ac:LI):Ik:=if(Bw g (Aa a))then(Af a g).bind λad=>if(geq ad.1 1)then(Bg h 0 (Ge ad.2.1 (Aa h))).bind λaz=>(Gz k ab m n o p u ac v w y aa az).bind λ(ba,bb,bc,bd,be,bf,bg,bh,bi,bj,bk,bl,fa)=>(Bg h (Ge ad.2.1 (Aa h)) (Aa h)).bind λbm=>j10 b f g bm ba bc bd be bf bg bi bj bk bl bb bh
else
if(geq ad.1 2)then(Uy k ab m n o p u ac v w y aa ad.2.1).bind λ(bn,bp,bq,br,bs,bt,bu,bv,bw,bx,bz,da,fb,fc)=>j10 b f g h bn bq br bs bt bu bw bx bz da bp bv
else
if(geq ad.1 3)then(Ky k ab m n o p u ac v w y aa).bind λ(db,dc,dd,de,df,dg,dh,di,dj,dk,dl,dm,fd)=>j10 b f g h db dd de df dg dh dj dk dl dm dc di
else
j10 b f g h k m n o p u v w y aa ab ac
else
j12 b f
def CA:Nat->LB->Jz3 (LB->Int->Int->Int->Int->Int->Int->LB->Bool->Int->LB->LI->Ik)
|0,_,_,_,_,_,_,_,_,_,_,_,_,_,_,_,_=>none
|z+1,c,d,e,i,j,l,A,B,C,D,E,F,G,I,J,L=>fD (ZK (CA z) l9) ZP l9 c d e i j l A B C D E F G I J L
def Adx a:=CA a Aq
def fW(j7:(List (UInt8×Int×Unit))->LB->Jz3 (LB->Int->Int->Int->Int->Int->Int->LB->Bool->Int->LB->LI->Ik))(ar au:LB)(a:Bbl):Ik:=(Uz ar au a).bind λ(fe,ff,fg,fh,fi,fj,fk,fl,fm,fn,fo,fp,fq,av)=>if(Ay av 0)then
some (0,0,av)
else(Rs ar).bind λ(dn,dp,dq,dr,ds,dt,du,dv,dw,dx,dy,dz,aw)=>if(Ay aw 0)then
some (0,0,aw)
else
j7 a au 0 0 0 dn dq dr ds dt du dw dx dy dz dp dv
def NW:=fW Adx
abbrev Df:=Option (Int×Int×Int×Int×Int×Int)
def Acu(a:LB)(m n o p u f g b ad y:Int)(h:LI):Df:=if(Bw (Aa a) y)then
some (0,0,0,0,0,24)
else
some (f,g,b,ad,y,0)
def Abd:=Acu
def Aas(j12:LB->Jz10 (LI->Df))(a:LB)(m n o p u f g b:Int)(h:LI)(ae ad y:Int):Df:=if(Ay ae 0)then
some (0,0,0,0,0,ae)
else
j12 a m n o p u f g b ad y h
def Lr:=Aas Abd
abbrev Bbx:=LB->Jz8 (LI->Int->Int->Int->Df)
def ZU(j11:Bbx)(a:LB)(k:LI)(m n o p u f g b v:Int)(h:LI):Df:=j11 a m n o p u f g b h 0 (Ae (Ae b (Cf 4 (Aa k))) 4) v
def GD:=ZU Lr
def cX(j10:LB->LI->Jz9 (LI->Df))(bk8:Int->Int->Df)(k:LI)(a:LB)(m n o p u f g b:Int)(h:LI)(w v:Int):Df:=if(Bw w (Aa k))then(Af k w).bind λ_=>(Af k w).bind λag=>bk8 (Ae w 1) (Ae v ag)
else
j10 a k m n o p u f g b v h
def Zd:Nat->Int->Int->Df
|0,_,_=>none
|z+1,c,d=>cX GD (Zd z) l i A V l5 Azv Azw Azx G o7 Bah c d
def Ak6 k a m n o p u f g b h:=Zd k a m n o p u f g b h Aq
def gZ(j11:Bbx)(j8:LI->LB->Jz8 (LI->Int->Int->Df))(aa:Int)(a:LB)(m n o p u f g b ab ac:Int)(k h:LI):Df:=if(Ay aa 0)then
j11 a m n o p u f g b h aa ab ac
else
j8 k a m n o p u f g b h 0 (Ae (Ae b (Cf 4 (Aa k))) 4)
def Awi:=gZ Lr Ak6
def dR(j11:Bbx)(j7:Int->LB->Jz10 (LI->LI->Df))(a:LB):Df:=(MX a).bind λ(m,n,o,p,u,f,g,b,ab,ac,h,af)=>if(Ay af 0)then
some (0,0,0,0,0,af)
else
if(Bw (Aa a) b)then
j11 a m n o p u f g b h 24 ab ac
else(Bg a b (Aa a)).bind λah=>(Ws ah (Aa h)).bind λ(k,aa)=>j7 aa a m n o p u f g b ab ac k h
def iU:=dR Lr Awi
abbrev Ks:=Option (Int×UInt8×Int×Int×Int)
def Aax:Ks:=some (0,6,0,0,0)
def bP:=Aax
def aL(j6:Ks)(Yp:Int->Int->Ks)(a:Int)(b:LI)(g h k m n o p f:Int):Ks:=if(Bw f (Aa b))then(Af b f).bind λ_=>(Af b f).bind λv=>if(Bw a (Ae p v))then(OR g h k m n f).bind λ(ad,ae)=>some (0,5,f,ad,ae)
else
Yp (Ae p v) (Ae f 1)
else
j6
def Wi:Nat->Int->Int->Ks
|0,_,_=>none
|z+1,d,e=>aL bP (Wi z) c I A V l5 Azv Azw Azx d e
def Ab6 a b g h k m n o:=Wi a b g h k m n o Aq
def aI(j4:Int->LI->Jz8 Ks)(u w:LB)(a:Int):Ks:=(OP u w).bind λy=>if(Ay y 0)then
some (0,0,0,0,y)
else
if((Bw a 0)||(Ft a (Aa u)))then
some (0,0,0,0,2)
else(iU u).bind λ(af,ag,ah,aa,ai,ab)=>if(Ay ab 0)then
some (0,0,0,0,ab)
else(Gi u w).bind λ(g,h,k,m,n,o,b,ac)=>if(Ay ac 0)then
some (0,0,0,0,ac)
else
if(Bw a af)then
some (0,1,0,0,0)
else
if(Bw a ag)then
some (0,2,0,0,0)
else
if(Bw a ah)then
some (0,3,0,0,0)
else
if(Bw a aa)then
some (0,4,0,0,0)
else
j4 a b g h k m n o aa 0
def Mf:=aI Ab6
abbrev Be:=Option (LB×Int)
def Aa5:Be:=(Bg z 0 (Aa z)).bind λc=>(Td c).bind λ(d,e)=>if(Ay e 0)then
some (([]:LB),38)
else
some (([]:LB),0)
def aY:=Aa5
def ZN(j21:LB->Be)(a:LB)(y:Int):Be:=if(Bw y 0)then
none
else
j21 a
def ZR:Nat->Be
|0=>none
|d+1=>ZN aY z c
def Acy a y:=ZR a y Aq
def bY(j19:LB->Int->Be)(a:LB)(y ah:Int):Be:=if(Ay ah 0)then
some (([]:LB),ah)
else
if((Bw y 0)||(Ft y 0))then
some (([]:LB),2)
else
j19 a y
def GF:=bY Acy
def ZF:Be:=(Bg z (Ae c d) (Aa z)).bind λe=>(Td e).bind λ(j,l)=>if(Ay l 0)then
some (([]:LB),38)
else
some (i,0)
def GL:=ZF
def Aam(ZD:Int->LB->Be)(a:LB)(f:LI)(b k n m h o p:Int)(u:LX)(v g:LI)(w:Int)(ad:LB):Be:=ZD (Ae w 1) ad
def Aan ZD:=Aam ZD
def Aa9(j30:Int->LB->Be)(a:LB)(f:LI)(b k n m h o p:Int)(u:LX)(v g:LI)(w:Int)(aa:LB)(ai:Int)(ar:LB):Be:=if(Ay ai 0)then
some (([]:LB),ai)
else(Ba aa ar).bind λad=>j30 w ad
def FX ZD a f b k n m h o p u v g:=Aa9 (Aan ZD a f b k n m h o p u v g) a f b k n m h o p u v g
abbrev Bdq:=Int->LB->Int->LB->Be
def ZX(j29:Bdq)(a:LB)(f:LI)(b k m h n o p:Int)(u:LX)(v g:LI)(ab w:Int)(ae:LX)(aa:LB):Be:=if(Ay ab 0)then
j29 w aa ab ([]:LB)
else(Kh h ae).bind λ(au,av)=>j29 w aa av au
def ZZ ZD a f b k m h n o p u v g:=ZX (FX ZD a f b k n m h o p u v g) a f b k m h n o p u v g
def aJ(j29:Bdq)(j28:Int->Int->LX->LB->Be)(b:Int)(a:LB)(f:LI)(k m h:Int)(u:LX)(n o p:Int)(v g:LI)(w af ac:Int)(aa:LB):Be:=if(Dp (Ae b ac) (Aa a))then
j29 w aa 24 ([]:LB)
else(Af f w).bind λ_=>(Bg a (Ae b af) (Ae b ac)).bind λaw=>(Af f w).bind λax=>(Ko m h u ax aw).bind λ(ae,ab)=>j28 ab w ae aa
def FU ZD b a f k m h u n o p v g:=aJ (FX ZD a f b k n m h o p u v g) (ZZ ZD a f b k m h n o p u v g) b a f k m h u n o p v g
def aG(j27:Jz3 (LB->Be))(j32:LB->Int->Int->LB->Be)(a:LB)(f:LI)(b k n m h o p:Int)(u:LX)(v g:LI)(w:Int)(aa:LB):Be:=if(Bw w (Aa f))then(Af g w).bind λ_=>(Af g (Ae w 1)).bind λ_=>(Af g w).bind λaf=>(Af g (Ae w 1)).bind λac=>j27 w af ac aa
else
j32 a b k aa
def Vw:Nat->Int->LB->Be
|0,_,_=>none
|e+1,i,A=>aG (FU (Vw e) c z l d C E B j N Azs Az8 Bae) GL z l c d j C E N Azs B Az8 Bae i A
def Aa6 a f b k n m h o p u v g:=Vw a f b k n m h o p u v g Aq
def GJ(j22:LB->LI->Jz7 (LX->LI->LI->Int->LB->Be))(a:LB)(y:Int)(f:LI)(b k n m h o p:Int)(u:LX)(v g:LI):Be:=if(Ay (0:Int) (0:Int))then
some (([]:LB),0)
else
if((Bw y 0)||(Ft y (Aa f)))then
some (([]:LB),2)
else
j22 a f b k n m h o p u v g y ([]:LB)
def GC:=GJ Aa6
def JE(j17:LB->Int->Int->Be)(j18:LB->Int->LI->Jz7 (LX->LI->LI->Be))(a aj:LB)(y:Int):Be:=(Gi a aj).bind λ(n,m,h,o,p,b,v,ak)=>if(Ay ak 0)then
j17 a y ak
else(Bn n m h o p).bind λ(f,al)=>if(Ay al 0)then
j17 a y al
else(EP v).bind λ(g,am)=>if(Ay am 0)then
j17 a y am
else(Nx aj).bind λ(u,an)=>if(Ay an 0)then
j17 a y an
else(Af g (Aa f)).bind λ_=>(Af g (Aa f)).bind λk=>j18 a y f b k n m h o p u v g
def Xo:=JE GF GC
def EG:Option (Int×Int×Int):=(Kf c d).bind λ(z,e)=>if(Ay e 0)then
some (0,0,e)
else
if((Bw j 0)||(Ft j d))then
some (0,0,2)
else(Jo c).bind λ(i,l)=>(Ew (Ay i 0)).bind λ_=>(Ew (Ay i 0)).bind λ_=>some ((Ex j i),(Jh j i),0)
def WH:Bb3:=(Gi z e).bind λ(d,i,j,l,A,B,C,D)=>if(Ay D 0)then
some (([]:LB),D)
else
if((Bw c 0)||(Ft c A))then
some (([]:LB),2)
else(EG l A c).bind λ(E,F,G)=>if(Ay G 0)then
some (([]:LB),G)
else(Xo z e E).bind λ(I,J)=>if(Ay J 0)then
some (([]:LB),J)
else(Ew (decide ((Aa I)<= (Aa I)/\ (Aa I)<=Aa I))).bind λ_=>(Bg I (Ex (Cf (Cf F i) j) 8) (Aa I)).bind λL=>some (L,0)
def eC:Bb3:=if(((Bw c 0)||(Ft c (Aa z)))||(geq J 0))then
some (([]:LB),2)
else(Ke z).bind λd=>(Af d c).bind λ_=>(Af d c).bind λe=>(Af d c).bind λ_=>(Me d c (oQ e J)).bind λi=>some (i,0)
abbrev Gu:=Option (LB×Int)
def Ay6:Gu:=if(!D)then
some (([]:LB),2)
else
some (Z,0)
def VN:=Ay6
def Aah(bk6:Int->Bool->LB->Gu)(a:Int)(g:UInt32)(b:Int)(m:Bool)(n:LB):Gu:=bk6 (Ae b 1) m n
def ZS bk6:=Aah bk6
def bE(j8:Int->Bool->LB->Gu)(j10:Bool->LB->Gu)(a:Int)(g:UInt32)(b:Int)(h:Bool)(f:LB):Gu:=if(Bw b 32)then(Ew (Ft b 0)).bind λ_=>if(geq (Ec (Dj g (GI.toZ b).toNat) 1) 1)then
if(Bw (Ae a b) (Cf 8 (Aa f)))then(Af f (Ex (Ae a b) 8)).bind λ_=>(Ew (Ft (Jh (Ae a b) 8) 0)).bind λ_=>(Af f (Ex (Ae a b) 8)).bind λo=>(Af f (Ex (Ae a b) 8)).bind λ_=>(Me f (Ex (Ae a b) 8) (oQ o (Fe (1:UInt8) (GI.toZ (Jh (Ae a b) 8)).toNat))).bind λp=>j8 b true p
else
j8 b h f
else
j8 b h f
else
j10 h f
def Vr:Nat->Int->Bool->LB->Gu
|0,_,_,_=>none
|z+1,d,e,i=>bE (ZS (Vr z) c X) VN c X d e i
def Acp a g:=Vr a g Aq
def ZH(j6:Int->UInt32->Int->Bool->LB->Gu)(k:LB)(a:Int)(g:UInt32):Gu:=if((Bw a 0)||(Ft a (Cf 8 (Aa k))))then
some (([]:LB),2)
else(Ke k).bind λu=>j6 a g 0 false u
def HT:=ZH Acp
abbrev Fu:=Option (LB×Int)
def As5:Fu:=(Ky z Z c d j C E Bay N i D G).bind λ(e,l,A,B,F,I,J,L,M,O,P,R,U)=>some (O,U)
def NK:=As5
def Au9(bk7:LB->Int->LB->Jz6 (LB->Bool->Int->LB->LI->Fu))(a:LI)(b:LB)(ag ah f:Int)(aj:LB)(ac ad ae ak af al:Int)(ai:LB)(am:Bool)(an:Int)(ao:LB)(ab:LI):Fu:=if(Ay ag 0)then
some (ai,ag)
else(Bg b ah (Aa b)).bind λau=>bk7 au (Ae f 1) aj ac ad ae ak af al ai am an ao ab
def OX bk7:=Au9 bk7
def UK(j10:LB->Jz3 (LB->Int->Int->Int->Int->Int->Int->LB->Bool->Int->LB->LI->Fu))(j12:LB->Jz6 (LB->Bool->Int->LB->LI->Fu))(a:LI)(b:LB)(f:Int)(g:LB)(h k m n o p:Int)(u:LB)(v:Bool)(w:Int)(y:LB)(aa:LI):Fu:=if(Bw f (Aa a))then(Af a f).bind λah=>(Bg b 0 ah).bind λap=>(Gz g y h k m n o aa p u v w ap).bind λ(aj,ao,ac,ad,ae,ak,af,ab,al,ai,am,an,ag)=>j10 b ag ah f aj ac ad ae ak af al ai am an ao ab
else
j12 g h k m n o p u v w y aa
def Tu:Nat->LB->Int->LB->Jz6 (LB->Bool->Int->LB->LI->Fu)
|0,_,_,_,_,_,_,_,_,_,_,_,_,_,_=>none
|z+1,c,d,e,i,j,A,B,C,D,E,F,G,I,J=>UK (OX (Tu z) l) NK l c d e i j A B C D E F G I J
def Ay7 a:=Tu a Aq
def VR(j7:LI->LB->Int->LB->Jz6 (LB->Bool->Int->LB->LI->Fu))(av aw:LB)(a:LI):Fu:=(Rs av).bind λ(ax,ay,az,ba,bb,bc,bd,be,bf,bg,bh,bi,aq)=>if(Ay aq 0)then
some (([]:LB),aq)
else
j7 a aw 0 ax az ba bb bc bd bf bg bh bi ay be
def DW:=VR Ay7
abbrev Cu:=Option (Int×Int)
def Aa7:Cu:=some (c,0)
def bB:=Aa7
abbrev Bdu:=Int->Int->Cu
def Aal(Oa:Bdu)(g b:LB)(f a:Int)(h:LB)(k m y:Int):Cu:=Oa y (Ae m 1)
def Acs Oa:=Aal Oa
def Abc(j20:Bdu)(g b:LB)(f a:Int)(h:LB)(k n p m:Int)(u:LI):Cu:=(Ba u ([(As (Aa b) p)]:LI)).bind λv=>(DW g b v).bind λ(aa,ab)=>if(Ay ab k)then
j20 m (Ae n 1)
else(Md aa h).bind λac=>if(!ac)then
j20 m (Ae n 1)
else
j20 m n
def ZJ Oa g b f a h k:=Abc (Acs Oa g b f a h k) g b f a h k
def ZI(j19:Jz3 (LI->Cu))(lE:Int->Int->LI->Cu)(g b:LB)(f a:Int)(h:LB)(k n m p o:Int)(u:LI):Cu:=if(Bw o a)then(Ew (Ft o 0)).bind λ_=>if(geq (Ec (J' m (GI.toZ o).toNat) 1) 1)then(Ba u ([(As (Ae (Ae f o) 1) p)]:LI)).bind λv=>lE (Ae (Ae f o) 1) (Ae o 1) v
else
lE p (Ae o 1) u
else
j19 n p m u
def Vq(Oa:Bdu)(g b:LB)(f a:Int)(h:LB)(k n m:Int):Nat->Int->Int->LI->Cu
|0,_,_,_=>none
|q+1,p,o,u=>ZI (ZJ Oa g b f a h k) (Vq Oa g b f a h k n m q) g b f a h k n m p o u
def aE Oa g b f a h k n m:=Vq Oa g b f a h k n m Aq
def bF(j17:Jz4 (LI->Cu))(j22:Int->Cu)(g b:LB)(f a:Int)(h:LB)(k n m:Int):Cu:=if(Bw m (Fe (1:Int) (GI.toZ a).toNat))then
j17 n m 0 0 ([]:LI)
else
j22 n
def Wj:Nat->Int->Int->Cu
|0,_,_=>none
|j+1,l,B=>bF (aE (Wj j) z e c d i A) bB z e c d i A l B
def Abn g b f a h k:=Wj g b f a h k Aq
def dF(j12:LB->LB->Int->Int->LB->Jz3 Cu)(g b:LB)(f a:Int):Cu:=if(Dp (Aa b) 100000)then
some (0,2)
else(Rs g).bind λ(ad,ae,af,ag,ah,ai,aj,ak,al,am,an,ao,w)=>if(Ay w 0)then
some (0,w)
else
if(((((Bw a 0)||(Dp a 8))||(Bw f 0))||(Dp f (Aa b)))||(Dp a (As (Aa b) f)))then
some (0,2)
else(DW g b ([(Aa b)]:LI)).bind λ(h,k)=>(Ew (Ft a 0)).bind λ_=>j12 g b f a h k 0 0
def OZ:=dF Abn
def EI:Option (Int×Bool):=(Jo j).bind λ(z,e)=>(Mn c d).bind λl=>some (z,(((geq l 0)&&(geq e 0))&&(TL (Aa i) 64)))
abbrev Bb9:=Option (Int×Int×Int×LB×LB×LX×(List LB)×LB×Bool×Int×Int)
def fY:Bb9:=(EI c d j i).bind λ(z,e)=>if(!e)then
some (0,0,0,([]:LB),([]:LB),([]:LX),([]:Bbf),([]:LB),false,0,2)
else
some (c,d,j,i,([]:LB),([]:LX),([]:Bbf),([]:LB),false,0,0)
def Zo:Bbe:=some (Ex (Cf c d) 8)
def Uq(a h k:Int)(m n:LB)(b:LX)(f:Bbf)(o:LB)(p:Bool)(u g:Int):Bbe:=(Ew (Ay a 0)).bind λ_=>some (Ae (Cf (Aa f) g) (Ex (Aa b) a))
def IB(a g h:Int)(k m:LB)(n:LX)(o:Bbf)(p:LB)(u:Bool)(v b f:Int):Bbg:=some ((TL b 1000)&&(TL (Cf f a) 4000))
def Ap6:Bbg:=some (!D)
def Ap8:=Ap6
abbrev Bda:=Bool->Option Bool
def Amn(j24:Bda)(y:Bool):Bbg:=j24 y
def HC:=Amn Ap8
def Aor(j23:Bda):Bbg:=j23 (Ft (-1:Int) (0:Int))
def GU:=Aor HC
def Ap5(Ff:Bcq)(b:Bbf)(f a h:Int):Bbg:=Ff (Ae h 1)
def Anv Ff:=Ap5 Ff
def Ap9(j23:Bda)(j20:Bcq)(b:Bbf)(f a h:Int)(w:LB):Bbg:=if((Bw (Aa w) 5)||(Dp (Aa w) (Ae (Ex (Ae (Cf (Cf 81 f) a) 7) 8) 4)))then
j23 (Ft h 0)
else
j20 h
def GO Ff b f a:=Ap9 HC (Anv Ff b f a) b f a
def GV(j19:Int->LB->Option Bool)(j22:Bbg)(b:Bbf)(f a h:Int):Bbg:=if(Bw h (Aa b))then(Af b h).bind λw=>j19 h w
else
j22
def Mv:Nat->Int->Option Bool
|0,_=>none
|z+1,c=>GV (GO (Mv z) M p8 Az3) GU M p8 Az3 c
def Aml b f a:=Mv b f a Aq
def GN(j16:(List LB)->Jz3 (Option Bool))(f a k o:Int)(p m:LB)(g:LX)(b:Bbf)(n:LB)(u:Bool)(v:Int):Bbg:=j16 b f a 0
def Apn:=GN Aml
abbrev Bb6:=Jz4 (LB->LB->LX-> (List LB)->LB->Bool->Int->Option Bool)
def GQ(j15:Bb6)(f a k o:Int)(p m:LB)(g:LX)(b:Bbf)(n:LB)(u:Bool)(v aa:Int):Bbg:=(Uq a k o p m g b n u v f).bind λab=>(IB a k o p m g b n u v aa ab).bind λac=>if(!ac)then
some false
else
j15 f a k o p m g b n u v
def Ana:=GQ Apn
def GW(j14:Jz4 (LB->LB->LX-> (List LB)->LB->Bool->Int->Int->Option Bool))(f a k o:Int)(p m:LB)(g:LX)(b:Bbf)(n:LB)(u:Bool)(v:Int):Bbg:=(Rm k g).bind λad=>if(Ay ad 0)then
some false
else
if(Dp (Aa g) 0)then
j14 f a k o p m g b n u v (Ae (Aa b) 1)
else
j14 f a k o p m g b n u v (Aa b)
def Uc:=GW Ana
def Wo(j13:Bb6)(a k o:Int)(p m:LB)(g:LX)(b:Bbf)(n:LB)(u:Bool)(v f:Int):Bbg:=if(Dp (Aa n) 0)then
if true then
if true then
if(true||(Dp (Aa b) 1000))then
some false
else
j13 f a k o p m g b n u v
else(Ew (Ay a 0)).bind λ_=>if((Ft (Ex (Aa g) a) f)||(Dp (Aa b) 1000))then
some false
else
j13 f a k o p m g b n u v
else(Ew (Ay a 0)).bind λ_=>if(Ay (Jh (Aa g) a) 0)then
if(true||(Dp (Aa b) 1000))then
some false
else
j13 f a k o p m g b n u v
else(Ew (Ay a 0)).bind λ_=>if((Ft (Ex (Aa g) a) f)||(Dp (Aa b) 1000))then
some false
else
j13 f a k o p m g b n u v
else(Zo a k).bind λae=>if(Ft (Aa m) ae)then
if true then
if(true||(Dp (Aa b) 1000))then
some false
else
j13 f a k o p m g b n u v
else(Ew (Ay a 0)).bind λ_=>if((Ft (Ex (Aa g) a) f)||(Dp (Aa b) 1000))then
some false
else
j13 f a k o p m g b n u v
else(Ew (Ay a 0)).bind λ_=>if(Ay (Jh (Aa g) a) 0)then
if(true||(Dp (Aa b) 1000))then
some false
else
j13 f a k o p m g b n u v
else(Ew (Ay a 0)).bind λ_=>if((Ft (Ex (Aa g) a) f)||(Dp (Aa b) 1000))then
some false
else
j13 f a k o p m g b n u v
def Wa:=Wo Uc
def PW:Bbe:=(EI c d j i).bind λ(z,e)=>if(!e)then
some 8
else
if(Ay p8 0)then
if(!(((((geq p8 18)||(geq p8 24))&&(!Az9))&&(geq (Ae (Ae (Aa o9) (Aa R)) (Aa M)) 0))&&(geq (Aa l6) 0)))then
some 8
else
some 0
else
if Az9 then
if(!((geq (Ae (Ae (Aa o9) (Aa R)) (Aa M)) 0)&&(TL (Aa l6) 100000)))then
some 8
else
some 0
else(Wa c d j i o9 R M l6 Az9 p8 z).bind λl=>if(!l)then
some 8
else
some 0
abbrev Ha:=Option (Int×Int×Int×LB×LB×LX×(List LB)×LB×Bool×Int)
def Aco(b f g:Int)(h:LB)(a:Bbf)(k:Bool)(m:Int)(u:Bbf)(n:LB)(o:LX)(p:LB):Ha:=some (b,f,g,h,n,o,u,p,k,m)
def aW:=Aco
def GK(j8:Jz3 (LB-> (List LB)->Bool->Int-> (List LB)->LB->LX->LB->Ha))(bk6:Int-> (List LB)->Ha)(w a:Bbf)(b f g:Int)(h:LB)(k:Bool)(m:Int)(n:LB)(o:LX)(p:LB)(v:Int)(u:Bbf):Ha:=if(Bw v (Aa (Cq w a)))then(Af u v).bind λ_=>(Af u v).bind λy=>(Bk y).bind λaa=>(Af u v).bind λ_=>(Me u v aa).bind λab=>bk6 (Ae v 1) ab
else
j8 b f g h a k m u n o p
def Pv:Nat->Int-> (List LB)->Ha
|0,_,_=>none
|z+1,c,d=>GK aW (Pv z) M Bai Ba4 Ba5 Ba6 y7 Baa Ba7 Baj Az4 Bak c d
def Abq w a b f g h k m n o p:=Pv w a b f g h k m n o p Aq
def FZ(j6:(List LB)-> (List LB)->Jz3 (LB->Bool->Int->LB->LX->LB->Int-> (List LB)->Ha))(b f g:Int)(h:LB)(a:Bbf)(k:Bool)(m:Int)(n:LB)(o:LX)(p:LB):Ha:=(mkI (Aa a) ([]:LB)).bind λw=>(Ew (geq (Aa a) (Aa a))).bind λ_=>j6 w a b f g h k m n o p 0 (Cq w a)
def aX:=FZ Abq
def FM(j5:Jz3 (LB-> (List LB)->Bool->Int->LB->LX->LB->Ha))(b f g:Int)(h ac:LB)(ad:LX)(a:Bbf)(ae:LB)(k:Bool)(m:Int):Ha:=(Bk ac).bind λn=>(Cg ad).bind λo=>(Bk ae).bind λp=>j5 b f g h a k m n o p
def HY:=FM aX
abbrev FR:=Option (Int×Int×Int×LB×LB×LX×(List LB)×LB×Bool×Int×Int×Int)
def Awv:FR:=(HY d j C i o9 R M l6 Az9 p8).bind λ(z,e,l,A,B,D,E,F,G,I)=>some (z,e,l,A,B,D,E,F,G,I,c,Az3)
def Aza:=Awv
def Aw5(j2:Jz4 (LB->LB->LX-> (List LB)->LB->Bool->Int->Int->FR))(g h b:Int)(k m:LB)(n:LX)(o:Bbf)(p:LB)(f:Bool)(a:Int):FR:=(PW g h b k m n o p f a).bind λv=>if(Ay v 0)then
some (0,0,0,([]:LB),([]:LB),([]:LX),([]:Bbf),([]:LB),false,0,0,v)
else(Jo b).bind λ(u,aj)=>if(Ay a 0)then
j2 u g h b k m n o p f a a
else
if f then
j2 u g h b k m n o p f a 36
else
j2 u g h b k m n o p f a aj
def EL:=Aw5 Aza
def PT:Bbe:=(Mn c d).bind λz=>if(Ay z 0)then
some z
else(Rm d B).bind λe=>if(Ay e 0)then
some e
else
if(geq (Aa B) 0)then
some 2
else(Ew (Ay c 0)).bind λ_=>if(Ay (Jh (Aa B) c) 0)then
some 2
else
some 0
abbrev Gf:=Option (LX×Int)
def yH:Gf:=some (B,0)
def zF:=yH
abbrev Bc7:=Int->LX->Gf
def xu(Oa:Bc7)(b a:Int)(u:LX):Gf:=Oa (Ae a b) u
def yS Oa:=xu Oa
def yP(j20:Bc7)(b a:Int)(g:LX):Gf:=if(Dp (As ((Ae a b)-a) 1) 0)then(Ew (decide (0<= (As ((Ae a b)-a) 1)/\ (As ((Ae a b)-a) 1)<((Ae a b)-a)))).bind λ_=>Option.bind (Ew (decide (0<= (As (As ((Ae a b)-a) 1) 1)/\ (As (As ((Ae a b)-a) 1) 1)<((Ae a b)-a)))) λ_=>(Af g (a+(As ((Ae a b)-a) 1))).bind λk=>(Af g (a+(As (As ((Ae a b)-a) 1) 1))).bind λm=>(Ew (decide (0<= (As ((Ae a b)-a) 1)/\ (As ((Ae a b)-a) 1)<((Ae a b)-a)))).bind λ_=>(Me g (a+(As ((Ae a b)-a) 1)) (As k (Ex m 2))).bind λn=>j20 a n
else
j20 a g
def zH Oa b:=yP (yS Oa b) b
def zD(j19:Bc7)(lE:Bc7)(b a f:Int)(g:LX):Gf:=if(Bw f (As ((Ae a b)-a) 1))then(Ew (decide (0<= (Ae f 1)/\ (Ae f 1)<((Ae a b)-a)))).bind λ_=>(Ew (decide (0<=f/\f<((Ae a b)-a)))).bind λ_=>(Af g (a+(Ae f 1))).bind λk=>(Af g (a+f)).bind λm=>(Ew (decide (0<=f/\f<((Ae a b)-a)))).bind λ_=>(Me g (a+f) (As k m)).bind λn=>lE (Ae f 1) n
else
j19 a g
def OG(Oa:Bc7)(b a:Int):Nat->Int->LX->Gf
|0,_,_=>none
|q+1,f,g=>zD (zH Oa b) (OG Oa b a q) b a f g
def zP Oa b a:=OG Oa b a Aq
def zM(j17:Int->Int->LX->Gf)(j22:LX->Gf)(b a:Int)(h:LX):Gf:=if(Bw a (Aa h))then(jN (Aa h) a (Ae a b)).bind λ_=>j17 a 0 h
else
j22 h
def OU:Nat->Int->LX->Gf
|0,_,_=>none
|z+1,d,e=>zM (zP (OU z) c) zF c d e
def xY b:=OU b Aq
def Y4(j12:Int->Int->LX->Gf)(b:Int)(o:LX):Gf:=(jS b o).bind λp=>if(Ay p 0)then
some (([]:LX),p)
else(Cg o).bind λv=>j12 b 0 v
def X0:=Y4 xY
def PC:Bcy:=(XU c B R).bind λ(z,d)=>if(Ay d 0)then
some (0,0,(List.replicate 16 (0:Int32)),(List.replicate 16 (0:Int32)),d)
else(XA c B R O (As O z)).bind λ(e,i,j)=>some ((As O z),e,i,j,0)
def Un:Bcn:=(Xs c O Az0 y8 y5).bind λz=>if(Ay z 0)then
some (0,0,0,0,(List.replicate 16 (0:Int32)),(List.replicate 16 (0:Int32)),z)
else(Xu c O).bind λ(d,e)=>(PC Az0 y8 y5 (As Azt d)).bind λ(i,j,l,A,B)=>(
some (i,c,Azt,j,l,A,B))
def wP:Option UInt32:=some (oQ (Fe (Al O:UInt32) (GI.toZ (1:UInt64)).toNat) (Al (Dj O (GI.toZ (31:UInt64)).toNat):UInt32))
abbrev Cw:=Option (LU×Int)
def Ar2:Cw:=some (l8,0)
def ML:=Ar2
def LO(j12:LU->Cw)(RW:Int-> (List (Int×Int32×(Int×LX×LX×Unit)×Unit))->LU->Cw)(b:LX)(a f g:Int)(k:Bbp)(h:LU):Cw:=if(Bw g (Aa b))then(Af b g).bind λ_=>(Af b g).bind λac=>(Ew (Ay a 0)).bind λ_=>(Af k (Jh g a)).bind λ_=>(Af k (Jh g a)).bind λp=>(Un p.1 p.2.1 p.2.2.1.1 p.2.2.1.2.1 p.2.2.1.2.2.1 ac).bind λ(u,ad,ae,v,af,ag,w)=>if(Ay w 0)then
some (([]:LU),w)
else(Me k (Jh g a) (ad,ae,(v,af,ag,()),())).bind λah=>(wP u).bind λai=>(Ba h ([ai]:LU)).bind λaj=>RW (Ae g 1) ah aj
else
j12 h
def Pa:Nat->Int-> (List (Int×Int32×(Int×LX×LX×Unit)×Unit))->LU->Cw
|0,_,_,_=>none
|z+1,c,d,e=>LO ML (Pa z) B A V c d e
def IZ b a f:=Pa b a f Aq
def MT(j10:LX->Jz3 ( (List (Int×Int32×(Int×LX×LX×Unit)×Unit))->LU->Cw))(a f:Int)(b:LX)(m:Bbp):Cw:=j10 b a f 0 m ([]:LU)
def As7:=MT IZ
def NC(j9:Int->Int->LX-> (List (Int×Int32×(Int×LX×LX×Unit)×Unit))->Cw)(bk7:Int-> (List (Int×Int32×(Int×LX×LX×Unit)×Unit))->Cw)(a f:Int)(n b:LX)(o:Int)(m:Bbp):Cw:=if(Bw o 6)then(kB f n).bind λ(ak,al,u,am,an,v)=>(Af m o).bind λ_=>(Me m o (ak,al,(u,am,an,()),())).bind λao=>bk7 (Ae o 1) ao
else
j9 a f b m
def Qz:Nat->Int-> (List (Int×Int32×(Int×LX×LX×Unit)×Unit))->Cw
|0,_,_=>none
|z+1,e,i=>NC As7 (Qz z) c d B R e i
def Avd a f n b:=Qz a f n b Aq
def NP(j7:Int->Int->LX->LX->Int-> (List (Int×Int32×(Int×LX×LX×Unit)×Unit))->Cw)(a f:Int)(n y:LX):Cw:=(PT a f y).bind λaa=>if(Ay aa 0)then
some (([]:LU),aa)
else(X0 a y).bind λ(b,ab)=>if(Ay ab 0)then
some (([]:LU),ab)
else
j7 a f n b 0 (List.replicate 6 ((0:Int),(0:Int32),((0:Int),(List.replicate 16 (0:Int32)),(List.replicate 16 (0:Int32)),()),()))
def JK:=NP Avd
abbrev Hy:=Option ((List (Int×Int×UInt64×UInt64×Unit)))
def Aud(a:Bbi):Hy:=some a
def OL:=Aud
abbrev Bck:=Int-> (List (Int×Int×UInt64×UInt64×Unit))->Hy
def OS(j6:(List (Int×Int×UInt64×UInt64×Unit))->Hy)(Yp:Bck)(b:Int)(a:Bbi):Hy:=if(Bw b 6)then(YZ).bind λ(f,g,h,k)=>(Af a b).bind λ_=>(Me a b (f,g,h,k,())).bind λm=>Yp (Ae b 1) m
else
j6 a
def Qr:Nat->Int-> (List (Int×Int×UInt64×UInt64×Unit))->Hy
|0,_,_=>none
|q+1,b,a=>OS OL (Qr q) b a
def OJ:=Qr Aq
def Zs(j4:Bck):Hy:=j4 0 (List.replicate 6 ((0:Int),(0:Int),(0:UInt64),(0:UInt64),()))
def AX:=Zs OJ
def SU:Bb3:=(Bk z).bind λd=>some (d,c)
abbrev Dg:=Option (LB×Int×Int)
def Aad:Dg:=some (i,c,0)
def qS:=Aad
abbrev Bb5:=UInt64->Int->Int->LB->Dg
def Ab0 (S!:Bb5)(b:UInt64)(a:Int)(m:UInt64)(h f:Int)(w:LB):Dg:=(Ew (Ft (Ge h (As 8 (Ec f 7))) 0)).bind λ_=>S! (Dj m (GI.toZ (Ge h (As 8 (Ec f 7)))).toNat) (As h (Ge h (As 8 (Ec f 7)))) (Ae f (Ge h (As 8 (Ec f 7)))) w
def Aq9 S!:=Ab0 S!
def Abe (j19:Bb5)(b:UInt64)(a:Int)(m:UInt64)(h f:Int)(u:LB):Dg:=(Af u (As (Aa u) 1)).bind λ_=>(Ew (Ft (Ge h (As 8 (Ec f 7))) 0)).bind λ_=>(Ew (Ft (Ec f 7) 0)).bind λ_=>(Af u (As (Aa u) 1)).bind λad=>(Af u (As (Aa u) 1)).bind λ_=>Option.bind (Me u (As (Aa u) 1) (gor ad (Fe (Al (Ec m (As (Fe (1:UInt64) (GI.toZ (Ge h (As 8 (Ec f 7)))).toNat) 1)):UInt8) (GI.toZ (Ec f 7)).toNat))) λw=>j19 m h f w
def rN S! b a:=Abe (Aq9 S! b a) b a
def rT(j18:Bb5)(j21:Int->LB->Dg)(b:UInt64)(a:Int)(m:UInt64)(h f:Int)(o:LB):Dg:=if(Dp h 0)then
if(geq (Ec f 7) 0)then(Ba o ([(0:UInt8)]:LB)).bind λaa=>j18 m h f aa
else
j18 m h f o
else
j21 f o
def HL:Nat->UInt64->Int->Int->LB->Dg
|0,_,_,_,_=>none
|z+1,c,d,e,i=>rT (rN (HL z) F q9) qS F q9 c d e i
def Ak7 b a:=HL b a Aq
def Ae5:Dg:=some (i,c,0)
def tV:=Ae5
def Auc(ZD:Bb5)(b:UInt64)(a:Int)(n:UInt64)(k g:Int)(ab:LB):Dg:=(Ew (Ft (Ge k (As 8 (Ec g 7))) 0)).bind λ_=>ZD (Dj n (GI.toZ (Ge k (As 8 (Ec g 7)))).toNat) (As k (Ge k (As 8 (Ec g 7)))) (Ae g (Ge k (As 8 (Ec g 7)))) ab
def Ajs ZD:=Auc ZD
def Afj(j26:Bb5)(b:UInt64)(a:Int)(n:UInt64)(k g:Int)(v:LB):Dg:=(Af v (As (Aa v) 1)).bind λ_=>(Ew (Ft (Ge k (As 8 (Ec g 7))) 0)).bind λ_=>(Ew (Ft (Ec g 7) 0)).bind λ_=>(Af v (As (Aa v) 1)).bind λae=>(Af v (As (Aa v) 1)).bind λ_=>Option.bind (Me v (As (Aa v) 1) (gor ae (Fe (Al (Ec n (As (Fe (1:UInt64) (GI.toZ (Ge k (As 8 (Ec g 7)))).toNat) 1)):UInt8) (GI.toZ (Ec g 7)).toNat))) λab=>j26 n k g ab
def sL ZD b a:=Afj (Ajs ZD b a) b a
def pS(j25:Bb5)(j28:Int->LB->Dg)(b:UInt64)(a:Int)(n:UInt64)(k g:Int)(p:LB):Dg:=if(Dp k 0)then
if(geq (Ec g 7) 0)then(Ba p ([(0:UInt8)]:LB)).bind λw=>j25 n k g w
else
j25 n k g p
else
j28 g p
def HS:Nat->UInt64->Int->Int->LB->Dg
|0,_,_,_,_=>none
|z+1,c,d,e,i=>pS (sL (HS z) F q9) tV F q9 c d e i
def Ape b a:=HS b a Aq
abbrev Bct:=UInt64->Int->UInt64->Int->Int->LB->Dg
def zO(j15:Bct)(j22:Bct)(ac:LB)(y:Int)(b:UInt64)(a:Int):Dg:=(Jk ac y).bind λaf=>if(Ay af 0)then
some (([]:LB),0,8)
else
if((Bw a 0)||(Dp a 64))then
some (([]:LB),0,2)
else
if(Bw a 64)then(Ew (Ft a 0)).bind λ_=>if(Ay (Dj b (GI.toZ a).toNat) 0)then
some (([]:LB),0,16)
else
if(Dp (Ae y a) 330000)then
some (([]:LB),0,18)
else(SU ac y).bind λ(ag,ah)=>j15 b a b a ah ag
else
if(Dp (Ae y a) 330000)then
some (([]:LB),0,18)
else(SU ac y).bind λ(aa,ai)=>j22 b a b a ai aa
def UA:=zO Ak7 Ape
def YJ:Bbw:=if((Bw c 0)||(Dp c 48))then
some (0,2)
else
some ((Ge (Ae c 1) 48),0)
def gS:Bdl:=(Jk z c).bind λe=>if(Ay e 0)then
some (([]:LB),0,e)
else(YJ d).bind λ(i,j)=>if(Ay j 0)then
some (([]:LB),0,j)
else(Ew (Ft d 0)).bind λ_=>(UA z c (As (Fe (1:UInt64) (GI.toZ d).toNat) 1) i).bind λ(l,A,B)=>some (l,A,B)
abbrev WU:=Option (LB×Int×Int)
def A_:WU:=(gS z c d).bind λ(e,i,j)=>if(Ay j 0)then
some (([]:LB),0,j)
else(UA e i (Al X:UInt64) w9).bind λ(l,A,B)=>some (l,A,B)
def Abu:=A_
def Axq(j2:LB->Int->Int->UInt32->Int->WU)(b:LB)(f:Int)(g:UInt32)(a:Int):WU:=(Jk b f).bind λk=>if(Ay k 0)then
some (([]:LB),0,k)
else
if((Bw a 0)||(Dp a 24))then
some (([]:LB),0,2)
else(Ew (Ft a 0)).bind λ_=>(Ew (Ft a 0)).bind λ_=>(IA g a).bind λaa=>if aa then
j2 b f 48 g 32
else
j2 b f (Al (Dj g (GI.toZ a).toNat):Int) (Ec g (As (Fe (1:UInt32) (GI.toZ a).toNat) 1)) a
def nQ:=Axq Abu
abbrev He:=Option (LB×Int×Int×Int×UInt64×UInt64×Int)
def MM:He:=(
(
some (Baf,c,d,j,(Ae F (As (Al X:UInt64) (Dj F (GI.toZ (4:UInt64)).toNat))),l7,0)))
def iN:=MM
def mD(j10:Jz3 (UInt64->UInt32->UInt64->LB->He))(b:UInt32)(k n:Int)(a o:UInt64)(m:LB)(u:Int):He:=j10 k u n a b o m
def Ae6:=mD iN
def lI(j9:UInt32->Int->Int->UInt64->UInt64->LB->Int->He)(b:UInt32)(f:Int)(a:UInt64)(k:Int)(m:LB)(n:Int)(o:UInt64):He:=if(Dp f 0)then(Ew (Ft f 0)).bind λ_=>if(Bw (Ae a (As (Al b:UInt64) (Dj a (GI.toZ (4:UInt64)).toNat))) (Fe (16:UInt64) (GI.toZ f).toNat))then
j9 b k n a o m (As f 1)
else
if(Bw f 24)then(Ew (Ft f 0)).bind λ_=>if(Dp (Ae a (As (Al b:UInt64) (Dj a (GI.toZ (4:UInt64)).toNat))) (Fe (32:UInt64) (GI.toZ f).toNat))then
j9 b k n a o m (Ae f 1)
else
j9 b k n a o m f
else
j9 b k n a o m f
else
if(Bw f 24)then(Ew (Ft f 0)).bind λ_=>if(Dp (Ae a (As (Al b:UInt64) (Dj a (GI.toZ (4:UInt64)).toNat))) (Fe (32:UInt64) (GI.toZ f).toNat))then
j9 b k n a o m (Ae f 1)
else
j9 b k n a o m f
else
j9 b k n a o m f
def PQ:=lI Ae6
def lG(j8:UInt32->Int->UInt64->Int->LB->Int->UInt64->He)(b:UInt32)(f h:Int)(a g:UInt64)(ac k:Int)(m:LB):He:=if(Ay ac 0)then
some (([]:LB),0,0,0,0,0,ac)
else(KJ f h a g b).bind λ(ag,p)=>if(geq ag 1)then
if(Dp h 0)then(Ew (Ft h 0)).bind λ_=>if(Bw (Ae g (As (Al p:UInt64) (Dj g (GI.toZ (4:UInt64)).toNat))) (Fe (16:UInt64) (GI.toZ h).toNat))then
j8 b f a k m (As h 1) (Ae g (As (Al p:UInt64) (Dj g (GI.toZ (4:UInt64)).toNat)))
else
if(Bw h 24)then(Ew (Ft h 0)).bind λ_=>if(Dp (Ae g (As (Al p:UInt64) (Dj g (GI.toZ (4:UInt64)).toNat))) (Fe (32:UInt64) (GI.toZ h).toNat))then
j8 b f a k m (Ae h 1) (Ae g (As (Al p:UInt64) (Dj g (GI.toZ (4:UInt64)).toNat)))
else
j8 b f a k m h (Ae g (As (Al p:UInt64) (Dj g (GI.toZ (4:UInt64)).toNat)))
else
j8 b f a k m h (Ae g (As (Al p:UInt64) (Dj g (GI.toZ (4:UInt64)).toNat)))
else
if(Bw h 24)then(Ew (Ft h 0)).bind λ_=>if(Dp (Ae g (As (Al p:UInt64) (Dj g (GI.toZ (4:UInt64)).toNat))) (Fe (32:UInt64) (GI.toZ h).toNat))then
j8 b f a k m (Ae h 1) (Ae g (As (Al p:UInt64) (Dj g (GI.toZ (4:UInt64)).toNat)))
else
j8 b f a k m h (Ae g (As (Al p:UInt64) (Dj g (GI.toZ (4:UInt64)).toNat)))
else
j8 b f a k m h (Ae g (As (Al p:UInt64) (Dj g (GI.toZ (4:UInt64)).toNat)))
else
j8 b f a k m h g
def mE:=lG PQ
def mK(j7:UInt32->Int->Int->UInt64->UInt64->Int->Int->LB->He)(b:UInt32)(v:LB)(w f h:Int)(a g:UInt64):He:=(KJ f h a g b).bind λ(ad,ae)=>(UA v w (Al ad:UInt64) 1).bind λ(y,aa,ab)=>if((geq ab 0)&&(geq ad 0))then(UA y aa (Al ae:UInt64) f).bind λ(ah,ai,aj)=>j7 b f h a g aj ai ah
else
if(geq ab 0)then(nQ y aa ae h).bind λ(ak,al,am)=>j7 b f h a g am al ak
else
j7 b f h a g ab aa y
def Ay9:=mK mE
def mQ(j6:UInt32->LB->Jz3 (UInt64->UInt64->He))(v:LB)(w f h:Int)(a g:UInt64)(b:UInt32):He:=(Jk v w).bind λan=>if(Ay an 0)then
some (([]:LB),0,0,0,0,0,8)
else(YH f h a g).bind λao=>if(Ay ao 0)then
some (([]:LB),0,0,0,0,0,8)
else
j6 b v w f h a g
def nN:=mQ Ay9
abbrev Bj:=Option (LB×Int)
def Aqw(v:Int)(p:LB):Bj:=(Xm p).bind λ(af,ac)=>if(Ay ac 0)then
some (([]:LB),ac)
else(Ly (Al af:UInt64) 4).bind λ(m,h)=>if(Ay h 0)then
some (([]:LB),h)
else(Cd ([p,m]:Bbf)).bind λag=>some (ag,0)
def KB:=Aqw
abbrev Bbz:=Int-> (List (Int×Int×UInt64×UInt64×Unit))->Int->LB->Bj
def Aqh(Uk:Bbz)(b:LU)(a g f:Int)(n:Bbi)(k:Int)(w:LB):Bj:=Uk (Ae f 1) n k w
def MF Uk:=Aqh Uk
abbrev Bdg:=Int->Int->LB->Bj
def Ar7(uz:Bdg)(h:Int)(b:LU)(f a g:Int)(n:Bbi)(m:LB)(o k:Int)(ab:LB):Bj:=uz (Ae o 1) (Ae k 1) ab
def Aqk uz:=Ar7 uz
def Aqe(j48:Bdg)(h:Int)(b:LU)(f a g:Int)(n:Bbi)(m:LB)(o k:Int)(y:LB):Bj:=(Af m (Ex o 8)).bind λ_=>(Af m (Ex o 8)).bind λah=>(Ew (Ft (Jh o 8) 0)).bind λ_=>(Af y (Ex k 8)).bind λ_=>(Ew (Ft (Jh k 8) 0)).bind λ_=>(Af y (Ex k 8)).bind λai=>(Af y (Ex k 8)).bind λ_=>Option.bind (Me y (Ex k 8) (gor ai (Fe (Ec (Dj ah (GI.toZ (Jh o 8)).toNat) 1) (GI.toZ (Jh k 8)).toNat))) λab=>j48 o k ab
def JL uz h b f a g n m:=Aqe (Aqk uz h b f a g n m) h b f a g n m
def MA(j47:Bdg)(j50:Bbz)(b:LU)(a g h f:Int)(n:Bbi)(m:LB)(o k:Int)(w:LB):Bj:=if(Bw o h)then
if(geq (Jh k 8) 0)then(Ba w ([(0:UInt8)]:LB)).bind λaj=>j47 o k aj
else
j47 o k w
else
j50 f n k w
def Pj(Uk:Bbz)(b:LU)(a g h f:Int)(n:Bbi)(m:LB):Nat->Int->Int->LB->Bj
|0,_,_,_=>none
|q+1,o,k,w=>MA (JL (Pj Uk b a g h f n m q) h b f a g n m) (MF Uk b a g) b a g h f n m o k w
def KF Uk b a g h f n m:=Pj Uk b a g h f n m Aq
def KI(j44:Int->Int-> (List (Int×Int×UInt64×UInt64×Unit))->LB->Int->Int->LB->Bj)(j52:Int->LB->Bj)(b:LU)(a g f:Int)(u:Bbi)(v:Int)(p:LB):Bj:=if(Bw f (Aa b))then(Af b f).bind λ_=>(Af b f).bind λak=>(Ew (Ay a 0)).bind λ_=>(Af u (Jh f a)).bind λ_=>(Af u (Jh f a)).bind λaa=>(nN ([]:LB) 0 aa.1 aa.2.1 aa.2.2.1 aa.2.2.2.1 ak).bind λ(m,h,al,am,an,ao,ad)=>if(Ay ad 0)then
some (([]:LB),ad)
else(Ew (Ay a 0)).bind λ_=>(Af u (Jh f a)).bind λ_=>(Me u (Jh f a) (al,am,an,ao,())).bind λn=>j44 h f n m 0 v p
else
j52 v p
def Pd:Nat->Int-> (List (Int×Int×UInt64×UInt64×Unit))->Int->LB->Bj
|0,_,_,_,_=>none
|z+1,c,d,e,i=>KI (KF (Pd z) l8 Az1 Az2) KB l8 Az1 Az2 c d e i
def Aqc b a g:=Pd b a g Aq
def NH(j27:LU->Jz3 ( (List (Int×Int×UInt64×UInt64×Unit))->Int->LB->Bj))(a g:Int)(ap aq:LX):Bj:=(JK a g ap aq).bind λ(b,ae)=>if(Ay ae 0)then
some (([]:LB),ae)
else(AX).bind λar=>j27 b a g 0 ar 0 ([]:LB)
def BT:=NH Aqc
def To(b f g:Int)(h k:LB)(m:LX)(n:Bbf)(o:LB)(p:Bool)(u a:Int):Bb9:=some (b,f,g,h,([]:LB),([]:LX),([]:Bbf),([]:LB),false,a,a)
abbrev Bl:=Option (Int×Int×Int×LB×LB×LX×(List LB)×LB×Bool×Int×Int)
def Awy:Bl:=some (c,d,j,i,Z,R,M,l6,D,G,0)
def VU:=Awy
abbrev Bch:=Int->LB->LX-> (List LB)->Bl
def CV(Yq:Bch)(p:Int)(n:LB)(a b g:Int)(f:LB)(h:Bool)(k o:Int)(m:LB)(u:Int)(ao:LB)(ap:LX)(aq:Bbf):Bl:=Yq (Ae u 1) ao ap aq
def My Yq:=CV Yq
def Ax9(j24:Bch)(p:Int)(n:LB)(a b g:Int)(f:LB)(h:Bool)(k o:Int)(m:LB)(u ad:Int)(ae:LB)(af:LX)(ag:Bbf):Bl:=if(Ay ad 0)then(To a b g f ae af ag m h k ad).bind λ(ar,au,av,aw,ax,ay,az,ba,bb,bc,bd)=>some (ar,au,av,aw,ax,ay,az,ba,bb,bc,bd)
else
j24 u ae af ag
def Kn Yq p n a b g f h k o m:=Ax9 (My Yq p n a b g f h k o m) p n a b g f h k o m
abbrev Bca:=Int->Int->LB->LX-> (List LB)->Bl
def CQ(j23:Bca)(p:Int)(n:LB)(a b g:Int)(f:LB)(h:Bool)(k o:Int)(m:LB)(u:Int)(ab:LX)(v:Bbf)(be:Int):Bl:=j23 u be ([]:LB) ab v
def DL Yq p n a b g f h k o m:=CQ (Kn Yq p n a b g f h k o m) p n a b g f h k o m
def VC(j23:Bca)(p:Int)(n:LB)(a b g:Int)(f:LB)(h:Bool)(k o:Int)(m:LB)(u:Int)(ac:Bbf):Bl:=j23 u 0 ([]:LB) ([]:LX) ac
def SL Yq p n a b g f h k o m:=VC (Kn Yq p n a b g f h k o m) p n a b g f h k o m
def Ax1(j23:Bca)(j21:Int->LX-> (List LB)->Int->Bl)(j22:Int-> (List LB)->Bl)(p:Int)(n:LB)(a b g:Int)(f:LB)(h:Bool)(k o:Int)(m:LB)(u:Int)(aa:LB)(w:LX)(v:Bbf):Bl:=(Qa b aa).bind λ(bf,ah)=>if(Ay ah 0)then
j23 u ah aa w v
else(Ba w bf).bind λab=>if(Bw (Aa ab) (Cf o a))then
j23 u 0 ([]:LB) ab v
else(Nx f).bind λ(bg,ai)=>if(Ay ai 0)then
j21 u ab v ai
else(BT a b bg ab).bind λ(bh,aj)=>if(Ay aj 0)then
j21 u ab v aj
else(Ba v ([bh]:Bbf)).bind λac=>j22 u ac
def RP Yq p n a b g f h k o m:=Ax1 (Kn Yq p n a b g f h k o m) (DL Yq p n a b g f h k o m) (SL Yq p n a b g f h k o m) p n a b g f h k o m
def UH(j24:Bch)(j23:Bca)(j20:Bch)(j26:Jz3 (LB->Bool->Int->LB->LX-> (List LB)->LB->Bl))(p:Int)(n:LB)(a b g:Int)(f:LB)(h:Bool)(k o:Int)(m:LB)(u:Int)(y:LB)(w:LX)(v:Bbf):Bl:=if(Bw u (Aa n))then(Af n u).bind λbi=>(Ba y ([bi]:LB)).bind λaa=>if(Bw (Aa aa) p)then
j24 u aa w v
else(Uq a b g f aa w v m h k o).bind λbj=>(IB a b g f aa w v m h k (Ae (Aa v) 1) (Ae bj 1)).bind λbk=>if(!bk)then
j23 u 18 aa w v
else
j20 u aa w v
else
j26 a b g f h k y w v m
def Kl:Nat->Int->LB->LX-> (List LB)->Bl
|0,_,_,_,_=>none
|z+1,d,e,j,l=>UH (My (Kl z) c i A V l5 P D G o7 Z) (Kn (Kl z) c i A V l5 P D G o7 Z) (RP (Kl z) c i A V l5 P D G o7 Z) VU c i A V l5 P D G o7 Z d e j l
def Ay3 p n a b g f h k o m:=Kl p n a b g f h k o m Aq
def bX(j14:Int->LB->Jz3 (LB->Bool->Int->Int->LB->Int->LB->LX-> (List LB)->Bl))(bl bm bn:Int)(bp bq:LB)(br:LX)(bs:Bbf)(bt:LB)(bu:Bool)(bv:Int)(n:LB):Bl:=(EL bl bm bn bp bq br bs bt bu bv).bind λ(a,b,g,f,ak,al,am,m,h,k,o,an)=>if(Ay an 0)then
some (a,b,g,f,ak,al,am,m,h,k,an)
else(Zo a b).bind λp=>j14 p n a b g f h k o m 0 ak al am
def WW:=bX Ay3
def QT:Bbw:=if(Dp (Aa z) 64)then
some (0,2)
else
if(geq (Aa z) 0)then
some (1,0)
else
some (2,0)
abbrev Kw:=Option (LB×Int)
def Ab9:Kw:=(Xm z).bind λ(c,d)=>(Ly (Al c:UInt64) 4).bind λ(e,i)=>(Ba z e).bind λj=>some (j,0)
def bT:=Ab9
def bQ(j6:LB->Kw)(Yp:Int->LB->Kw)(b f g h k m:Int)(a:LB):Kw:=if(Bw m 5)then(Af ([b,f,g,h,k]:LI) m).bind λw=>(Af ([(2:Int),(2:Int),(2:Int),(4:Int),(4:Int)]:LI) m).bind λy=>(Ly (Al w:UInt64) y).bind λ(n,v)=>(Ba a n).bind λo=>Yp (Ae m 1) o
else
j6 a
def Vv:Nat->Int->LB->Kw
|0,_,_=>none
|z+1,e,i=>bQ bT (Vv z) c d j C E e i
def Aby b f g h k:=Vv b f g h k Aq
def bZ(j4:Jz6 (LB->Kw))(b f g h k:Int):Kw:=(HH b f g h k).bind λp=>if(Ay p 0)then
some (([]:LB),p)
else
j4 b f g h k 0 ([(84:UInt8),(84:UInt8),(65:UInt8),(49:UInt8)]:LB)
def XX:=bZ Aby
abbrev Fl:=Option (LB×Int)
def Aar:Fl:=some (z,0)
def Ac3:=Aar
def Abb(j14:LB->Fl)(b:LB):Fl:=(Xm b).bind λ(m,u)=>(Ly (Al m:UInt64) 4).bind λ(n,v)=>(Ba b n).bind λg=>j14 g
def aB:=Abb Ac3
def Acq(bk8:Int->LB->Fl)(a:LI)(f:Int)(h:LB):Fl:=bk8 (Ae f 1) h
def aU bk8:=Acq bk8
def iS(j11:Int->LB->Fl)(j13:LB->Fl)(a:LI)(f:Int)(b:LB):Fl:=if(Bw f (Aa a))then(Af a f).bind λo=>(Ly (Al o:UInt64) 4).bind λ(p,w)=>(Ba b p).bind λh=>j11 f h
else
j13 b
def Yu:Nat->Int->LB->Fl
|0,_,_=>none
|z+1,c,d=>iS (aU (Yu z) l) aB l c d
def Asx a:=Yu a Aq
def dW(j8:LI->Int->LB->Fl)(a:LI):Fl:=(Sd a).bind λk=>if(Ay k 0)then
some (([]:LB),k)
else
j8 a 0 ([]:LB)
def OQ:=dW Asx
abbrev Gs:=Option (LB×Int)
def FT(f g h:Int)(b k:LB)(m:LX)(a:Bbf)(n:LB)(o:Bool)(p:Int)(u:LB)(v:LI):Gs:=(OQ v).bind λ(aa,y)=>if(Ay y 0)then
some (([]:LB),y)
else(
(Ba u aa).bind λab=>(Cd a).bind λac=>(Ba ab ac).bind λad=>some (ad,0))
def aT:=FT
def aM(j8:Jz3 (LB->LB->LX-> (List LB)->LB->Bool->Int->LB->LI->Gs))(bk6:Int->LI->Gs)(a:Bbf)(f g h:Int)(b k:LB)(m:LX)(n:LB)(o:Bool)(p:Int)(u:LB)(w:Int)(v:LI):Gs:=if(Bw w (Aa a))then(Af a w).bind λai=>(Ba v ([(Aa ai)]:LI)).bind λaj=>bk6 (Ae w 1) aj
else
j8 f g h b k m a n o p u v
def Wh:Nat->Int->LI->Gs
|0,_,_=>none
|z+1,c,d=>aM aT (Wh z) M p8 Az3 L y7 Baj Az4 Bak Ba8 Ba9 Bba c d
def Abv a f g h b k m n o p u:=Wh a f g h b k m n o p u Aq
def bV(j6:(List LB)->Jz3 (LB->LB->LX->LB->Bool->Int->LB->Int->LI->Gs))(f g h:Int)(b k:LB)(m:LX)(a:Bbf)(n:LB)(o:Bool)(p:Int)(u:LB):Gs:=j6 a f g h b k m n o p u 0 ([]:LI)
def Aa4:=bV Abv
def ZO(j5:Jz3 (LB->LB->LX-> (List LB)->LB->Bool->Int->LB->Gs))(f g h:Int)(b k:LB)(m:LX)(a:Bbf)(n:LB)(o:Bool)(p ak:Int):Gs:=(QT b).bind λ(al,ae)=>if(Ay ae 0)then
some (([]:LB),ae)
else(XX al f g h ak).bind λ(af,ag)=>if(Ay ag 0)then
some (([]:LB),ag)
else
if(b !=([]:LB))then(HW b).bind λ(am,ah)=>if(Ay ah 0)then
some (([]:LB),ah)
else(Ba af am).bind λan=>j5 f g h b k m a n o p an
else
j5 f g h b k m a n o p af
def YU:=ZO Aa4
abbrev Km:=Option (Int×Int×Int×LB×LB×LX×(List LB)×LB×Bool×Int×Int)
def Ast:Km:=(YU d j C i Z Az4 Bav l6 D G c).bind λ(z,e)=>if(Ay e 0)then(To d j C i Z Az4 Bav l6 D G e).bind λ(l,A,B,E,F,I,J,L,M,N,O)=>some (l,A,B,E,F,I,J,L,M,N,O)
else
some (d,j,C,i,([]:LB),([]:LX),([]:Bbf),z,true,0,0)
def AY:=Ast
abbrev Bcb:=Jz4 (LB->Bool->Int->LB->LB->LX-> (List LB)->Km)
def Asv(j4:Bcb)(o a b g:Int)(f:LB)(k:Bool)(m:Int)(h n:LB)(ad:Int)(ae:LX)(af:Bbf):Km:=if(Ay ad 0)then(To a b g f h ae af n k m ad).bind λ(au,v,w,av,aw,ax,y,aa,ay,az,ba)=>some (au,v,w,av,aw,ax,y,aa,ay,az,ba)
else
j4 o a b g f k m h n ae af
def NV:=Asv AY
def Auo(j3:Jz4 (LB->Bool->Int->LB->LB->Int->LX-> (List LB)->Km))(j4:Bcb)(bb bc bd:Int)(be bf:LB)(bg:LX)(bh:Bbf)(bi:LB)(bj:Bool)(bk:Int):Km:=(EL bb bc bd be bf bg bh bi bj bk).bind λ(a,b,g,f,h,p,u,n,k,m,bl,ag)=>if(Ay ag 0)then
some (a,b,g,f,h,p,u,n,k,m,ag)
else(Uq a b g f h p u n k m bl).bind λo=>if((Dp (Aa h) 0)||(geq o 0))then(To a b g f h p u n k m 24).bind λ(bm,bn,bp,bq,br,bs,bt,bu,bv,bw,bx)=>some (bm,bn,bp,bq,br,bs,bt,bu,bv,bw,bx)
else
if(Dp (Aa p) 0)then(Nx f).bind λ(bz,ah)=>if(Ay ah 0)then
j3 o a b g f k m h n ah p u
else(BT a b bz p).bind λ(da,ai)=>if(Ay ai 0)then
j3 o a b g f k m h n ai p u
else(Ba u ([da]:Bbf)).bind λdb=>j3 o a b g f k m h n 0 ([]:LX) db
else
j4 o a b g f k m h n p u
def IY:=Auo NV AY
abbrev Gc:=Option (LB×Int)
def Aso(aw bf bg bh:Int)(bi:LB)(bj:Bool)(bk:Int)(bl:LB)(bm:LX)(bn:Bbf)(bc:LB):Gc:=if(Ay aw 0)then
some (([]:LB),aw)
else
some (bc,0)
def OM:=Aso
abbrev Bcc:=Jz4 (LB->Bool->Int->LB->LX-> (List LB)->LB->Gc)
def Auv(j6:Bcc)(w a y aa ab:Int)(ac:LB)(ad:Bool)(ae b f g:Int)(h k:LB)(m:LX)(n:Bbf)(o:LB)(p:Bool)(u:Int)(af:LB)(ag:LX)(ah:Bbf)(ai:LB):Gc:=j6 w y aa ab ac ad ae af ag ah ai
def Au2:=Auv OM
abbrev Bbt:=Jz5 (LB->Bool->Int->Int->Int->Int->LB->LB->LX-> (List LB)->LB->Bool->Int->LB->LX-> (List LB)->LB->Gc)
def As4(j6:Bcc)(j5:Bbt)(v a aj ak al:Int)(am:LB)(an:Bool)(ao b f g:Int)(h k:LB)(m:LX)(n:Bbf)(o:LB)(p:Bool)(u:Int)(ap:LB)(aq:LX)(ar:Bbf)(au:LB):Gc:=if(Ay v 0)then
j6 v 0 0 0 ([]:LB) false 0 ([]:LB) ([]:LX) ([]:Bbf) ([]:LB)
else(IY aj ak al am ap aq ar au an ao).bind λ(y,aa,ab,ac,af,ag,ah,ai,ad,ae,w)=>j5 w a y aa ab ac ad ae b f g h k m n o p u af ag ah ai
def Auf:=As4 OM Au2
def Atu(j4:Bbt)(ax av ay:Int)(az:LX)(bd:LB):Gc:=(XC ax av ay az).bind λba=>if(Ay ba 0)then
some (([]:LB),ba)
else(Kh av az).bind λ(be,bb)=>if(Ay bb 0)then
some (([]:LB),bb)
else(fY ax av ay bd).bind λ(b,f,g,h,k,m,n,o,p,u,a)=>if(Ay a 0)then
some (([]:LB),a)
else(WW b f g h k m n o p u be).bind λ(aj,ak,al,am,ap,aq,ar,au,an,ao,v)=>j4 v a aj ak al am an ao b f g h k m n o p u ap aq ar au
def IU:=Atu Auf
abbrev Ac:=Option (LB×LB×LB)
def Afo:Ac:=some (([119,104,97,116]:LB),z,e)
def Yb:=Afo
def Ah8:Ac:=some (i,z,e)
def Nt:=Ah8
def Agk:Ac:=some (z,i,e)
def Agt:=Agk
abbrev Bbj:=LB->LB->LB->Ac
def Ai8(j100:Bbj)(g a hr:LB):Ac:=j100 g a hr
def Ajc:=Ai8 Nt
def Aj6(j101:Bbj)(ag a al:LB):Ac:=j101 ag a al
def Ajq:=Aj6 Agt
def Ai9(j98:Bbj)(j99:Bbj)(g a:LB)(k:LI):Ac:=(Af k 0).bind λ_=>(Af k 0).bind λhs=>(Bg g 0 hs).bind λht=>(Bk ht).bind λal=>if(Ay (0:Int) (0:Int))then(Aj 0).bind λdr=>j98 g a dr
else
if(Dp (Aa al) 100000)then(Aj 4).bind λds=>j98 g a ds
else(strconv_Itoa (Aa al)).bind λag=>j99 ag a al
def Oj:=Ai9 Ajc Ajq
def Aha:Ac:=some (z,e,i)
def Aee:=Aha
def Afp(j128:Bbj)(aa aj:Int)(ah:UInt8)(ab ai:Int)(g a:LB):Ac:=(Eh ([(Al ah:Int),ab,ai]:LI) aa).bind λdt=>j128 dt g a
def Xe:=Afp Aee
def Agf:Ac:=some (z,e,i)
def Yi:=Agf
def Afr:Ac:=some (z,e,i)
def Xy:=Afr
def Agj:Ac:=some (z,e,i)
def Xp:=Agj
def Ags:Ac:=some (i,z,e)
def Nu:=Ags
def Aez:Ac:=some (z,i,e)
def Agg:=Aez
def Aek(j135:Bbj)(g a hv:LB):Ac:=j135 g a hv
def Aex:=Aek Nu
def Age(j136:Bbj)(br a ax:LB):Ac:=j136 br a ax
def Aeu:=Age Agg
def Aei(j133:Bbj)(j134:Bbj)(g a:LB)(k:LI):Ac:=(Af k 0).bind λ_=>(Af k 1).bind λ_=>(Af k 0).bind λhw=>(Af k 1).bind λbs=>(eC g hw (Al bs:UInt8)).bind λ(ax,gs)=>if(Ay gs 0)then(Aj gs).bind λhx=>j133 g a hx
else
if(Dp (Aa ax) 100000)then(Aj 4).bind λhy=>j133 g a hy
else(strconv_Itoa (Aa ax)).bind λbr=>j134 br a ax
def Xi:=Aei Aex Aeu
def Agu:Ac:=some (i,z,e)
def Ni:=Agu
def Afg:Ac:=some (z,i,e)
def Afb:=Afg
def Afu(j139:Bbj)(g a ka:LB):Ac:=j139 g a ka
def Xk:=Afu Ni
def Af9(j140:Bbj)(ay a am:LB):Ac:=j140 ay a am
def Yh:=Af9 Afb
def Afa:Ac:=some (z,e,i)
def Ahc:=Afa
def Aeo(j142:Bbj)(bt bu:Int)(g a:LB):Ac:=(Eh ([bt]:LI) bu).bind λdu=>j142 du g a
def Xn:=Aeo Ahc
def Ae4:Ac:=some (z,e,i)
def Afc:=Ae4
def Afh:Ac:=some (z,i,e)
def Aes:=Afh
def Agi(j149:Bbj)(g a dv:LB):Ac:=j149 dv g a
def Afe:=Agi Afc
def Agw(j150:Bbj)(bv a az:LB):Ac:=j150 bv a az
def Ah2:=Agw Aes
def Afs(j147:Bbj)(j148:Bbj)(g a:LB)(p u v:Int)(ac:LX):Ac:=(IU p u v ac a).bind λ(az,gt)=>if(Ay gt 0)then(Aj gt).bind λkb=>j147 g a kb
else
if(Dp (Aa az) 100000)then(Aj 4).bind λkc=>j147 g a kc
else(strconv_Itoa (Aa az)).bind λbv=>j148 bv a az
def Xx:=Afs Afe Ah2
def Xl(j146:LB->LB->Jz3 (LX->Ac))(Auq:Int->LX->Ac)(w:LI)(g a:LB)(p u v af:Int)(ac:LX):Ac:=if(Bw af (Aa w))then(Af w af).bind λkd=>(Ba ac ([(Al kd:Int32)]:LX)).bind λke=>Auq (Ae af 1) ke
else
j146 g a p u v ac
def Jd:Nat->Int->LX->Ac
|0,_,_=>none
|z+1,c,d=>Xl Xx (Jd z) l i o9 A V l5 c d
def Aef w g a p u v:=Jd w g a p u v Aq
def Yj(j144:LI->LB->LB->Jz4 (LX->Ac))(g a:LB)(k:LI)(p u v:Int):Ac:=(Bg k 3 (Aa k)).bind λw=>j144 w g a p u v 0 ([]:LX)
def Ahk:=Yj Aef
abbrev Bdr:=LB->LB->Ac
abbrev Bcu:=Int->Int->UInt8->Int->Int->LB->LB->Ac
def Ot(j100:Bbj)(j97:LB->LB->LI->Ac)(j126:Bdr)(j127:Bcu)(j129:Bbj)(j130:Bbj)(j131:Bbj)(j135:Bbj)(j132:LB->LB->LI->Ac)(j139:Bbj)(j137:Bbj)(j138:Bbj)(j141:Int->Int->LB->LB->Ac)(j143:LB->LB->LI->Jz3 Ac)(h g a:LB)(k:LI):Ac:=if(h==[99,117,116])then
if((true&&(Ft (Aa k) 1))&&(TL (Aa k) 1))then(Af k 0).bind λ_=>(Af k 0).bind λbw=>if(Bw bw 0)then(Aj 2).bind λaq=>j100 g a aq
else(Af k 0).bind λ_=>(Af k 0).bind λdw=>if(Dp dw (Aa g))then(Aj 2).bind λdx=>j100 g a dx
else
j97 g a k
else
j126 g a
else
if(h==[112,108,97,99,101])then
if((true&&(Ft (Aa k) 1))&&(TL (Aa k) 1))then(Af k 0).bind λ_=>(
(
(
(Af k 0).bind λan=>(
(Mf g a an).bind λ(aj,ah,ab,ai,aa)=>j127 aa aj ah ab ai g a))))
else
j126 g a
else
if(h==[102,114,97,109,101])then
if((true&&(Ft (Aa k) 1))&&(TL (Aa k) 1))then(Af k 0).bind λ_=>(Af k 0).bind λdy=>(Oz g a dy).bind λ(dz,fa)=>(Es dz fa).bind λbn=>j129 bn g a
else
j126 g a
else
if(h==[102,114,111,109])then
if((true&&(Ft (Aa k) 1))&&(TL (Aa k) 1))then(Af k 0).bind λ_=>(Af k 0).bind λfb=>(Xo g a fb).bind λ(fc,fd)=>(Es fc fd).bind λbp=>j130 bp g a
else
j126 g a
else
if(h==[97,116])then
if((true&&(Ft (Aa k) 1))&&(TL (Aa k) 1))then(Af k 0).bind λ_=>(Af k 0).bind λfe=>(WH g a fe).bind λ(ff,fg)=>(Es ff fg).bind λbq=>j131 bq g a
else
j126 g a
else
if(h==[102,108,105,112])then
if((true&&(Ft (Aa k) 2))&&(TL (Aa k) 2))then(Af k 1).bind λ_=>(Af k 1).bind λfh=>if(Bw fh 0)then(Aj 2).bind λfi=>j135 g a fi
else(Af k 1).bind λ_=>(Af k 1).bind λfj=>if(Dp fj 255)then(Aj 2).bind λfk=>j135 g a fk
else
j132 g a k
else
j126 g a
else
if(h==[98,117,114,115,116])then
if((true&&(Ft (Aa k) 2))&&(TL (Aa k) 2))then(Af k 1).bind λ_=>(Af k 1).bind λbs=>if(Bw bs 0)then(Aj 2).bind λfl=>j139 g a fl
else(Af k 0).bind λ_=>(Af k 1).bind λ_=>(Af k 0).bind λfm=>(Af k 1).bind λfn=>(HT g fm (Al fn:UInt32)).bind λ(am,bx)=>if(Ay bx 0)then(Aj bx).bind λfo=>j137 g a fo
else
if(Dp (Aa am) 100000)then(Aj 4).bind λfp=>j137 g a fp
else(strconv_Itoa (Aa am)).bind λay=>j138 ay a am
else
j126 g a
else
if(h==[119,97,121,115])then
if((true&&(Ft (Aa k) 2))&&(TL (Aa k) 2))then(Af k 0).bind λ_=>(Af k 1).bind λ_=>(Af k 0).bind λfq=>(Af k 1).bind λfs=>(OZ a g fq fs).bind λ(bt,bu)=>j141 bt bu g a
else
j126 g a
else
if(h==[99,108,105,112])then
if((true&&(Ft (Aa k) 3))&&(TL (Aa k) 3000))then(Af k 0).bind λ_=>(Af k 1).bind λ_=>(Af k 2).bind λ_=>(Af k 0).bind λp=>(Af k 1).bind λu=>(Af k 2).bind λv=>(
j143 g a k p u v)
else
j126 g a
else
if((false&&(Ft (Aa k) 0))&&(TL (Aa k) 0))then
none
else
j126 g a
def Ph:=Ot Nt Oj Yb Xe Yi Xy Xp Nu Xi Ni Xk Yh Xn Ahk
def CB(j96:LB->LB->LB->LI->Ac)(Awh:Int->LI->Ac)(h:LB)(m:Bbf)(g a:LB)(y:Int)(k:LI):Ac:=if(Bw y (Aa m))then(Af m y).bind λbw=>(Hc bw).bind λ(kf,kg)=>if(!kg)then
some (([119,104,97,116]:LB),g,a)
else(Ba k ([kf]:LI)).bind λn=>Awh (Ae y 1) n
else
j96 h g a k
def Ju:Nat->Int->LI->Ac
|0,_,_=>none
|c+1,d,e=>CB Ph (Ju c) z M l6 y7 d e
def BE h m g a:=Ju h m g a Aq
def Cl(j94:LB-> (List LB)->LB->LB->Int->LI->Ac)(h:LB)(m:Bbf)(g a:LB):Ac:=j94 h m g a 0 ([]:LI)
def Zg:=Cl BE
abbrev Bci:=LB-> (List LB)->LB->LB->Ac
def Ct(j93:Bci)(h:LB)(m:Bbf)(kh:LB)(ki:Bool)(g a:LB):Ac:=if ki then
some (kh,g,a)
else
j93 h m g a
def Dd:=Ct Zg
abbrev Bbs:=LB-> (List LB)->LB->Bool->LB->LB->Ac
def Pg(j92:Bbs)(h:LB)(m:Bbf)(f b:LB):Ac:=j92 h m ([]:LB) false f b
def Zn:=Pg Dd
def Pk(j92:Bbs)(h:LB)(m:Bbf)(f b kj:LB):Ac:=j92 h m kj true f b
def BM:=Pk Dd
def Ox(j92:Bbs)(bz h:LB)(m:Bbf)(b ar:LB):Ac:=j92 h m bz true ar b
def AB:=Ox Dd
def Nf(j92:Bbs)(h:LB)(m:Bbf)(f b kk:LB):Ac:=j92 h m kk true f b
def Yk:=Nf Dd
def Nc(j92:Bbs)(da h:LB)(m:Bbf)(b ao:LB):Ac:=j92 h m da true ao b
def Xq:=Nc Dd
def Gg(j92:Bbs)(db h:LB)(m:Bbf)(f b:LB):Ac:=j92 h m db true f b
def Ja:=Gg Dd
abbrev Bce:=LB->LB-> (List LB)->LB->LB->Ac
def Xf(j157:Bce)(h:LB)(m ad:Bbf)(f b:LB):Ac:=(HO ad ([32]:LB)).bind λdb=>j157 db h m f b
def Agq:=Xf Ja
def Ym(j156:LB-> (List LB)-> (List LB)->LB->LB->Ac)(Aur:Int-> (List LB)->Ac)(n:Bbo)(h:LB)(m:Bbf)(f b:LB)(ae:Int)(ad:Bbf):Ac:=if(Bw ae (Aa n))then(Af n ae).bind λ_=>(Af n ae).bind λgu=>(strconv_Itoa gu.1).bind λdr=>(Ba dr ([58]:LB)).bind λds=>(strconv_Itoa (Aa gu.2.1)).bind λag=>(Ba ds ag).bind λkl=>(Ba ad ([kl]:Bbf)).bind λkm=>Aur (Ae ae 1) km
else
j156 h m ad f b
def Jb(n:Bbo)(h:LB)(m:Bbf)(f b:LB):Nat->Int-> (List LB)->Ac
|0,_,_=>none
|q+1,ae,ad=>Ym Agq (Jb n h m f b q) n h m f b ae ad
def Afq n h m f b:=Jb n h m f b Aq
def Xw(j157:Bce)(j154:(List (Int×LB×Unit))->LB-> (List LB)->LB->LB->Int-> (List LB)->Ac)(ap:Int)(h:LB)(m:Bbf)(n:Bbo)(f b:LB):Ac:=if(Ay ap 0)then(Aj ap).bind λdb=>j157 db h m f b
else
j154 n h m f b 0 ([]:Bbf)
def Ae3:=Xw Ja Afq
abbrev Bc3:=LB-> (List LB)->LB->LB->LB->Ac
def Oq(j92:Bbs)(j82:Bc3)(j83:Bce)(j151:Bc3)(j152:Bce)(j153:Int->LB-> (List LB)-> (List (Int×LB×Unit))->LB->LB->Ac)(j91:Bci)(h:LB)(m:Bbf)(f b:LB):Ac:=if((h==([112,97,115,115,119,111,114,100]:LB))&&(geq (Aa m) 1))then(Af m 0).bind λft=>if(Dp (Aa ft) 64)then(Aj 2).bind λba=>j92 h m ba true f b
else(Af m 0).bind λfu=>j92 h m ([111,107]:LB) true f fu
else
if(((h==([102,105,108,101]:LB))||(h==([97,100,100]:LB)))&&(geq (Aa m) 1))then(Af m 0).bind λfv=>(Qc fv).bind λ(ao,fw)=>if(!fw)then
j92 h m ([119,104,97,116]:LB) true f b
else
if(h==([97,100,100]:LB))then(Cd ([f,ao]:Bbf)).bind λar=>if(Ay (0:Int) (0:Int))then(Aj 0).bind λfx=>j82 h m f b fx
else
if(Dp (Aa ar) 100000)then(Aj 4).bind λfy=>j82 h m f b fy
else(strconv_Itoa (Aa ar)).bind λbz=>j83 bz h m b ar
else
if(Ay (0:Int) (0:Int))then(Aj 0).bind λfz=>j151 h m f b fz
else
if(Dp (Aa ao) 100000)then(Aj 4).bind λga=>j151 h m f b ga
else(strconv_Itoa (Aa ao)).bind λda=>j152 da h m b ao
else
if((h==([115,99,114,105,112,116]:LB))||(h==([112,101,97,107]:LB)))then(Uw m).bind λ(dc,gb)=>if(!gb)then
j92 h m ([119,104,97,116]:LB) true f b
else
if(h==([112,101,97,107]:LB))then(NW b f dc).bind λ(ak,au,av)=>(Eh ([ak,au]:LI) av).bind λgc=>j92 h m gc true f b
else(
(
(
(Uz b f dc).bind λ(gd,kn,dd,de,df,ko,dg,kp,kq,kr,ks,dh,n,ap)=>j153 ap h m n f b)))
else
j91 h m f b
def Pf:=Oq Dd BM AB Yk Xq Ae3 Zn
def Ak9:Ac:=some (([119,104,97,116]:LB),z,e)
def BW:=Ak9
def Ajl:Ac:=some (([111,107]:LB),z,([]:LB))
def AJ:=Ajl
def Ajb:Ac:=some (z,e,i)
def Akc:=Ajb
def Aj9:Ac:=some (z,([]:LB),e)
def Ajn:=Aj9
def Aj7(j68:Bbj)(f b ge:LB):Ac:=j68 ge f b
def Yw:=Aj7 Akc
def Ai7(j69:Bdr)(bb b:LB):Ac:=j69 bb b
def BN:=Ai7 Ajn
def Agd:Ac:=some (z,e,i)
def Ya:=Agd
def Afv:Ac:=some (i,z,e)
def Aep:=Afv
def Agx(j160:Bbj)(ak bc bd be bf bg bh bi:Int)(bj:UInt8)(bk bl:Int)(f b:LB)(bm:LI):Ac:=if(Ay ak 0)then(Aj ak).bind λku=>j160 f b ku
else(oZ bc bd be bf bg bh bm bi bj bk bl).bind λ(kv,aw)=>if(Ay aw 0)then(Aj aw).bind λgd=>j160 f b gd
else(Fy kv ([10]:LB)).bind λkw=>(Wq kw ([10]:LB) ([32,47,32]:LB)).bind λdj=>j160 f b dj
def Yc:=Agx Aep
def Agr:Ac:=some (z,e,i)
def Agv:=Agr
def Afd(j162:Bbj)(dk au:Int)(av:UInt8)(aw dl:Int)(f b:LB):Ac:=(Eh ([au,(Al av:Int),aw,dl]:LI) dk).bind λdj=>j162 dj f b
def Xj:=Afd Agv
def Af0:Ac:=some (z,e,i)
def Xr:=Af0
def Agh:Ac:=some (z,e,i)
def Yl:=Agh
def Aff:Ac:=some (z,e,i)
def Xt:=Aff
def Afw:Ac:=some (z,e,i)
def Yg:=Afw
def Agl:Ac:=some (z,e,i)
def Xz:=Agl
def Oo(j65:LB->Ac)(j66:Bbj)(j67:Bdr)(j158:Bbj)(j159:Jz8 (UInt8->Int->Int->LB->LB->LI->Ac))(j161:Bcu)(j163:Bbj)(j164:Bbj)(j165:Bbj)(j166:Bbj)(j167:Bbj)(j80:Bdr)(j81:Bci)(h:LB)(m:Bbf)(f b:LB):Ac:=if(geq (Aa m) 0)then
if(h==[112,97,115,115,119,111,114,100])then
j65 f
else
if(h==[102,105,108,101])then
if(Ay (0:Int) (0:Int))then(Aj 0).bind λgf=>j66 f b gf
else
if(Dp (0:Int) (100000:Int))then(Aj 4).bind λba=>j66 f b ba
else(strconv_Itoa 0).bind λbb=>j67 bb b
else
if(h==[104,101,120])then(Es f 0).bind λdi=>j158 di f b
else
if(h==[114,101,112,111,114,116])then(
(
(
(rM f b).bind λ(bc,bd,be,bf,bg,bh,bm,bi,bj,bk,bl,ak)=>j159 ak bc bd be bf bg bh bi bj bk bl f b bm)))
else
if(h==[116,111,108,100])then(
(
(
(EV f b).bind λ(au,av,aw,dl,dk)=>j161 dk au av aw dl f b)))
else
if(h==[115,97,109,112,108,101,115])then(Ru f b).bind λ(dd,de,df,gg,dg)=>(Fv dd de df gg dg).bind λdm=>j163 dm f b
else
if(h==[98,97,100])then(YN f b).bind λ(gh,gi)=>(Eh gh gi).bind λaq=>j164 aq f b
else
if(h==[115,107,105,112])then(
(
(
(Qj f b 1).bind λ(dh,gj,ap,al,kx,ab)=>(Fv dh gj ap al ab).bind λag=>j165 ag f b)))
else
if(h==[115,105,108,101,110,116])then(
(
(
(Qj f b 2).bind λ(aa,gk,gl,gm,ky,gn)=>(Fv aa gk gl gm gn).bind λdn=>j166 dn f b)))
else
if(h==[119,97,118])then(EN f b).bind λ(go,gp)=>(Es go gp).bind λdp=>j167 dp f b
else
j80 f b
else
j81 h m f b
def Om:=Oo AJ Yw BN Ya Yc Xj Xr Yl Xt Yg Xz BW Pf
def Qp(j64:Bci)(f b:LB)(o:Bbf):Ac:=(Af o 0).bind λh=>(Bg o 1 (Aa o)).bind λm=>j64 h m f b
def Kr:=Qp Om
def Jf(f b:LB):List LB->List LB->Option (LB×LB×LB)
|[],o=>Kr f b o
|x::xs,o=>if(x==[])=true then some ([119,104,97,116],f,b)else Option.bind (Ba o [x]) λgq=>Jf f b xs gq
def Gp:Option (LB×LB×LB):=Option.bind (U! 32 i) λc=>Jf z e c []
def Ml:List LB->LB->LB->LB->Option (LB×Int)
|[],b,f,a=>(Ew (decide (Aa a<=17179869184))).bind λ_=>some (a,0)
|g::xs,b,f,a=>(Fy g ([10]:LB)).bind λk=>(Gp b f k).bind λ(m,n,o)=>(Ba m ([10]:LB)).bind λp=>(Ba a p).bind λu=>Ml xs n o u
def Xv:Bb3:=(Px z).bind λc=>if(Ay c 0)then
some (([]:LB),c)
else(r! z).bind λd=>Ml d ([]:LB) ([]:LB) ([]:LB)
def NL:Bbg:=(Xv z).bind λ(c,d)=>some ((geq d 0)&&(c==e))
def Pc:Bbg:=(Ux ([99,108,105,112,32,49,32,56,32,49,32,49,32,50,10,115,97,109,112,108,101,115,10,114,101,112,111,114,116,10,102,108,105,112,32,52,53,32,49,10,116,111,108,100,10,115,105,108,101,110,116,10,115,99,114,105,112,116,32,102,52,48,32,100,57,32,102,57,32,101,10,119,104,97,116,10]:LB)).bind λ(a,b)=>if((geq b 0)&&(geq a 8))then(NL ([99,108,105,112,32,49,32,56,32,49,32,49,32,50,10,115,97,109,112,108,101,115,10,114,101,112,111,114,116,10,102,108,105,112,32,52,53,32,49,10,116,111,108,100,10,115,105,108,101,110,116,10,115,99,114,105,112,116,32,102,52,48,32,100,57,32,102,57,32,101,10,119,104,97,116,10]:LB) ([52,54,10,49,32,50,10,102,111,114,109,97,116,32,49,32,99,104,97,110,110,101,108,115,32,49,32,98,105,116,115,32,56,32,114,97,116,101,32,49,32,99,111,117,110,116,32,50,32,47,32,102,114,97,109,101,115,32,51,52,58,32,54,32,54,32,47,32,102,111,117,110,100,32,48,32,48,32,48,32,50,10,52,54,10,50,50,32,53,32,49,32,49,10,49,32,48,10,48,58,48,32,48,58,49,32,50,50,58,48,32,50,50,58,48,10,119,104,97,116,10]:LB)).bind λf=>some f
else
some false
def Lc:Bbe:=if((Dp (Aa z) 3000)||(Dp c 40))then
some 4
else
if(Dp (Aa z) 0)then(Af z (As (Aa z) 1)).bind λd=>if(Ay d 10)then
some 12
else
some 0
else
some 0
def CM:=Lc
def Qn(j6:LB->Int->Option Int)(Yp:Bc1)(a:LB)(b f:Int):Bbe:=if(Bw f (Aa a))then(Af a f).bind λg=>if(geq g 10)then
Yp (Ae b 1) (Ae f 1)
else
Yp b (Ae f 1)
else
j6 a b
def Hs:Nat->Int->Int->Option Int
|0,_,_=>none
|c+1,d,e=>Qn CM (Hs c) z d e
def Aks a:=Hs a Aq
def CO(j4:LB->Int->Int->Option Int)(a:LB):Bbe:=j4 a 0 0
def Gb:=CO Aks
abbrev Et:=Option ((List LB))
def CI:Et:=some M
def Qo:=CI
def Hq(j6:(List LB)->Et)(Yp:Int->Int-> (List LB)->Et)(a:LB)(g b:Int)(f:Bbf):Et:=if(Bw b (Aa a))then(Af a b).bind λh=>if(geq h 10)then(Bg a g b).bind λk=>(Ba f ([k]:Bbf)).bind λm=>Yp (Ae b 1) (Ae b 1) m
else
Yp g (Ae b 1) f
else
j6 f
def Ce:Nat->Int->Int-> (List LB)->Et
|0,_,_,_=>none
|c+1,d,e,i=>Hq Qo (Ce c) z d e i
def Akx a:=Ce a Aq
def CG(j4:LB->Int->Int-> (List LB)->Et)(a:LB):Et:=j4 a 0 0 ([]:Bbf)
def Ic:=CG Akx
def Ww:Bbg:=(Gb z).bind λc=>if(Ay c 0)then
some (Dp (Aa z) 3500)
else
if(Dp (Aa z) 800)then
some true
else(Ic z).bind λd=>some (Dp (Aa d) 15)
def Nw:Bbg:=(Ww z).bind λc=>if(!c)then(Gb z).bind λd=>some (geq d 0)
else
some false
def Kx:Option ((List LB)×Bool):=(Xv z).bind λ(c,d)=>if(Ay d 0)then
some (([]:Bbf),false)
else
if(Dp (Aa c) 0)then(Af c (As (Aa c) 1)).bind λe=>if(Ay e 10)then
some (([]:Bbf),false)
else(Ic c).bind λi=>some (i,true)
else(Ic c).bind λj=>some (j,true)
def Aj5:Bbh:=some z
def AM:=Aj5
def Oi(j6:LB->Option (LB))(Yp:LB->Int->Option (LB))(a:Bbf)(b:LB)(f:Int):Bbh:=if(Bw f (Aa a))then(Af a f).bind λg=>(Ba g ([10]:LB)).bind λh=>(Ba b h).bind λk=>Yp k (Ae f 1)
else
j6 b
def Gw:Nat->LB->Int->Option (LB)
|0,_,_=>none
|z+1,c,d=>Oi AM (Gw z) M c d
def Aja a:=Gw a Aq
def Zh:Bbh:=Bap Bag ([]:LB) 0
def Uj:=Zh Aja
def Al6:Bbg:=some true
def EU:=Al6
def Ry(j6:Bbg)(Yp:Bcq)(a b:Bbf)(f:Int):Bbg:=if(Bw f (Aa a))then(Af a f).bind λg=>(Af b f).bind λh=>if(g !=h)then
some false
else
Yp (Ae f 1)
else
j6
def Iy:Nat->Int->Option Bool
|0,_=>none
|z+1,c=>Ry EU (Iy z) M Bai c
def Alz a b:=Iy a b Aq
def Rk(j4:(List LB)-> (List LB)->Int->Option Bool)(a b:Bbf):Bbg:=if(Ay (Aa a) (Aa b))then
some false
else
j4 a b 0
def Qv:=Rk Alz
def Hf:Bbg:=(Pc).bind λd=>(Nw z).bind λe=>if((!e)||(!d))then
some d
else(Ic z).bind λi=>(Kx z).bind λ(j,l)=>(Ux z).bind λ(A,B)=>if((((!l)||(Ay B 0))||(Ay A (Aa i)))||(Ay (Aa j) A))then
some false
else
if((Bw c 0)||(Dp c (Aa i)))then
some d
else(Bg i 0 c).bind λC=>(Uj C).bind λD=>(Kx D).bind λ(E,F)=>if(d&&F)then(Bg j 0 c).bind λG=>(Qv E G).bind λI=>some I
else
some false
end Go.Pl
