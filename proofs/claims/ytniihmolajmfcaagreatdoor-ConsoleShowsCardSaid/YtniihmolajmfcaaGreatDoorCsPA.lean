/- A part of a proof (see the text that ends in Proof). No conditions. -/
import Derived.Test.YtniihmolajmfcaaGreatDoorCsBA
import Derived.Lib.AtoiAllCases
set_option linter.unusedVariables false
namespace Go.Pl
open Go Go.Lv
abbrev Jz3(R:Type):=Int->Int->Int->R
abbrev Jz4(R:Type):=Int->Int->Int->Int->R
abbrev Jz5(R:Type):=Int->Int->Int->Int->Int->R
abbrev Jz6(R:Type):=Int->Int->Int->Int->Int->Int->R
abbrev Jz7(R:Type):=Int->Int->Int->Int->Int->Int->Int->R
abbrev Jz8(R:Type):=Int->Int->Int->Int->Int->Int->Int->Int->R
abbrev Jz9(R:Type):=Int->Int->Int->Int->Int->Int->Int->Int->Int->R
abbrev Jz10(R:Type):=Int->Int->Int->Int->Int->Int->Int->Int->Int->Int->R
abbrev Jz11(R:Type):=Int->Int->Int->Int->Int->Int->Int->Int->Int->Int->Int->R
abbrev LB:=List UInt8
abbrev LI:=List Int
abbrev LX:=List Int32
abbrev LU:=List UInt32
abbrev LQ:=List UInt64
abbrev Bb2:=List LB
abbrev Bea:=Int->LB->Option (LB)
abbrev Bda:=(List LB)->LB->Int->Option (LB)
abbrev Bc8:=Bool->Option Int
abbrev Bb1:=Option Int
abbrev Bci:=List (LB×LB×Unit)
abbrev Bdr:=List LI
abbrev Bb8:=List (UInt8×Int×Unit)
variable(z e:LB)(A:LI)(c d j D F O Bag Bav Baw Bax Bbi:Int)(J:LI)(B:LX)(Bay:LI)(i p8:LB)(C Z l6 Baj Bak:Int)(Ba4:LI)(Bal:Int)(R:LB)(E:Bool)(I o8:Int)(Ba7:LI)(l5:LB)(Bbm:LI)(U:LX)(L:Bb2)(l7:LB)(Ba0:Bool)(p9 Bat:Int)(M:UInt8)(N V Bbn Bbo Bbp Bbq:Int)(Bam:Bb2)(Bbr Bbs Bbt:Int)(y8:LB)(Ba1:Bool)(Bbu:Int)(Ba8:LB)(Bau:LX)(Ba9:LB)(Bbv:Bool)(Bbw:Int)(Bbx:LB)(Bbj:Bb2)(Ban:LB->Option (LB))(Bao:Bea)(Bba Bbb:Int)(G:UInt64)(w9:Int)(o9:LB)(X:UInt32)(l8:UInt64)(Ba5:LB)(y5 Bby Bbz:Int)(Bbk Bb0:UInt64)(P:Int32)(Bap:Int)(y9 y7:LX)(Bah:Int32)(Ba2:Bb2)(Baf:Int)(Bai:LB)(l9:LU)(Baq Bas:Int)(Bbc:LX)(Bbd:LQ)(Bbe:Bda)(Ba6:Bb2)(Bbl:LB)(Y:Bc8)(q8:Bool)(Ba3:Int)(Bbf:Bb1)(Bbg:Bool)(q9:Bci)(Bbh:Bdr)(o7:Bb8)
def strings_Count:Bb1:=match e with
|[c]=>some (Int.ofNat (z.count c))
|_=>none
abbrev Bb3:=Option Bool
def Cy:Bb3:=if(Fq (Aa z) (Aa e))then(Bg z (As (Aa z) (Aa e)) (Aa z)).bind λc=>some (c==e)
else
some false
def Rm:Bb3:=(Cy z e).bind λc=>some c
def VC:Bb1:=if(z !=([]:LB))then(Rm z ([10]:LB)).bind λc=>if(!c)then
some 12
else
some 0
else
some 0
def RQ:=VC
def WQ(j2:LB->Option Int)(a:LB):Bb1:=if(Dr (Aa a) 3000)then
some 4
else(strings_Count a ([10]:LB)).bind λf=>if(Dr f 40)then
some 4
else
j2 a
def Qj:=WQ RQ
abbrev Bcj:=Option (Int×Int)
def mL:Bcj:=(Qj z).bind λc=>if(Az c 0)then
some (0,c)
else(strings_Count z ([10]:LB)).bind λd=>some (d,0)
def Gb:LB->UInt8->Int
|[],_=> -1
|b::l,c=>if(b==c)=true then 0 else if(Gb l c== -1)=true then -1 else Gb l c+1
def strings_Index:Bb1:=match e with
|[c]=>some (Gb z c)
|_=>none
def stringslite_IndexByte:Bb1:=some (Gb z M)
def Ds:Bb1:=(stringslite_IndexByte z M).bind λc=>some c
def Un:Nat->LB->List LB
|0,_=>[]
|_+1,[]=>[]
|q+1,c::s=>if Bu (Gb (c::s) 10) 0=true then [c::s]else(c::s).take ((Gb (c::s) 10).toNat+1)::Un q ((c::s).drop ((Gb (c::s) 10).toNat+1))
def Pw:Nat->LB->List LB
|0,_=>[]
|z+1,c=>if Bu (Gb c M) 0=true then [c]else c.take (Gb c M).toNat::Pw z (c.drop ((Gb c M).toNat+1))
def CF:LB->List LB
|[]=>[]
|[a]=>[[a]]
|a::b::r=>[a,b]::CF r
abbrev Bdz:=Option (List LB)
def L? (s:LB):Bdz:=Option.bind (Ex (decide (Aa s<=17179869184))) λ_=>some (Un (s.length+1) s)
def p!:Bdz:=Option.bind (Ex (decide (Aa y8<=17179869184))) λ_=>some (Pw M (y8.length+1) y8)
def A? (l:LB):Bdz:=Option.bind (Ex (decide (Aa l<=17179869184))) λ_=>some (CF l)
def dgt:Nat->Nat->LB->LB
|0,_,a=>a
|q+1,n,a=>if n<10 then UInt8.ofNat (48+n)::a else dgt q (n/10) (UInt8.ofNat (48+n %10)::a)
def strconv_Itoa:Option LB:=if decide (-9223372036854775808<=c/\c<=9223372036854775807)=true then some (if c<0 then 45::dgt 20 c.natAbs []else dgt 20 c.toNat [])else none
abbrev Bb4:=Option (LB)
def Aj:Bb4:=(strconv_Itoa c).bind λz=>(Ax ([101,114,114,111,114,32]:LB) z).bind λd=>some d
def fY:Bb4:=(Ex (decide (Aa z<=17179869184))).bind λ_=>some z
def LV:=fY
def ME:Bb4:=if(Bu y5 (Aa o9))then(Af o9 y5).bind λz=>(Af ([48,49,50,51,52,53,54,55,56,57,97,98,99,100,101,102]:LB) (GI.toZ (Dj z (GI.toZ (4:UInt64)).toNat))).bind λc=>(Ax Bai ([c]:LB)).bind λd=>(Af ([48,49,50,51,52,53,54,55,56,57,97,98,99,100,101,102]:LB) (GI.toZ (Ed z 15))).bind λe=>(Ax d ([e]:LB)).bind λi=>Bao (Ae y5 1) i
else
Ban Bai
def Tf:Nat->Int->LB->Option (LB)
|0,_,_=>none
|c+1,d,e=>ME LV (Tf c) z d e
def Ahe a:=Tf a Ap
abbrev Bdi:=LB->Int->LB->Option (LB)
def Zl(j4:Bdi)(a:LB)(h:Int):Bb4:=if(Az h 0)then(Aj h).bind λp=>some p
else
j4 a 0 ([]:LB)
def Et:=Zl Ahe
def Mk:Bb3:=some (z==e)
def Mc:Bb3:=if(Fq (Aa z) (Aa e))then(Bg z 0 (Aa e)).bind λc=>(Mk c e).bind λd=>some d
else
some false
abbrev Jo:=Option (Int×Int)
def Ayg:Jo:=some (c,0)
def VS:=Ayg
def SW(j6:Int->Jo)(Qw:Int->Int->Jo)(a:LB)(b f:Int):Jo:=if(Bu f (Aa a))then(Af a f).bind λg=>if(Dr g 127)then
some (0,12)
else
Qw (gor (Fi b (GI.toZ (7:UInt64)).toNat) (Al g:Int)) (Ae f 1)
else
j6 b
def Tj:Nat->Int->Int->Jo
|0,_,_=>none
|c+1,d,e=>SW VS (Tj c) z d e
def Axp a:=Tj a Ap
def VH(j4:LB->Int->Int->Jo)(a:LB):Jo:=if(Az (Aa a) 4)then
some (0,2)
else
j4 a 0 0
def QQ:=VH Axp
abbrev Hf:=Option (Int×Int)
def Abq:Hf:=if(Dr N 4000)then
some (0,4)
else
if(Bu (Aa z) N)then
some (0,24)
else
if(geq M 16)then(Bg z (As N 10) N).bind λc=>(Bg c 0 3).bind λd=>if(d !=([51,68,73]:LB))then
some (0,12)
else(Bg c 3 (Aa c)).bind λe=>(Bg z 3 10).bind λi=>(Mk e i).bind λj=>if(!j)then
some (0,12)
else
some (N,0)
else
some (N,0)
def Abe:=Abq
def Ac7(j8:LB->UInt8->Int->Hf)(a:LB)(g:Int)(b:UInt8):Hf:=if(geq b 16)then
j8 a b (Ae (Ae g 10) 10)
else
j8 a b (Ae g 10)
def Ad0:=Ac7 Abe
def Aaf(j7:LB->Int->UInt8->Hf)(a:LB)(g:Int)(b:UInt8)(m:Bool):Hf:=if m then
some (0,12)
else
j7 a g b
def FZ:=Aaf Ad0
def cL(j6:LB->Int->UInt8->Bool->Hf)(a:LB)(f b:UInt8):Hf:=(Bg a 6 10).bind λaa=>(QQ aa).bind λ(g,ab)=>if(Az ab 0)then
if true then
j6 a g b true
else
if(geq b 0)then
j6 a g b (!((Fq f 2)&&(UA f 4)))
else
if(geq b 16)then
j6 a g b (!(geq f 4))
else
j6 a g b (!false)
else(Af a 4).bind λac=>if(Az ac 0)then
j6 a g b true
else
if(geq b 0)then
j6 a g b (!((Fq f 2)&&(UA f 4)))
else
if(geq b 16)then
j6 a g b (!(geq f 4))
else
j6 a g b (!false)
def bE:=cL FZ
def GF(j5:LB->UInt8->UInt8->Hf)(a:LB):Hf:=(Mc a ([(73:UInt8),(68:UInt8),(51:UInt8)]:LB)).bind λn=>if(!n)then
some (0,6)
else
if(Bu (Aa a) 10)then
some (0,24)
else(Af a 3).bind λf=>(Af a 5).bind λb=>(
(
(
j5 a f b)))
def XI:=GF bE
abbrev Xj:=Option (UInt64×Int)
def z!:Xj:=some (G,0)
def B5:=z!
def C1(j6:UInt64->Xj)(Qw:UInt64->Int->Xj)(a:LB)(f:UInt64)(b:Int):Xj:=if(Bu b (Aa a))then(Af a b).bind λg=>(Ex (Fq (Ch 8 b) 0)).bind λ_=>Qw (gor f (Fi (Al g:UInt64) (GI.toZ (Ch 8 b)).toNat)) (Ae b 1)
else
j6 f
def NO:Nat->UInt64->Int->Xj
|0,_,_=>none
|c+1,d,e=>C1 B5 (NO c) z d e
def zk a:=NO a Ap
def D7(j4:LB->UInt64->Int->Xj)(a:LB):Xj:=if((Bu (Aa a) 1)||(Dr (Aa a) 8))then
some (0,2)
else
j4 a 0 0
def rP:=D7 zk
abbrev Bdd:=Option (UInt64×Int)
def D0:Bdd:=if(((Bu d 1)||(Dr d 8))||(Bu c 0))then
some (0,2)
else
if(Dr c (As (Aa z) d))then
some (0,24)
else(Bg z c (Ae c d)).bind λe=>(rP e).bind λ(i,j)=>some (i,j)
def t? (b:UInt64)(a:Int):Bb3:=if(geq a 8)then
some true
else(Ex (Fq (Ch 8 a) 0)).bind λ_=>some (geq (Dj b (GI.toZ (Ch 8 a)).toNat) 0)
abbrev Xh:=Option (LB×Int)
def zN:Xh:=some (z,0)
def A4:=zN
def B7(j6:LB->Xh)(Qw:Int->LB->Xh)(f:UInt64)(g:LB)(a:Int)(b:LB):Xh:=if(Bu a (Aa g))then(Ex (Fq (Ch 8 a) 0)).bind λ_=>(Af b a).bind λ_=>(Ml b a (Al (Dj f (GI.toZ (Ch 8 a)).toNat):UInt8)).bind λk=>Qw (Ae a 1) k
else
j6 b
def OT:Nat->Int->LB->Xh
|0,_,_=>none
|z+1,c,d=>B7 A4 (OT z) G o9 c d
def za f g:=OT f g Ap
def C2(j4:UInt64->LB->Int->LB->Xh)(f:UInt64)(h:Int):Xh:=if((Bu h 1)||(Dr h 8))then
some (([]:LB),2)
else(t? f h).bind λm=>if(!m)then
some (([]:LB),16)
else(mkI h (0:UInt8)).bind λg=>(Ex (geq h h)).bind λ_=>j4 f g 0 g
def Mf:=C2 za
def Ae2:Bb4:=some z
def Z5:=Ae2
def je:Bb4:=if(Bu w9 (Aa ([(2000:UInt64),(Al (Ae Bba 32):UInt64),(Al Bbb:UInt64),G,(0:UInt64),(0:UInt64)]:LQ)))then(Af ([(2000:UInt64),(Al (Ae Bba 32):UInt64),(Al Bbb:UInt64),G,(0:UInt64),(0:UInt64)]:LQ) w9).bind λ_=>(Af ([(2000:UInt64),(Al (Ae Bba 32):UInt64),(Al Bbb:UInt64),G,(0:UInt64),(0:UInt64)]:LQ) w9).bind λz=>(Mf z 4).bind λ(c,d)=>(Ax o9 c).bind λe=>Bao (Ae w9 1) e
else
Ban o9
def ZM:Nat->Int->LB->Option (LB)
|0,_,_=>none
|z+1,e,i=>je Z5 (ZM z) c d G e i
def U1 a b f:=ZM a b f Ap
def pB(j4:Int->Int->UInt64->Int->LB->Option (LB))(a b:Int)(f:UInt64):Bb4:=j4 a b f 0 ([(65:UInt8),(80:UInt8),(69:UInt8),(84:UInt8),(65:UInt8),(71:UInt8),(69:UInt8),(88:UInt8)]:LB)
def jY:=pB U1
def TE:Option (Int×Int×Bool):=(D0 z 12 4).bind λ(c,d)=>(D0 z 16 4).bind λ(e,i)=>if(((Bu c 32)||(Dr c 3032))||(Dr e 1000))then
some (0,0,false)
else(jY (As (Al c:Int) 32) (Al e:Int) G).bind λj=>(Mk z j).bind λA=>some ((As (Al c:Int) 32),(Al e:Int),A)
def xU:Bcj:=(Mc z ([(65:UInt8),(80:UInt8),(69:UInt8),(84:UInt8),(65:UInt8),(71:UInt8),(69:UInt8),(88:UInt8)]:LB)).bind λc=>if(!c)then
some (0,6)
else
if(Bu (Aa z) 32)then
some (0,24)
else(Bg z 0 32).bind λd=>(TE d 2684354560).bind λ(e,i,j)=>if(!j)then
some (0,12)
else
if(Bu (Aa z) (Ae e 64))then
some (0,24)
else(Bg z (As (Ae e 64) 32) (Ae e 64)).bind λA=>(jY e i 2147483648).bind λB=>(Mk A B).bind λC=>if(!C)then
some (0,12)
else
some ((Ae e 64),0)
def Wy:Bcj:=(XI z).bind λ(c,d)=>if(Az d 6)then
some (c,d)
else(xU z).bind λ(e,i)=>some (e,i)
def Vn(b:List UInt8):Nat->Int->Option (Int×Int)
  |0,_=>none
  |q+1,x=>Option.bind (Bg b x (Aa b)) λs=>Option.bind (Wy s) λr=>
    if geq r.2 (6:Int)=true then some (x,0)
    else if(geq r.2 (0:Int)&&Dr (Ae x r.1) (4000:Int))=true then some (0,4)
    else if Az r.2 (0:Int)=true then some (0,r.2)
    else Vn b q (Ae x r.1)
def Gh(b:List UInt8):Bcj:=Vn b Ap 0
def Ic:Bb3:=if(Fq (Aa z) (Aa e))then(Bg z 0 (Aa e)).bind λc=>some (c==e)
else
some false
def Re:Bb3:=(Ic z e).bind λc=>some c
abbrev Bp:=Option (UInt32×Int)
def Agc:Bp:=some (X,0)
def eJ:=Agc
def iJ(j30:UInt32->Bp)(Awt:UInt32->Int->Bp)(a:LB)(b:LU)(h:UInt32)(m:Int):Bp:=if(Bu m (Aa a))then(Af a m).bind λp=>(Af b (GI.toZ (pF (Al h:UInt8) p))).bind λ_=>(Af b (GI.toZ (pF (Al h:UInt8) p))).bind λu=>Awt (pF (Dj h (GI.toZ (8:UInt64)).toNat) u) (Ae m 1)
else
j30 h
def AI:Nat->UInt32->Int->Bp
|0,_,_=>none
|c+1,d,e=>iJ eJ (AI c) z l9 d e
def fR a b:=AI a b Ap
def eY(j28:LB->LU->UInt32->Int->Bp)(f:UInt32)(a:LB)(b:LU):Bp:=j28 a b f 0
def Age:=eY fR
def eM(j27:UInt32->LB->LU->Bp)(f:UInt32)(a:LB)(b:LU):Bp:=j27 f a b
def Ajy:=eM Age
abbrev Bei:=Int->LU->Bp
def Af2(Fj:Bei)(f:UInt32)(a:LB)(g:Int)(o:LU):Bp:=Fj (Ae g 1) o
def Aty Fj:=Af2 Fj
def Aku(j24:Bei)(f:UInt32)(a:LB)(g:Int)(k:UInt32)(b:LU):Bp:=(Af b g).bind λ_=>(Ml b g k).bind λo=>j24 g o
def eW Fj f a:=Aku (Aty Fj f a) f a
def eD(j23:Int->UInt32->LU->Bp)(IW:UInt32->Int->Bp)(f:UInt32)(a:LB)(g:Int)(b:LU)(k:UInt32)(n:Int):Bp:=if(Bu n 8)then
IW (pF (Dj k (GI.toZ (1:UInt64)).toNat) (Ch 3988292384 (Ed k 1))) (Ae n 1)
else
j23 g k b
def Zp(Fj:Bei)(f:UInt32)(a:LB)(g:Int)(b:LU):Nat->UInt32->Int->Bp
|0,_,_=>none
|q+1,k,n=>eD (eW Fj f a) (Zp Fj f a g b q) f a g b k n
def dK Fj f a g b:=Zp Fj f a g b Ap
def iK(j21:Int->LU->UInt32->Int->Bp)(j26:UInt32->LB->LU->Bp)(f:UInt32)(a:LB)(g:Int)(b:LU):Bp:=if(Bu g 256)then
j21 g b (Al g:UInt32) 0
else
j26 f a b
def Zj:Nat->Int->LU->Bp
|0,_,_=>none
|z+1,c,d=>iK (dK (Zj z) X Ba5) Ajy X Ba5 c d
def Afw f a:=Zj f a Ap
def mI(j16:UInt32->LB->Int->LU->Bp)(f:UInt32)(a:LB):Bp:=if(Dr (Aa a) 100000)then
some (0,4)
else
j16 f a 0 (List.replicate 256 (0:UInt32))
def pM:=mI Afw
def Xv:Option (UInt32×Int):=(pM 4294967295 z).bind λ(c,d)=>if(Az d 0)then
some (0,d)
else
some ((SI c),0)
def Ayd(b f a g h:Int):Bb3:=some (((((((geq b 1)||(geq b 2))&&(Dr f 0))&&(UA f 6))&&(Dr g 0))&&(UA g 1048576))&&(Dr h 0))
def Ayk:=Ayd
def Ay1(j2:Jz5 (Option Bool))(b f a g h:Int):Bb3:=if(geq a 8)then
if(geq a 8)then
j2 b f a g h
else
some false
else
if(geq a 16)then
if(geq a 16)then
j2 b f a g h
else
some false
else
if(geq a 24)then
j2 b f a g h
else
some false
def EJ:=Ay1 Ayk
def Ju:Bcj:=if((Bu c 1)||(Dr c 1048576))then
some (0,2)
else
some ((I4 1 (Ey (Ch 256 c) 245)),0)
def Kl:Bcj:=(Ju c).bind λ(z,e)=>if(Az e 0)then
some (0,e)
else
if((Bu d 1)||(Dr d 4000))then
some (0,2)
else(Ex (Az z 0)).bind λ_=>if(Dr (Ey (As (Ae d z) 1) z) 1000)then
some (0,4)
else
some ((Ey (As (Ae d z) 1) z),0)
def PC(k a m f b:Int):Bb3:=(Ex (Az a 0)).bind λ_=>if(Dr b (Ey 4000 a))then
some false
else(Kl f b).bind λ(g,h)=>some ((geq h 0)&&(UA g 1000))
abbrev My:=Option (Int×Int×Int×Int×Int×Int)
def Ax6:My:=(Af A 0).bind λ_=>(Af A 0).bind λz=>(Af A 1).bind λ_=>(Af A 1).bind λc=>(Af A 2).bind λ_=>(Af A 2).bind λd=>(Af A 3).bind λ_=>(Af A 3).bind λe=>(Af A 4).bind λ_=>(Af A 4).bind λi=>(EJ z c d e i).bind λj=>if(!j)then
some (0,0,0,0,0,12)
else(PC z c d e i).bind λB=>if(!B)then
some (0,0,0,0,0,4)
else
some (z,c,d,e,i,0)
def dT:=Ax6
def dW(j6:LI->My)(Qw:Int->Int->LI->My)(b:LB)(g f:Int)(a:LI):My:=if(Bu f 5)then(Af ([(2:Int),(2:Int),(2:Int),(4:Int),(4:Int)]:LI) f).bind λh=>(D0 b g h).bind λ(v,ae)=>(Af a f).bind λ_=>(Ml a f (Al v:Int)).bind λw=>Qw (Ae g h) (Ae f 1) w
else
j6 a
def Zi:Nat->Int->Int->LI->My
|0,_,_,_=>none
|c+1,d,e,i=>dW dT (Zi c) z d e i
def Agq b:=Zi b Ap
def iB(j4:LB->Int->Int->LI->My)(b:LB):My:=(Bg b 0 (Gi 4 (Aa b))).bind λy=>(Re ([84,84,65,49]:LB) y).bind λaa=>if(!aa)then
some (0,0,0,0,0,12)
else
if(Bu (Aa b) 22)then
some (0,0,0,0,0,24)
else(D0 b 18 4).bind λ(ab,af)=>(Bg b 0 18).bind λac=>(Xv ac).bind λ(ad,ag)=>if(Az (Al ad:UInt64) ab)then
some (0,0,0,0,0,22)
else
j4 b 4 0 (List.replicate 5 (0:Int))
def Kj:=iB Agq
abbrev Bq:=Option (UInt64×Int)
def Amw:Bq:=some (G,0)
def Anb:=Amw
def Aeh(j30:UInt64->Bq)(h b:UInt64)(a:LB)(f:LQ):Bq:=j30 h
def gQ:=Aeh Anb
def fA(j29:UInt64->UInt64->LB->LQ->Bq)(Uu:UInt64->Int->Bq)(a:LB)(b:UInt64)(f:LQ)(h:UInt64)(m:Int):Bq:=if(Bu m (Aa a))then(Af a m).bind λp=>Option.bind (Af f (GI.toZ (pF (Al (Dj h (GI.toZ (56:UInt64)).toNat):UInt8) p))) λ_=>Option.bind (Af f (GI.toZ (pF (Al (Dj h (GI.toZ (56:UInt64)).toNat):UInt8) p))) λu=>Uu (pF (Fi h (GI.toZ (8:UInt64)).toNat) u) (Ae m 1)
else
j29 h b a f
def AA:Nat->UInt64->Int->Bq
|0,_,_=>none
|c+1,d,e=>fA gQ (AA c) z G Bbd d e
def eI a b f:=AA a b f Ap
def dP(j27:LB->UInt64->LQ->UInt64->Int->Bq)(b:UInt64)(a:LB)(f:LQ):Bq:=j27 a b f b 0
def Ane:=dP eI
abbrev Bej:=Int->LQ->Bq
def Adz(Fj:Bej)(b:UInt64)(a:LB)(g:Int)(o:LQ):Bq:=Fj (Ae g 1) o
def Aga Fj:=Adz Fj
def Af3(j24:Bej)(b:UInt64)(a:LB)(g:Int)(k:UInt64)(f:LQ):Bq:=(Af f g).bind λ_=>(Ml f g k).bind λo=>j24 g o
def eE Fj b a:=Af3 (Aga Fj b a) b a
def dG(j23:Int->UInt64->LQ->Bq)(IW:UInt64->Int->Bq)(b:UInt64)(a:LB)(g:Int)(f:LQ)(k:UInt64)(n:Int):Bq:=if(Bu n 8)then
IW (pF (Fi k (GI.toZ (1:UInt64)).toNat) (Ch 4823603603198064275 (Dj k (GI.toZ (63:UInt64)).toNat))) (Ae n 1)
else
j23 g k f
def BF(Fj:Bej)(b:UInt64)(a:LB)(g:Int)(f:LQ):Nat->UInt64->Int->Bq
|0,_,_=>none
|q+1,k,n=>dG (eE Fj b a) (BF Fj b a g f q) b a g f k n
def jB Fj b a g f:=BF Fj b a g f Ap
def fJ(j21:Int->LQ->UInt64->Int->Bq)(j26:UInt64->LB->LQ->Bq)(b:UInt64)(a:LB)(g:Int)(f:LQ):Bq:=if(Bu g 256)then
j21 g f (Fi (Al g:UInt64) (GI.toZ (56:UInt64)).toNat) 0
else
j26 b a f
def CC:Nat->Int->LQ->Bq
|0,_,_=>none
|z+1,c,d=>fJ (jB (CC z) G o9) Ane G o9 c d
def Ajz b a:=CC b a Ap
def mX(j16:UInt64->LB->Int->LQ->Bq)(b:UInt64)(a:LB):Bq:=if(Dr (Aa a) 100000)then
some (0,4)
else
j16 b a 0 (List.replicate 256 (0:UInt64))
def oW:=mX Ajz
def jZ:Bdd:=(oW 0 z).bind λ(c,d)=>some (c,d)
def xX:Bdd:=if(Dr (Aa z) 64)then
some (0,2)
else(jZ z).bind λ(c,d)=>some (c,0)
abbrev Bcq:=Option (LB×Int)
def IL:Bcq:=(xX z).bind λ(c,d)=>if(Az d 0)then
some (([]:LB),d)
else(Mf c 8).bind λ(e,i)=>some (e,i)
abbrev Bdv:=Option (Bool×Int)
def Tx:Bdv:=(IL e).bind λ(c,d)=>if((Az d 0)||(Az (Aa z) (Aa c)))then
some (false,2)
else(Mk z c).bind λi=>some (i,0)
def HW:Bb1:=(EJ c d j D F).bind λz=>if(!z)then
some 8
else(PC c d j D F).bind λe=>if(!e)then
some 8
else
some 0
abbrev Bd4:=Option (UInt64×UInt64)
def GQ:Bd4:=some ((Ae (Ae (Ch (Dj G (GI.toZ (32:UInt64)).toNat) (Dj l8 (GI.toZ (32:UInt64)).toNat)) (Dj (Ae (Ch (Dj G (GI.toZ (32:UInt64)).toNat) (Ed l8 4294967295)) (Dj (Ch (Ed G 4294967295) (Ed l8 4294967295)) (GI.toZ (32:UInt64)).toNat)) (GI.toZ (32:UInt64)).toNat)) (Dj (Ae (Ed (Ae (Ch (Dj G (GI.toZ (32:UInt64)).toNat) (Ed l8 4294967295)) (Dj (Ch (Ed G 4294967295) (Ed l8 4294967295)) (GI.toZ (32:UInt64)).toNat)) 4294967295) (Ch (Ed G 4294967295) (Dj l8 (GI.toZ (32:UInt64)).toNat))) (GI.toZ (32:UInt64)).toNat)),(Ch G l8))
def FB:Bd4:=(GQ G l8).bind λ(z,c)=>some (z,c)
abbrev Bco:=Option (LI)
def Lq:Bco:=some A
def Hs:=Lq
abbrev Bdn:=Int->LI->Option (LI)
def Fs(j10:LI->Option (LI))(bk8:Bdn)(b:Int)(a:LI):Bco:=if(Bu b (Aa a))then(
(kB (Aa a) b (Aa a)).bind λ_=>(kB (Aa a) 0 b).bind λ_=>bk8 (Ae b (Cp ((Aa a)-b) (Eh a 0 (b-(0:Int))).length)) (Ou a b ((Aa a)-b) (Eh a 0 (b-(0:Int)))))
else
j10 a
def Ee:Nat->Int->LI->Option (LI)
|0,_,_=>none
|q+1,b,a=>Fs Hs (Ee q) b a
def Vu:=Ee Ap
def Mx(j8:Bdn)(f:LI)(g:UInt64):Bco:=(mkI (Al g:Int) (0:Int)).bind λk=>(Ex (geq (Al g:Int) (Al g:Int))).bind λ_=>j8 (Cp (Aa k) f.length) (Cq k f)
def Vq:=Mx Vu
def Mp(j7:LI->UInt64->Option (LI))(f:LI)(h:Int):Bco:=(FB (Al (Aa f):UInt64) (Al h:UInt64)).bind λ(m,g)=>if((Dr m 0)||(Dr g 9223372036854775807))then
none
else
j7 f g
def Vv:=Mp Vq
def Mv(j6:LI->Int->Option (LI))(f:LI)(h:Int):Bco:=if(Bu h 0)then
none
else
j6 f h
def Lk:=Mv Vv
def Ad9:Bco:=some A
def Uk:=Ad9
def Fb(j16:LI->Option (LI))(Za:Bdn)(a:Bdr)(g:Int)(f:LI):Bco:=if(Bu g (Aa a))then(Af a g).bind λn=>(Ax f n).bind λo=>Za (Ae g 1) o
else
j16 f
def Dw:Nat->Int->LI->Option (LI)
|0,_,_=>none
|z+1,c,d=>Fb Uk (Dw z) Bbh c d
def Lw a:=Dw a Ap
def Lr(j14:(List LI)->Int->LI->Option (LI))(a:Bdr)(p:LI):Bco:=j14 a 0 p
def Ly:=Lr Lw
def Lt(j13:(List LI)->LI->Option (LI))(b:Int)(a:Bdr):Bco:=if(Dr (As b (As (0:Int) (0:Int))) 0)then(kB 0 0 0).bind λ_=>(mkI (As b (As (0:Int) (0:Int))) (0:Int)).bind λu=>(Ax ([]:LI) u).bind λk=>(kB (Aa k) 0 0).bind λ_=>j13 a (Eh k 0 ((0:Int)-(0:Int)))
else
j13 a ([]:LI)
def Ug:=Lt Ly
def Lz(j12:Int-> (List LI)->Option (LI))(a:Bdr)(b:Int):Bco:=if(Bu b 0)then
none
else
j12 b a
def Ue:=Lz Ug
def Fo(j11:(List LI)->Int->Option (LI))(bk9:Int->Int->Option (LI))(a:Bdr)(b h:Int):Bco:=if(Bu h (Aa a))then(Af a h).bind λm=>if(Bu (Ae b (Aa m)) 0)then
none
else
bk9 (Ae b (Aa m)) (Ae h 1)
else
j11 a b
def Ec:Nat->Int->Int->Option (LI)
|0,_,_=>none
|z+1,c,d=>Fo Ue (Ec z) Bbh c d
def Vg a:=Ec a Ap
def Ms(j9:(List LI)->Int->Int->Option (LI))(a:Bdr):Bco:=j9 a 0 0
def Li:=Ms Vg
def AW:Bco:=(Li ([A,J]:Bdr)).bind λz=>some z
def Ok:Option (LI×Int):=(Kl c d).bind λ(z,e)=>if(Az e 0)then
some (([]:LI),e)
else(Ju c).bind λ(i,j)=>(Lk ([i]:LI) (As z 1)).bind λA=>(AW A ([(As d (Ch (As z 1) i))]:LI)).bind λB=>some (B,0)
def Bn:Option (LI×Int):=(HW c d j D F).bind λz=>if(Az z 0)then
some (([]:LI),z)
else(Ok D F).bind λ(e,i)=>some (e,i)
def As7:Bb1:=some 0
def jQ:=As7
abbrev Bdo:=Int->Int->Option Int
def jI(j6:Bb1)(Qw:Bdo)(a:LI)(f b:Int):Bb1:=if(Bu b (Aa a))then(Af a b).bind λg=>if((Bu g 5)||(Dr g f))then
some 8
else
Qw (As f g) (Ae b 1)
else
j6
def AK:Nat->Int->Int->Option Int
|0,_,_=>none
|z+1,c,d=>jI jQ (AK z) A c d
def Aqy a:=AK a Ap
abbrev Bd0:=LI->Int->Int->Option Int
def hH(j4:Bd0)(a:LI):Bb1:=if((geq (Aa a) 0)||(Dr (Aa a) 1000))then
some 8
else
j4 a 100000 0
def Ta:=hH Aqy
abbrev Pj:=Option (LI×Int)
def Am1:Pj:=(Ta A).bind λz=>if(Az z 0)then
some (([]:LI),12)
else
some (A,0)
def lV:=Am1
def mK(j6:LI->Pj)(Qw:Int->LI->Pj)(a:LB)(f:LI)(g:Int)(b:LI):Pj:=if(Bu g (Aa f))then(D0 a (Ch 4 g) 4).bind λ(k,u)=>(Af b g).bind λ_=>(Ml b g (Al k:Int)).bind λm=>Qw (Ae g 1) m
else
j6 b
def ES:Nat->Int->LI->Pj
|0,_,_=>none
|c+1,d,e=>mK lV (ES c) z A d e
def Ajw a f:=ES a f Ap
def nE(j4:LB->LI->Int->LI->Pj)(a:LB)(h:Int):Pj:=if((Bu h 1)||(Dr h 1000))then
some (([]:LI),2)
else
if(Bu (Aa a) (Ae (Ch 4 h) 4))then
some (([]:LI),24)
else(D0 a (Ch 4 h) 4).bind λ(n,v)=>(Bg a 0 (Ch 4 h)).bind λo=>(Xv o).bind λ(p,w)=>if(Az (Al p:UInt64) n)then
some (([]:LI),22)
else(mkI h (0:Int)).bind λf=>(Ex (geq h h)).bind λ_=>j4 a f 0 f
def Xb:=nE Ajw
abbrev QD:=Option (Int×Int×Int×Int×Int×Int×LI×Int)
def Ajx:QD:=(Bn c d j D F).bind λ(e,i)=>if(Az i 0)then
some (0,0,0,0,0,0,([]:LI),i)
else(Bg z O (Aa z)).bind λA=>(Xb A (Aa e)).bind λ(B,C)=>if(Az C 0)then
some (0,0,0,0,0,0,([]:LI),C)
else
some (c,d,j,D,F,(Ae (Ae O (Ch 4 (Aa B))) 4),B,0)
def fL:=Ajx
def Aek(j2:LB->Jz6 QD)(a n:LB):QD:=if(Dr (Aa n) 64)then
some (0,0,0,0,0,0,([]:LI),2)
else
if(Dr (Aa a) 100000)then
some (0,0,0,0,0,0,([]:LI),4)
else(Gh a).bind λ(f,w)=>if(Az w 0)then
some (0,0,0,0,0,0,([]:LI),w)
else(Bg a f (Aa a)).bind λad=>(Kj ad).bind λ(b,g,h,k,m,y)=>if(Az y 0)then
some (0,0,0,0,0,0,([]:LI),y)
else
if((n==([]:LB)) !=(geq b 1))then
some (0,0,0,0,0,0,([]:LI),26)
else
if(n !=([]:LB))then
if(Bu (Aa a) (Ae (Ae f 22) 8))then
some (0,0,0,0,0,0,([]:LI),24)
else(Bg a (Ae f 22) (Ae (Ae f 22) 8)).bind λae=>(Tx ae n).bind λ(af,aa)=>if(Az aa 0)then
some (0,0,0,0,0,0,([]:LI),aa)
else
if(!af)then
some (0,0,0,0,0,0,([]:LI),26)
else
j2 a b g h k m (Ae (Ae f 22) 8)
else
j2 a b g h k m (Ae f 22)
def Gm:=Aek fL
def NN:Option (Int×Int×Int×Int×Int×Int×Int×Int×Int×Int×LI×Int):=if(Dr (Aa z) 100000)then
some (0,0,0,0,0,0,0,0,0,0,([]:LI),4)
else(Gh z).bind λ(c,d)=>if(Az d 0)then
some (0,0,0,0,0,0,0,0,0,0,([]:LI),d)
else(Bg z c (Aa z)).bind λe=>(Kj e).bind λ(i,j,A,B,C,D)=>if(Az D 0)then
some (i,j,A,B,C,0,0,0,0,0,([]:LI),D)
else(Bn i j A B C).bind λ(E,F)=>if(geq i 2)then
some (i,j,A,B,C,c,(Ae c 22),(Ae (Ae c 22) 8),0,0,E,0)
else
some (i,j,A,B,C,c,(Ae c 22),(Ae c 22),0,0,E,0)
abbrev Bd5:=Option (LX)
def Afv:Bd5:=some B
def T7:=Afv
def yj(j6:LX->Option (LX))(Qw:Int->LX->Option (LX))(f:UInt64)(a:Int)(b:LX):Bd5:=if(Bu a 8)then(Ex (Fq (Ch 8 a) 0)).bind λ_=>(Af b a).bind λ_=>(Ml b a (Al (Al (Dj f (GI.toZ (Ch 8 a)).toNat):Int8):Int32)).bind λg=>Qw (Ae a 1) g
else
j6 b
def YN:Nat->Int->LX->Option (LX)
|0,_,_=>none
|z+1,c,d=>yj T7 (YN z) G c d
def xu f:=YN f Ap
def oX(j4:UInt64->Int->LX->Option (LX))(f:UInt64):Bd5:=j4 f 0 (List.replicate 16 (0:Int32))
def O0:=oX xu
abbrev Bd1:=Option (LX×Int)
def Oe:Bd1:=if(Dr (Aa z) 64)then
some (([(0:Int32),(0:Int32),(0:Int32),(0:Int32),(0:Int32),(0:Int32),(0:Int32),(0:Int32),(0:Int32),(0:Int32),(0:Int32),(0:Int32),(0:Int32),(0:Int32),(0:Int32),(0:Int32)]:LX),2)
else(jZ z).bind λ(c,d)=>if(Az d 0)then
some (([(0:Int32),(0:Int32),(0:Int32),(0:Int32),(0:Int32),(0:Int32),(0:Int32),(0:Int32),(0:Int32),(0:Int32),(0:Int32),(0:Int32),(0:Int32),(0:Int32),(0:Int32),(0:Int32)]:LX),d)
else(O0 c).bind λe=>some (e,0)
abbrev QX:=Option (Int32×Int32×Int)
def Afu:QX:=if E then(Ex (Fq (As c 1) 0)).bind λ_=>some ((NH (Fi (1:Int32) (GI.toZ (As c 1)).toNat)),(As (Fi (1:Int32) (GI.toZ (As c 1)).toNat) 1),0)
else
some (0,0,2)
def Ax4:=Afu
def Anc(j2:Int->Bool->QX)(a:Int):QX:=if(geq a 8)then
j2 a (geq a 8)
else
if(geq a 16)then
j2 a (geq a 16)
else
j2 a (geq a 24)
def FV:=Anc Ax4
def Mt:Bb1:=(FV d).bind λ(z,e,i)=>if(((Az i 0)||(Bu c 1))||(Dr c 6))then
some 2
else
some 0
def KV:Bcq:=if(Bu (Aa z) 5)then
some (([]:LB),24)
else
if(Dr (Aa z) 41254)then
some (([]:LB),4)
else(Bg z 0 (As (Aa z) 4)).bind λc=>(Xv c).bind λ(d,e)=>if(Az e 0)then
some (([]:LB),e)
else(Bg z (As (Aa z) 4) (Aa z)).bind λi=>(rP i).bind λ(j,A)=>if((Az A 0)||(Az j (Al d:UInt64)))then
some (([]:LB),22)
else(Bg z 0 (As (Aa z) 4)).bind λB=>some (B,0)
def Bk:Bb4:=(
(Ax ([]:LB) z).bind λc=>some c)
abbrev Bd8:=Option (LB×Int×Int)
def u? (a:LB):Bd8:=if(Dr (Aa a) 41250)then
some (([]:LB),0,4)
else(Bk a).bind λb=>some (b,(Ch 8 (Aa a)),0)
def ZO:Option (Int×Int×UInt64×UInt64):=some (10,10,16384,16384)
def Jp:Bb1:=if(((Bu c 0)||(Dr c 330000))||(Az (Aa z) (L_ (Ae c 7) (GI.toZ (3:UInt64)).toNat)))then
some 8
else
if(Dr (Ed c 7) 0)then(Af z (As (Aa z) 1)).bind λd=>(Ex (Fq (Ed c 7) 0)).bind λ_=>if(Az (Dj d (GI.toZ (Ed c 7)).toNat) 0)then
some 8
else
some 0
else
some 0
abbrev Bef:=Option UInt64
def Ado:Bef:=some G
def C8:=Ado
def C4(j6:UInt64->Option UInt64)(Qw:UInt64->Int->Option UInt64)(b f:Int)(h:LB)(k:Int)(g:UInt64)(a:Int):Bef:=if(Bu a f)then(Af h (L_ (Ae b a) (GI.toZ (3:UInt64)).toNat)).bind λm=>(Ex (Fq (Ed (Ae b a) 7) 0)).bind λ_=>(Ex (Fq (Gi (As f a) (As 8 (Ed (Ae b a) 7))) 0)).bind λ_=>(Ex (Fq a 0)).bind λ_=>Qw (gor g (Fi (Al (Ed (Dj m (GI.toZ (Ed (Ae b a) 7)).toNat) (As (Fi (1:UInt8) (GI.toZ (Gi (As f a) (As 8 (Ed (Ae b a) 7)))).toNat) 1)):UInt64) (GI.toZ a).toNat)) (Ae a (Gi (As f a) (As 8 (Ed (Ae b a) 7))))
else
j6 g
def ON:Nat->UInt64->Int->Option UInt64
|0,_,_=>none
|z+1,e,j=>C4 C8 (ON z) c d i C e j
def C0 b f h k:=ON b f h k Ap
def dO(j4:Int->Int->LB->Int->UInt64->Int->Option UInt64)(h:LB)(k b f:Int):Bef:=j4 b f h k 0 0
def iL:=dO C0
abbrev Dy:=Option (LB×Int×Int)
def Atz (o:Int)(p:LB):Dy:=some (p,o,0)
def rM:=Atz
abbrev Bd2:=Int->Int->LB->Dy
def Azk(Uu:Bd2)(a:Int)(g:LB)(b f h:Int)(u:LB):Dy:=Uu (Ae f 64) h u
def qB Uu:=Azk Uu
abbrev Bdj:=UInt64->Int->Int->LB->Dy
def Aa0 (yu:Bdj)(a f:Int)(g:LB)(b:Int)(m n:UInt64)(k h:Int)(w:LB):Dy:=(Ex (Fq (Gi k (As 8 (Ed h 7))) 0)).bind λ_=>yu (Dj n (GI.toZ (Gi k (As 8 (Ed h 7)))).toNat) (As k (Gi k (As 8 (Ed h 7)))) (Ae h (Gi k (As 8 (Ed h 7)))) w
def Amm yu:=Aa0 yu
def yW(j48:Bdj)(a f:Int)(g:LB)(b:Int)(m n:UInt64)(k h:Int)(v:LB):Dy:=(Af v (As (Aa v) 1)).bind λ_=>(Ex (Fq (Gi k (As 8 (Ed h 7))) 0)).bind λ_=>(Ex (Fq (Ed h 7) 0)).bind λ_=>(Af v (As (Aa v) 1)).bind λaa=>(Af v (As (Aa v) 1)).bind λ_=>Option.bind (Ml v (As (Aa v) 1) (gor aa (Fi (Al (Ed n (As (Fi (1:UInt64) (GI.toZ (Gi k (As 8 (Ed h 7)))).toNat) 1)):UInt8) (GI.toZ (Ed h 7)).toNat))) λw=>j48 n k h w
def sM yu a f g b m:=yW (Amm yu a f g b m) a f g b m
def rV(j47:Bdj)(j50:Bd2)(a:Int)(g:LB)(b f:Int)(m n:UInt64)(k h:Int)(u:LB):Dy:=if(Dr k 0)then
if(geq (Ed h 7) 0)then(Ax u ([(0:UInt8)]:LB)).bind λab=>j47 n k h ab
else
j47 n k h u
else
j50 f h u
def IC(Uu:Bd2)(a:Int)(g:LB)(b f:Int)(m:UInt64):Nat->UInt64->Int->Int->LB->Dy
|0,_,_,_,_=>none
|q+1,n,k,h,u=>rV (sM (IC Uu a g b f m q) a f g b m) (qB Uu a g b) a g b f m n k h u
def tV Uu a g b f m:=IC Uu a g b f m Ap
def tT(j44:Int->UInt64->UInt64->Int->Int->LB->Dy)(j52:Int->LB->Dy)(a:Int)(g:LB)(b f o:Int)(p:LB):Dy:=if(Bu f a)then(iL g b f (Gi 64 (As a f))).bind λm=>j44 f m m (Gi 64 (As a f)) o p
else
j52 o p
def HY:Nat->Int->Int->LB->Dy
|0,_,_,_=>none
|z+1,d,e,j=>tT (tV (HY z) c i C) rM c i C d e j
def Ag9 a g b:=HY a g b Ap
def C5(j27:Int->LB->Jz3 (LB->Dy))(g:LB)(b y a:Int):Dy:=(Jp g b).bind λac=>if(Az ac 0)then
some (([]:LB),0,8)
else
if(((Bu y 0)||(Dr y a))||(Dr a b))then
some (([]:LB),0,2)
else
j27 a g b y 0 ([]:LB)
def sT:=C5 Ag9
def Bac:Bb1:=if(!((geq (Gi (I4 c 0) 24) c)&&((geq (Gi (I4 d 0) 24) d)&&((geq (Gi G 68719476735) G)&&((geq (Gi l8 68719476735) l8)&&true)))))then
some 8
else
some 0
def lT:=Bac
abbrev Bdk:=Int->Int->UInt64->UInt64->Option Int
def QG(j4:Bdk)(a b:Int)(f g:UInt64):Bb1:=(
(
j4 a b f g))
def nC:=QG lT
def QT(j3:Bdk)(a b:Int)(f g:UInt64):Bb1:=(
(
j3 a b f g))
def YW:=QT nC
def FP:Bdd:=(Jp z c).bind λe=>if(Az e 0)then
some (0,8)
else
if(((Bu j 0)||(Dr j 64))||(Bu d 0))then
some (0,2)
else
if(Dr d (As c j))then
some (0,24)
else(iL z c d j).bind λi=>some (i,0)
def Lm:Bb1:=if(geq G 0)then
some 64
else(Af ([(0:UInt8),(1:UInt8),(56:UInt8),(2:UInt8),(57:UInt8),(49:UInt8),(28:UInt8),(3:UInt8),(61:UInt8),(58:UInt8),(42:UInt8),(50:UInt8),(38:UInt8),(29:UInt8),(17:UInt8),(4:UInt8),(62:UInt8),(47:UInt8),(59:UInt8),(36:UInt8),(45:UInt8),(43:UInt8),(51:UInt8),(22:UInt8),(53:UInt8),(39:UInt8),(33:UInt8),(30:UInt8),(24:UInt8),(18:UInt8),(12:UInt8),(5:UInt8),(63:UInt8),(55:UInt8),(48:UInt8),(27:UInt8),(60:UInt8),(41:UInt8),(37:UInt8),(16:UInt8),(46:UInt8),(35:UInt8),(44:UInt8),(21:UInt8),(52:UInt8),(32:UInt8),(23:UInt8),(11:UInt8),(54:UInt8),(26:UInt8),(40:UInt8),(15:UInt8),(34:UInt8),(20:UInt8),(31:UInt8),(10:UInt8),(25:UInt8),(14:UInt8),(19:UInt8),(9:UInt8),(13:UInt8),(8:UInt8),(7:UInt8),(6:UInt8)]:LB) (GI.toZ (Dj (Ch (Ed G (NH G)) 285870213051353865) (GI.toZ (58:UInt64)).toNat))).bind λz=>some (Al z:Int)
abbrev Gy:=Option (Int×Int×Int)
def Aiw:Gy:=some (0,0,24)
def Aiv:=Aiw
def Ago(j10:Gy):Gy:=j10
def Bae:=Ago Aiv
def Abb(j9:Gy)(f a:Int):Gy:=if(geq f 48)then
some (f,(Ae 0 (Ae a f)),0)
else
j9
def Aah:=Abb Bae
def Ai8(j8:Int->Int->Gy)(f b a:Int):Gy:=if(Bu f (Gi 48 (As b a)))then
some (f,(Ae (Ae (0:Int) (1:Int)) (Ae a f)),0)
else
j8 f a
def Ade:=Ai8 Aah
def Aax(j7:Jz3 Gy)(h:Int)(k:UInt64)(a:Int)(g:LB)(b:Int):Gy:=if(Az h 0)then
some (0,0,h)
else(Lm (SI k)).bind λf=>j7 f b a
def mF:=Aax Ade
def QY(j6:Int->UInt64->Int->LB->Int->Gy)(g:LB)(b a:Int):Gy:=(Jp g b).bind λm=>if(Az m 0)then
some (0,0,m)
else
if(Bu a 0)then
some (0,0,2)
else
if(Fq a b)then
some (0,0,24)
else(
(
(FP g b a (Gi 48 (As b a))).bind λ(k,h)=>j6 h k a g b))
def oH:=QY mF
def IQ:Bb3:=(Ex (Fq y5 0)).bind λ_=>some (Fq (Dj X (GI.toZ y5).toNat) 48)
abbrev gZ:=Option (UInt32×Int×Int)
def Abl (a b f:Int)(g:LB)(h k:Int):gZ:=(FP g h b k).bind λ(m,n)=>if(Az n 0)then
some (0,0,n)
else
if(Bu f 48)then(Ex (Fq a 0)).bind λ_=>some ((gor (Fi (Al f:UInt32) (GI.toZ a).toNat) (Al m:UInt32)),(Ae b k),0)
else(IQ (Al m:UInt32) a).bind λu=>if(!u)then
some (0,0,12)
else
some ((Al m:UInt32),(Ae b k),0)
def uG:=Abl
def Agr (j2:Jz3 (LB->Int->Int->gZ))(g:LB)(h v a:Int):gZ:=(Jp g h).bind λo=>if(Az o 0)then
some (0,0,o)
else
if((Bu a 0)||(Dr a 24))then
some (0,0,2)
else(oH g h v).bind λ(f,b,p)=>if(Az p 0)then
some (0,0,p)
else
if(geq f 48)then
j2 a b f g h 32
else
j2 a b f g h a
def yF:=Agr uG
def KY(a f:Int)(g h:UInt64)(b:UInt32):Option (Int×UInt32):=(Ex (Fq a 0)).bind λ_=>if(geq (Dj b (GI.toZ a).toNat) 0)then
some (0,b)
else(Ex (Fq a 0)).bind λ_=>some (1,(As b (Fi (1:UInt32) (GI.toZ a).toNat)))
abbrev Jd:=Option (UInt32×Int×Int×Int×UInt64×UInt64×Int)
def Bab:Jd:=some (X,y5,Bby,Bbz,(Ae Bbk (As (Al X:UInt64) (Dj Bbk (GI.toZ (4:UInt64)).toNat))),Bb0,0)
def Ads:=Bab
def At1 (j10:UInt32->Jz3 (UInt64->UInt64->Jd))(f:UInt32)(k m:Int)(b n:UInt64)(w:Int):Jd:=j10 f k w m b n
def Akr:=At1 Ads
def yQ(j9:UInt32->Int->Int->UInt64->UInt64->Int->Jd)(f:UInt32)(k a:Int)(b:UInt64)(m:Int)(n:UInt64):Jd:=if(Dr a 0)then(Ex (Fq a 0)).bind λ_=>if(Bu (Ae b (As (Al f:UInt64) (Dj b (GI.toZ (4:UInt64)).toNat))) (Fi (16:UInt64) (GI.toZ a).toNat))then
j9 f k m b n (As a 1)
else
if(Bu a 24)then(Ex (Fq a 0)).bind λ_=>if(Dr (Ae b (As (Al f:UInt64) (Dj b (GI.toZ (4:UInt64)).toNat))) (Fi (32:UInt64) (GI.toZ a).toNat))then
j9 f k m b n (Ae a 1)
else
j9 f k m b n a
else
j9 f k m b n a
else
if(Bu a 24)then(Ex (Fq a 0)).bind λ_=>if(Dr (Ae b (As (Al f:UInt64) (Dj b (GI.toZ (4:UInt64)).toNat))) (Fi (32:UInt64) (GI.toZ a).toNat))then
j9 f k m b n (Ae a 1)
else
j9 f k m b n a
else
j9 f k m b n a
def ZB:=yQ Akr
def rN(j8:UInt32->Int->Int->UInt64->Int->UInt64->Jd)(a h:Int)(b g:UInt64)(f:UInt32)(k:Int):Jd:=(KY a h b g f).bind λ(ad,o)=>if(geq ad 1)then
if(Dr h 0)then(Ex (Fq h 0)).bind λ_=>if(Bu (Ae g (As (Al o:UInt64) (Dj g (GI.toZ (4:UInt64)).toNat))) (Fi (16:UInt64) (GI.toZ h).toNat))then
j8 f k a b (As h 1) (Ae g (As (Al o:UInt64) (Dj g (GI.toZ (4:UInt64)).toNat)))
else
if(Bu h 24)then(Ex (Fq h 0)).bind λ_=>if(Dr (Ae g (As (Al o:UInt64) (Dj g (GI.toZ (4:UInt64)).toNat))) (Fi (32:UInt64) (GI.toZ h).toNat))then
j8 f k a b (Ae h 1) (Ae g (As (Al o:UInt64) (Dj g (GI.toZ (4:UInt64)).toNat)))
else
j8 f k a b h (Ae g (As (Al o:UInt64) (Dj g (GI.toZ (4:UInt64)).toNat)))
else
j8 f k a b h (Ae g (As (Al o:UInt64) (Dj g (GI.toZ (4:UInt64)).toNat)))
else
if(Bu h 24)then(Ex (Fq h 0)).bind λ_=>if(Dr (Ae g (As (Al o:UInt64) (Dj g (GI.toZ (4:UInt64)).toNat))) (Fi (32:UInt64) (GI.toZ h).toNat))then
j8 f k a b (Ae h 1) (Ae g (As (Al o:UInt64) (Dj g (GI.toZ (4:UInt64)).toNat)))
else
j8 f k a b h (Ae g (As (Al o:UInt64) (Dj g (GI.toZ (4:UInt64)).toNat)))
else
j8 f k a b h (Ae g (As (Al o:UInt64) (Dj g (GI.toZ (4:UInt64)).toNat)))
else
j8 f k a b h g
def rT:=rN ZB
def sE(j7:Int->Int->UInt64->UInt64->UInt32->Int->Jd)(p:Int)(u:LB)(v a h:Int)(b g:UInt64):Jd:=(FP u v p 1).bind λ(ae,aa)=>if(Az aa 0)then
some (0,0,0,0,0,0,aa)
else
if(geq ae 0)then(FP u v (Ae p 1) a).bind λ(af,ab)=>if(Az ab 0)then
some (0,0,0,0,0,0,ab)
else
j7 a h b g (Al af:UInt32) (Ae (Ae p 1) a)
else(yF u v (Ae p 1) h).bind λ(y,ag,ac)=>if(Az ac 0)then
some (0,0,0,0,0,0,ac)
else(Ex (Fq a 0)).bind λ_=>if(Bu (Ae y (Fi (1:UInt32) (GI.toZ a).toNat)) y)then
some (0,0,0,0,0,0,12)
else
j7 a h b g (Ae y (Fi (1:UInt32) (GI.toZ a).toNat)) ag
def yV:=sE rT
def uZ(j6:Int->LB->Jz3 (UInt64->UInt64->Jd))(u:LB)(v p a h:Int)(b g:UInt64):Jd:=(Jp u v).bind λah=>if(Az ah 0)then
some (0,0,0,0,0,0,8)
else(YW a h b g).bind λai=>if(Az ai 0)then
some (0,0,0,0,0,0,8)
else
j6 p u v a h b g
def IX:=uZ yV
abbrev Bv:=Option (LU×Int×Int)
def Arn:Bv:=some (l9,c,0)
def LO:=Arn
abbrev Bb5:=List (Int×Int×UInt64×UInt64×Unit)
def As6(Fj:Int->Int-> (List (Int×Int×UInt64×UInt64×Unit))->LU->Bv)(a f:Int)(g:LB)(b k v:Int)(w:UInt32)(h:Int)(ah:Bb5)(n:LU):Bv:=(Ax n ([w]:LU)).bind λak=>Fj (Ae k v) (Ae h 1) ah ak
def Arb Fj:=As6 Fj
def Arf(j22:Int->Int->UInt32->Int-> (List (Int×Int×UInt64×UInt64×Unit))->LU->Bv)(a f:Int)(g:LB)(b k h y:Int)(w:UInt32)(v:Int)(m:Bb5)(n:LU)(aa ab:Int)(ac ad:UInt64):Bv:=if(Az y 0)then
some (([]:LU),0,y)
else(Ex (Az a 0)).bind λ_=>(Af m (Jl h a)).bind λ_=>(Ml m (Jl h a) (aa,ab,ac,ad,())).bind λah=>j22 k v w h ah n
def KM Fj a f g b:=Arf (Arb Fj a f g b) a f g b
def Xg(j21:Jz3 (UInt32->Int-> (List (Int×Int×UInt64×UInt64×Unit))->LU->Int->Int->UInt64->UInt64->Bv))(j24:Int->LU->Bv)(a f:Int)(g:LB)(b k h:Int)(m:Bb5)(n:LU):Bv:=if(Bu h (Ch f a))then(sT g b k (Gi (Ae k 81) b)).bind λ(ag,ae,af)=>if(Az af 0)then
some (([]:LU),0,af)
else(Ex (Az a 0)).bind λ_=>(Af m (Jl h a)).bind λ_=>(
(
(Af m (Jl h a)).bind λo=>(
(IX ag ae 0 o.1 o.2.1 o.2.2.1 o.2.2.2.1).bind λ(w,v,aa,ab,ac,ad,y)=>j21 k h y w v m n aa ab ac ad)))
else
j24 k n
def Oo:Nat->Int->Int-> (List (Int×Int×UInt64×UInt64×Unit))->LU->Bv
|0,_,_,_,_=>none
|z+1,e,j,A,B=>Xg (KM (Oo z) c d i C) LO c d i C e j A B
def MT a f g b:=Oo a f g b Ap
def JG(j16:Int->Int->LB->Jz3 ( (List (Int×Int×UInt64×UInt64×Unit))->LU->Bv))(a f:Int)(g:LB)(b:Int)(p:Bb5):Bv:=j16 a f g b 0 0 p ([]:LU)
def Ar8:=JG MT
def JP(j15:Int->Int->LB->Int-> (List (Int×Int×UInt64×UInt64×Unit))->Bv)(SS:Int-> (List (Int×Int×UInt64×UInt64×Unit))->Bv)(a f:Int)(g:LB)(b u:Int)(p:Bb5):Bv:=if(Bu u 6)then(ZO).bind λ(al,ae,af,am)=>(Af p u).bind λ_=>(Ml p u (al,ae,af,am,())).bind λan=>SS (Ae u 1) an
else
j15 a f g b p
def Pc:Nat->Int-> (List (Int×Int×UInt64×UInt64×Unit))->Bv
|0,_,_=>none
|z+1,e,j=>JP Ar8 (Pc z) c d i C e j
def MX a f g b:=Pc a f g b Ap
def AQ(j13:Int->Int->LB->Int->Int-> (List (Int×Int×UInt64×UInt64×Unit))->Bv)(a f:Int)(g:LB)(b:Int):Bv:=j13 a f g b 0 (List.replicate 6 ((0:Int),(0:Int),(0:UInt64),(0:UInt64),()))
def AS:=AQ MX
abbrev nT:=Option (Int×LX×LX×Int)
def Adm:nT:=if E then
some (10,B,(List.replicate 16 (0:Int32)),0)
else
if(geq c 16)then
some (9,B,(List.replicate 16 (0:Int32)),0)
else
some (0,(List.replicate 16 (0:Int32)),(List.replicate 16 (0:Int32)),2)
def zE:=Adm
def zl(j2:Int->LX->Bool->nT)(a:Int)(b:LX):nT:=if(geq a 8)then
j2 a b (geq a 8)
else
j2 a b (geq a 24)
def tL:=zl zE
def kQ:Option (Int×Int32×Int×LX×LX×Int):=(tL c B).bind λ(z,d,e,i)=>if(Az i 0)then
some (0,0,0,(List.replicate 16 (0:Int32)),(List.replicate 16 (0:Int32)),i)
else
some (c,0,z,d,e,0)
abbrev Beg:=Option Int32
def Ym:Beg:=some (pF (Al (Dj X (GI.toZ (1:UInt64)).toNat):Int32) (NH (Al (Ed X 1):Int32)))
def Yb(a:Int)(k:Int32)(b:Int)(f m:LX):Bb1:=(tL a f).bind λ(g,n,o,h)=>if((Az h 0)||(Az g b))then
some 8
else
some 0
def fN:Bcj:=if(geq c 8)then
some (4,0)
else
if(geq c 16)then
if(geq c 16)then
some (5,0)
else
some (0,2)
else
if(geq c 24)then
some (5,0)
else
some (0,2)
def dI:Beg:=(Ex (Fq c 0)).bind λ_=>(Ex (Fq c 0)).bind λ_=>some (Al (L_ (As (Fi (Al P:Int) (GI.toZ c).toNat) (Al P:Int)) (GI.toZ c).toNat):Int32)
def Yd:Option (Int32×Int):=(fN c).bind λ(z,d)=>if(Az d 0)then
some (0,d)
else(dI z P).bind λe=>some (e,0)
def DO(a:Int)(b f:LX):Bb1:=if((Az a 9)&&(Az a 10))then
some 8
else
some 0
abbrev Pn:=Option (Int32×Int)
def Ahb(h:Int32)(a:Int)(b f:LX):Pn:=(Ex (Fq a 0)).bind λ_=>some ((Dj h (GI.toZ a).toNat),0)
def mG:=Ahb
def mM(j6:Int32->Int->LX->LX->Pn)(Qw:Int32->Int->Pn)(b:LX)(a:Int)(f:LX)(h:Int32)(g:Int):Pn:=if(Bu g 16)then(Af b g).bind λm=>(Af f g).bind λ_=>(Af f g).bind λn=>Qw (Ae h (Ch m n)) (Ae g 1)
else
j6 h a b f
def EZ:Nat->Int32->Int->Pn
|0,_,_=>none
|z+1,c,d=>mM mG (EZ z) B C U c d
def Aa7 b a f:=EZ b a f Ap
def lZ(j4:LX->Int->LX->Int32->Int->Pn)(a:Int)(b f:LX):Pn:=(DO a b f).bind λk=>if(Az k 0)then
some (0,k)
else(Ex (Fq (As a 1) 0)).bind λ_=>j4 b a f (Fi (1:Int32) (GI.toZ (As a 1)).toNat) 0
def YJ:=lZ Aa7
def jW:Beg:=if(geq c 0)then
some 4
else
if(Bu c 4)then
some 2
else
some 1
abbrev Om:=Option (Int×LX×LX×Int)
def Akp:Om:=some (c,B,U,0)
def mQ:=Akp
def mN(j6:Int->LX->LX->Om)(Qw:Int->LX->Om)(h:Int32)(f:LX)(g a:Int)(b:LX):Om:=if(Bu a 16)then(Af f a).bind λm=>if(geq m 0)then
Qw (Ae a 1) b
else
if((Bu m 0)==(Bu h 0))then(Af b a).bind λ_=>(Af b a).bind λo=>(jW a).bind λp=>(Af b a).bind λ_=>(Ml b a (Ae o p)).bind λu=>Qw (Ae a 1) u
else(Af b a).bind λ_=>(Af b a).bind λv=>(jW a).bind λw=>(Af b a).bind λ_=>(Ml b a (As v w)).bind λy=>Qw (Ae a 1) y
else
j6 g b f
def EP:Nat->Int->LX->Om
|0,_,_=>none
|z+1,c,d=>mN mQ (EP z) P y9 Baf c d
def Abo h f g:=EP h f g Ap
def mV(j4:Int32->LX->Int->Int->LX->Om)(g:Int)(k f:LX)(h:Int32):Om:=(DO g k f).bind λn=>if(Az n 0)then
some (0,(List.replicate 16 (0:Int32)),(List.replicate 16 (0:Int32)),n)
else
if(geq h 0)then
some (g,k,f,0)
else
j4 h f g 0 k
def pV:=mV Abo
abbrev iY:=Option (Int×LX×LX×Int)
def Ao5:iY:=(Af (Ou y7 1 ((16:Int)-(1:Int)) (Eh y7 0 ((16:Int)-(0:Int)))) 0).bind λ_=>(Ml (Ou y7 1 ((16:Int)-(1:Int)) (Eh y7 0 ((16:Int)-(0:Int)))) 0 P).bind λz=>some (Bap,y9,z,0)
def tG:=Ao5
def YH(j2:Int32->Int->LX->LX->iY)(b:Int)(f a:LX)(g:Int32):iY:=(DO b f a).bind λh=>if(Az h 0)then
some (0,(List.replicate 16 (0:Int32)),(List.replicate 16 (0:Int32)),h)
else(
(kB 16 1 16).bind λ_=>(kB 16 0 16).bind λ_=>j2 g b f a)
def zF:=YH tG
def XR:Option (Int×LX×LX):=(pV c B U Bah).bind λ(z,d,e,i)=>(zF z d e P).bind λ(j,A,C,D)=>some (j,A,C)
abbrev Bdl:=Option (Int32×Int×LX×LX×Int)
def uQ:Bdl:=(YJ c B U).bind λ(z,d)=>if(Az d 0)then
some (0,0,(List.replicate 16 (0:Int32)),(List.replicate 16 (0:Int32)),d)
else(XR c B U (Ae P z) P).bind λ(e,i,j)=>some ((Ae P z),e,i,j,0)
abbrev Bdb:=Option (Int32×Int×Int32×Int×LX×LX×Int)
def Lh:Bdb:=(Yb c P Bap y9 y7).bind λz=>if(Az z 0)then
some (0,0,0,0,(List.replicate 16 (0:Int32)),(List.replicate 16 (0:Int32)),z)
else(Yd c P).bind λ(d,e)=>(uQ Bap y9 y7 Bah).bind λ(i,j,A,B,C)=>(
some ((Ae i d),c,(Ae i d),j,A,B,C))
def kH:Bb1:=if((Bu c 1)||(Dr c 6))then
some 2
else
if(Dr (Aa B) 4000)then
some 4
else(Ex (Az c 0)).bind λ_=>if(Az (Jl (Aa B) c) 0)then
some 2
else
some 0
def Ci:Bd5:=(
(Ax ([]:LX) B).bind λz=>some z)
abbrev Er:=Option (LX×Int)
def Axt:Er:=some (B,0)
def rO:=Axt
abbrev Bdt:=Int->LX->Er
def Ael (Oh:Bdt)(b a:Int)(h:LX):Er:=Oh (Ae a b) h
def sW Oh:=Ael Oh
def qW(j20:Bdt)(Awv:Bdt)(b a g:Int)(h:LX):Er:=if(Fq g 0)then(Ex (decide (0<= (Ae g 1)/\ (Ae g 1)<((Ae a b)-a)))).bind λ_=>(Ex (decide (0<=g/\g<((Ae a b)-a)))).bind λ_=>(Af h (a+(Ae g 1))).bind λn=>(Af h (a+g)).bind λo=>(Ex (decide (0<=g/\g<((Ae a b)-a)))).bind λ_=>(Ml h (a+g) (As n o)).bind λp=>Awv (As g 1) p
else
j20 a h
def IP(Oh:Bdt)(b a:Int):Nat->Int->LX->Er
|0,_,_=>none
|q+1,g,h=>qW (sW Oh b) (IP Oh b a q) b a g h
def rL Oh b a:=IP Oh b a Ap
def pZ(j18:Int->Int->LX->Er)(b a:Int)(u:LX):Er:=j18 a (As (As ((Ae a b)-a) 1) 1) u
def Amx Oh b:=pZ (rL Oh b) b
def rC(j17:Bdt)(j22:LX->Er)(b a:Int)(f:LX):Er:=if(Bu a (Aa f))then(kB (Aa f) a (Ae a b)).bind λ_=>if(Dr (As ((Ae a b)-a) 1) 0)then(Ex (decide (0<= (As ((Ae a b)-a) 1)/\ (As ((Ae a b)-a) 1)<((Ae a b)-a)))).bind λ_=>Option.bind (Ex (decide (0<= (As (As ((Ae a b)-a) 1) 1)/\ (As (As ((Ae a b)-a) 1) 1)<((Ae a b)-a)))) λ_=>(Af f (a+(As ((Ae a b)-a) 1))).bind λv=>(Af f (a+(As (As ((Ae a b)-a) 1) 1))).bind λw=>(Ex (decide (0<= (As ((Ae a b)-a) 1)/\ (As ((Ae a b)-a) 1)<((Ae a b)-a)))).bind λ_=>(Ml f (a+(As ((Ae a b)-a) 1)) (Ae v (Ey w 2))).bind λy=>j17 a y
else
j17 a f
else
j22 f
def IK:Nat->Int->LX->Er
|0,_,_=>none
|z+1,d,e=>rC (Amx (IK z) c) rO c d e
def Alo b:=IK b Ap
def D6(j12:Int->Int->LX->Er)(b:Int)(k:LX):Er:=(kH b k).bind λm=>if(Az m 0)then
some (([]:LX),m)
else(Ci k).bind λaa=>j12 b 0 aa
def Z0:=D6 Alo
def Auj:Bb1:=some 0
def gY:=Auj
abbrev Bcu:=Int->Option Int
def dQ(j6:Bb1)(Qw:Bcu)(b f:Int32)(a:LX)(g:Int):Bb1:=if(Bu g (Aa a))then(Af a g).bind λh=>if((Bu h b)||(Dr h f))then
some 16
else
Qw (Ae g 1)
else
j6
def Zu:Nat->Int->Option Int
|0,_=>none
|z+1,c=>dQ gY (Zu z) P Bah Bbc c
def Ae3 b f a:=Zu b f a Ap
def gT(j4:Int32->Int32->LX->Int->Option Int)(m:Int)(a:LX):Bb1:=(FV m).bind λ(b,f,k)=>if(Az k 0)then
some k
else
if(Dr (Aa a) 4000)then
some 4
else
j4 b f a 0
def Ry:=gT Ae3
abbrev Cb:=Option (LX×Int)
def Aoa:Cb:=(Z0 c B).bind λ(z,e)=>if(Az e 0)then
some (([]:LX),e)
else(Ry d z).bind λi=>if(Az i 0)then
some (([]:LX),i)
else
some (z,0)
def HG:=Aoa
abbrev Bcc:=List (Int×Int32×(Int×LX×LX×Unit)×Unit)
def Aq6(SS:Int-> (List (Int×Int32×(Int×LX×LX×Unit)×Unit))->LX->Cb)(a:Int)(f:LU)(b g:Int)(y:Int32)(v:Int)(h:Bcc)(k:LX)(aa:Int)(w:Int32)(ab:Int)(ac ad:LX):Cb:=if(Az v 0)then
some (([]:LX),v)
else(Ml h (Jl g a) (aa,w,(ab,ac,ad,()),())).bind λai=>(Ax k ([y]:LX)).bind λaj=>SS (Ae g 1) ai aj
def HM SS:=Aq6 SS
def Ul(j16:Int->Int32->Int-> (List (Int×Int32×(Int×LX×LX×Unit)×Unit))->LX->Int->Int32->Int->LX->LX->Cb)(j18:Int->Int->LX->Cb)(f:LU)(a b g:Int)(h:Bcc)(k:LX):Cb:=if(Bu g (Aa f))then(Af f g).bind λag=>(Ex (Az a 0)).bind λ_=>(Af h (Jl g a)).bind λ_=>(
(Af h (Jl g a)).bind λm=>(
(Ym ag).bind λae=>(
(Lh m.1 m.2.1 m.2.2.1.1 m.2.2.1.2.1 m.2.2.1.2.2.1 ae).bind λ(y,aa,w,ab,ac,ad,v)=>j16 g y v h k aa w ab ac ad)))
else
j18 a b k
def Nb:Nat->Int-> (List (Int×Int32×(Int×LX×LX×Unit)×Unit))->LX->Cb
|0,_,_,_=>none
|z+1,c,d,e=>Ul (HM (Nb z) Baq l9 Bas) HG l9 Baq Bas c d e
def HV f a b:=Nb f a b Ap
def HO(j13:LU->Jz3 ( (List (Int×Int32×(Int×LX×LX×Unit)×Unit))->LX->Cb))(f:LU)(a b:Int)(n:Bcc):Cb:=j13 f a b 0 n ([]:LX)
def Aqw:=HO HV
def HS(j12:LU->Int->Int-> (List (Int×Int32×(Int×LX×LX×Unit)×Unit))->Cb)(SU:Int-> (List (Int×Int32×(Int×LX×LX×Unit)×Unit))->Cb)(f:LU)(a b:Int)(o:LX)(p:Int)(n:Bcc):Cb:=if(Bu p 6)then(kQ b o).bind λ(ak,af,ae,al,am,w)=>(Af n p).bind λ_=>(Ml n p (ak,af,(ae,al,am,()),())).bind λan=>SU (Ae p 1) an
else
j12 f a b n
def Nd:Nat->Int-> (List (Int×Int32×(Int×LX×LX×Unit)×Unit))->Cb
|0,_,_=>none
|z+1,c,d=>HS Aqw (Nd z) l9 Baq Bas Bbc c d
def HN f a b o:=Nd f a b o Ap
def Xe(j10:LU->Int->Int->LX->Int-> (List (Int×Int32×(Int×LX×LX×Unit)×Unit))->Cb)(a b:Int)(o:LX)(f:LU):Cb:=j10 f a b o 0 (List.replicate 6 ((0:Int),(0:Int32),((0:Int),(List.replicate 16 (0:Int32)),(List.replicate 16 (0:Int32)),()),()))
def Wj:=Xe HN
def Kv:Bd1:=(Mt c d).bind λz=>if(Az z 0)then
some (([]:LX),z)
else
if(Bu C 1)then
some (([]:LX),2)
else(Ex (Az c 0)).bind λ_=>if(Dr C (Ey 4000 c))then
some (([]:LX),2)
else(KV R).bind λ(e,i)=>if(Az i 0)then
some (([]:LX),i)
else(u? e).bind λ(j,A,D)=>if(Az D 0)then
some (([]:LX),D)
else(AS c C j A).bind λ(E,F,G)=>if(Az G 0)then
some (([]:LX),G)
else
if(Fq (As A F) 8)then
some (([]:LX),12)
else(FP j A F (As A F)).bind λ(I,J)=>if((Az J 0)||(Az I 0))then
some (([]:LX),12)
else(Wj c d B E).bind λ(L,M)=>some (L,M)
abbrev pK:=Option (Int×Int)
def zo:pK:=(Bg z (As (Aa z) 32) (Aa z)).bind λc=>(TE c 0).bind λ(d,e,i)=>if i then
if(Bu (As (Aa z) 32) d)then
some (0,24)
else
some ((Ae d 32),0)
else(Bg z (As (Aa z) 32) (Aa z)).bind λj=>(TE j 2147483648).bind λ(A,B,C)=>if(!C)then
some (0,12)
else
if(Bu (Aa z) (Ae A 64))then
some (0,24)
else(Bg z (As (Aa z) (Ae A 64)) (Ae (As (Aa z) (Ae A 64)) 32)).bind λD=>(jY A B 2684354560).bind λE=>(Mk D E).bind λF=>if(!F)then
some (0,12)
else
some ((Ae A 64),0)
def zQ:=zo
def yZ(j2:LB->pK)(a:LB):pK:=if(Bu (As (Aa a) 32) 0)then
some (0,6)
else(Bg a (As (Aa a) 32) (Aa a)).bind λv=>(Mc v ([(65:UInt8),(80:UInt8),(69:UInt8),(84:UInt8),(65:UInt8),(71:UInt8),(69:UInt8),(88:UInt8)]:LB)).bind λw=>if(!w)then
some (0,6)
else
j2 a
def X5:=yZ zQ
abbrev Ep:=Option (Int×Int)
def Ayy:Ep:=some (c,0)
def VZ:=Ayy
abbrev Bek:=Int->LB->Ep
def Azl(bk8:Bek)(a:Int)(g:LB):Ep:=bk8 (Ae a 1) g
def Azf bk8:=Azl bk8
def Azc(j12:Bek)(a f:Int)(b:LB):Ep:=if(geq f 0)then
some (0,38)
else(Bg b 0 (As (Aa b) f)).bind λg=>j12 a g
def TM bk8:=Azc (Azf bk8)
def cJ(j11:Int->Int->LB->Ep)(j14:Int->Ep)(a:Int)(b:LB):Ep:=if(Dr (Aa b) 0)then(X5 b).bind λ(f,k)=>j11 a f b
else
j14 a
def We:Nat->Int->LB->Ep
|0,_,_=>none
|q+1,a,b=>cJ (TM (We q)) VZ a b
def Ac4:=We Ap
def bY(j8:Bek)(h:LB):Ep:=if(Dr (Aa h) 4000)then
some (0,38)
else
j8 0 h
def Tn:=bY Ac4
abbrev Br:=Option (Int×Int×Int×LX×Int)
def Adw:Br:=(Bg z c (Aa z)).bind λe=>(Tn e).bind λ(i,A)=>if(Az A 0)then
some (0,0,0,([]:LX),38)
else
some (d,j,D,B,0)
def fH:=Adw
def Aiq(IW:Int->Int->LX->Br)(a:LB)(w:LI)(m f g h o p n b ab ae:Int)(ac:LX)(k:LI)(y aj ak aa:Int)(an ad:LX):Br:=if(Az ak 0)then
some (0,0,0,([]:LX),ak)
else(Ax ad an).bind λau=>IW (Ae y aj) (Ae aa 1) au
def eZ IW:=Aiq IW
def gV(j24:Jz4 (LX->LX->Br))(j26:LB->Jz4 (LX->Br))(a:LB)(w:LI)(m f g h o p n b ab ae:Int)(ac:LX)(k:LI)(y aa:Int)(ad:LX):Br:=if(Bu aa (Aa w))then(Af w aa).bind λ_=>(Af w aa).bind λaj=>if(Bu (Aa a) (Ae y aj))then
some (0,0,0,([]:LX),24)
else(Af k aa).bind λ_=>(Bg a y (Ae y aj)).bind λav=>(Af k aa).bind λaw=>(Kv f g ac aw av).bind λ(an,ak)=>j24 y aj ak aa an ad
else
j26 a y f g h ad
def AF:Nat->Int->Int->LX->Br
|0,_,_,_=>none
|e+1,i,C,E=>gV (eZ (AF e) z A c d j D F O Bag Bav Baw Bax B Bay) fH z A c d j D F O Bag Bav Baw Bax B Bay i C E
def fE a w m f g h o p n b ab ae ac k:=AF a w m f g h o p n b ab ae ac k Ap
def BA(j21:LB->LI->Jz10 (LX->LI->Int->Int->LX->Br))(a u:LB)(m f g h o p n b:Int)(k:LI)(ao ab ae:Int)(w:LI):Br:=if(Az ao 0)then
some (0,0,0,([]:LX),ao)
else(Oe u).bind λ(ac,bc)=>j21 a w m f g h o p n b ab ae ac k ab 0 ([]:LX)
def AG:=BA fE
abbrev Bch:=LB->LB->Jz8 (LI->Int->Int->Int->LI->Br)
def JQ(j20:Bch)(a u:LB)(v:LI)(m f g h o p n b af:Int)(k:LI):Br:=j20 a u m f g h o p n b k 0 (Ae (Ae b (Ch 4 (Aa v))) 4) af v
def eT:=JQ AG
def fG(j19:LB->LB->LI->Jz9 (LI->Br))(lS:Int->Int->Br)(v:LI)(a u:LB)(m f g h o p n b:Int)(k:LI)(ag af:Int):Br:=if(Bu ag (Aa v))then(Af v ag).bind λ_=>(Af v ag).bind λax=>lS (Ae ag 1) (Ae af ax)
else
j19 a u v m f g h o p n b af k
def Zk:Nat->Int->Int->Br
|0,_,_=>none
|z+1,c,d=>fG eT (Zk z) A i p8 C Z l6 Baj Bak Bal I o8 Ba7 c d
def Adu v a u m f g h o p n b k:=Zk v a u m f g h o p n b k Ap
def dV(j20:Bch)(j17:LI->LB->LB->Jz8 (LI->Int->Int->Br))(al:Int)(a u:LB)(m f g h o p n b ah ai:Int)(v k:LI):Br:=if(Az al 0)then
j20 a u m f g h o p n b k al ah ai ([]:LI)
else
j17 v a u m f g h o p n b k 0 (Ae (Ae b (Ch 4 (Aa v))) 4)
def Adl:=dV AG Adu
def gC(j20:Bch)(j16:Int->LB->LB->Jz10 (LI->LI->Br))(a u:LB)(m f g h o p n b ah ai:Int)(k:LI):Br:=if(Bu (Aa a) b)then
j20 a u m f g h o p n b k 24 ah ai ([]:LI)
else(Bg a b (Aa a)).bind λay=>(Xb ay (Aa k)).bind λ(v,al)=>j16 al a u m f g h o p n b ah ai v k
def Aqz:=gC AG Adl
def gG(j15:LB->LB->Jz10 (LI->Br))(a u:LB)(m f g h o p n b ah ai:Int)(k:LI)(am:Int):Br:=if(Az am 0)then
some (0,0,0,([]:LX),am)
else
j15 a u m f g h o p n b ah ai k
def JV:=gG Aqz
def lX(j14:LB->LB->Jz10 (LI->Int->Br))(a u:LB):Br:=if(Dr (Aa u) 64)then
some (0,0,0,([]:LX),2)
else(NN a).bind λ(m,f,g,h,o,p,n,b,ah,ai,k,ap)=>if(Az ap 0)then
some (0,0,0,([]:LX),ap)
else
if((u==([]:LB)) !=(geq m 1))then
j14 a u m f g h o p n b ah ai k 26
else
if(geq m 1)then
j14 a u m f g h o p n b ah ai k 0
else
if(Bu (Aa a) b)then
j14 a u m f g h o p n b ah ai k 24
else(Bg a n b).bind λaz=>(Tx az u).bind λ(ba,bd)=>if(!ba)then
j14 a u m f g h o p n b ah ai k 26
else
j14 a u m f g h o p n b ah ai k 0
def YS:=lX JV
def PG:Bb1:=(YS z e).bind λ(c,d,i,j,A)=>some A
def ZQ(a n:LB)(b:Int):Option UInt8:=if(Dr (Aa a) 100000)then
some 0
else(Gh a).bind λ(f,g)=>if(Az g 0)then
some 1
else(Bg a f (Aa a)).bind λh=>(Kj h).bind λ(k,o,p,u,v,m)=>if(Az m 0)then
some 2
else
if(geq b 26)then
if(geq b 26)then
some 3
else
some 4
else
if((geq k 2)&&(Bu (As (Aa a) f) 30))then
some 3
else
some 4
abbrev Fz:=Option (LI×Int)
def Atc:Fz:=some (A,0)
def NV:=Atc
def UL(bk6:Int->Int->LI->Fz)(a:LI)(b g h:Int)(k:LI):Fz:=bk6 (Ae b 1) (Ae g h) k
def DQ bk6:=UL bk6
def TH(j8:Jz3 (LI->Fz))(j10:LI->Fz)(a:LI)(b g:Int)(f:LI):Fz:=if(Bu b (Aa a))then(Af a b).bind λh=>(Ax f ([(Ae g h)]:LI)).bind λk=>j8 b g h k
else
j10 f
def Uc:Nat->Int->Int->LI->Fz
|0,_,_,_=>none
|z+1,c,d,e=>TH (DQ (Uc z) A) NV A c d e
def Azd a:=Uc a Ap
def UE(j6:LI->Int->Int->LI->Fz)(a:LI):Fz:=(Ta a).bind λm=>if(Az m 0)then
some (([]:LI),m)
else
j6 a 0 0 ([(0:Int)]:LI)
def FE:=UE Azd
abbrev Cw:=Option (LB×Int)
def Ab2:Cw:=some (z,0)
def cN:=Ab2
abbrev Bd6:=Int->LB->Cw
def Acf(Fj:Bd6)(b:Int)(a:LX)(f:Int)(h:LB):Cw:=Fj (Ae f 1) h
def bO Fj:=Acf Fj
def aW(j28:Bd6)(Aww:Bd6)(b:Int)(a:LX)(k:Int32)(f m:Int)(h:LB):Cw:=if(Bu m (Ey b 8))then(Ex (Fq (Ch 8 m) 0)).bind λ_=>(Ax h ([(Al (Dj k (GI.toZ (Ch 8 m)).toNat):UInt8)]:LB)).bind λp=>Aww (Ae m 1) p
else
j28 f h
def Wo(Fj:Bd6)(b:Int)(a:LX)(k:Int32)(f:Int):Nat->Int->LB->Cw
|0,_,_=>none
|q+1,m,h=>aW (bO Fj b a) (Wo Fj b a k f q) b a k f m h
def cS Fj b a k f:=Wo Fj b a k f Ap
def ZT(j26:Int32->Int->Int->LB->Cw)(b:Int)(a:LX)(f:Int)(g:LB)(k:Int32):Cw:=j26 k f 0 g
def Ace Fj b a:=ZT (cS Fj b a) b a
def cD(j25:Int->LB->Int32->Cw)(j30:LB->Cw)(b:Int)(a:LX)(f:Int)(g:LB):Cw:=if(Bu f (Aa a))then(Af a f).bind λn=>if(geq b 8)then
j25 f g (Ae n 128)
else
j25 f g n
else
j30 g
def Wp:Nat->Int->LB->Cw
|0,_,_=>none
|z+1,d,e=>cD (Ace (Wp z) c B) cN c B d e
def Ac5 b a:=Wp b a Ap
def gW(j16:Int->LX->Int->LB->Cw)(b:Int)(a:LX):Cw:=(Ry b a).bind λo=>if(Az o 0)then
some (([]:LB),o)
else
j16 b a 0 ([]:LB)
def Kn:=gW Ac5
abbrev Dz:=Option (LB×Int)
def Aar:Dz:=if(Az d 0)then
some (([]:LB),d)
else
if((Bu c 0)||(Fq c 0))then
some (([]:LB),2)
else
none
def bR:=Aar
def Axz:Dz:=some (i,c)
def SM:=Axz
def Acx(j10:Int->LB->Dz)(w a m g:Int)(aa:LX)(n o p h:Int)(k:LB)(u:LX)(v b f:LI):Dz:=if(Az w 0)then
j10 w ([]:LB)
else(Kn g aa).bind λ(ak,al)=>j10 al ak
def aL:=Acx SM
def Aco(j10:Int->LB->Dz)(j9:Jz4 (LX->Int->Int->Int->Int->LB->LX->LI->LI->LI->Dz))(a h ab y:Int)(k:LB)(m g:Int)(u:LX)(n o p:Int)(f v b:LI):Dz:=if(Dr (Ae h y) (Aa k))then
j10 24 ([]:LB)
else(Af f a).bind λ_=>(Bg k (Ae h ab) (Ae h y)).bind λam=>(Af f a).bind λan=>(Kv m g u an am).bind λ(aa,w)=>j9 w a m g aa n o p h k u v b f
def Acg:=Aco SM aL
def Aaz(j8:Jz4 (LB->Int->Int->LX->Int->Int->Int->LI->LI->LI->Dz))(a:Int)(f:LI)(n m g o p h:Int)(k:LB)(u:LX)(v b:LI):Dz:=if(Az (0:Int) (0:Int))then
some (([]:LB),0)
else
if((Bu a 0)||(Fq a (Aa f)))then
some (([]:LB),2)
else(Af b a).bind λ_=>(Af b (Ae a 1)).bind λ_=>(Af b a).bind λab=>(Af b (Ae a 1)).bind λy=>j8 a h ab y k m g u n o p f v b
def aI:=Aaz Acg
def Abt(j6:Int->Int->Dz)(j7:Int->LI->Jz6 (LB->LX->LI->LI->Dz))(k ad:LB)(a:Int):Dz:=(Gm k ad).bind λ(n,m,g,o,p,h,v,ae)=>if(Az ae 0)then
j6 a ae
else(Bn n m g o p).bind λ(f,af)=>if(Az af 0)then
j6 a af
else(FE v).bind λ(b,ag)=>if(Az ag 0)then
j6 a ag
else(Oe ad).bind λ(u,ah)=>if(Az ah 0)then
j6 a ah
else(Af b (Aa f)).bind λ_=>(Af b (Aa f)).bind λao=>j7 a f n m g o p h k u v b
def Pg:=Abt bR aI
abbrev Mq:=Option (Int×Int)
def Atx(n f a b g h:Int):Mq:=some ((Ey (Ch (Ch n a) b) 8),0)
def gM:=Atx
def gJ(j6:Jz6 Mq)(Qw:Int->Int->Mq)(m f a b g h:Int)(k:LI)(n o:Int):Mq:=if(Bu o m)then(Af k o).bind λ_=>(Af k o).bind λp=>Qw (Ae n p) (Ae o 1)
else
j6 n f a b g h
def AZ:Nat->Int->Int->Mq
|0,_,_=>none
|z+1,e,i=>gJ gM (AZ z) c d j D F O J e i
def Adq m f a b g h k:=AZ m f a b g h k Ap
def gK(j4:Jz6 (LI->Int->Int->Mq))(f a b g h m:Int):Mq:=(Bn f a b g h).bind λ(k,u)=>if((Az u 0)||(Dr m (Aa k)))then
some (0,8)
else
j4 m f a b g h k 0 0
def PJ:=gK Adq
abbrev It:=Option (Int×UInt8×Int×Int×Int)
def Atr(b f g h k m o:Int)(a:LI)(y:Int)(aa:UInt8)(ab:Int):It:=(PJ f g h k m y).bind λ(ac,ad)=>some (b,aa,ab,ac,ad)
def LD:=Atr
def eN(j8:Jz7 (LI->Int->UInt8->Int->It))(bk6:Int->It)(p n:LB)(a:LI)(b:Int)(u:UInt8)(f g h k m o v:Int):It:=if(Bu v (Aa a))then
if(geq b 0)then
j8 b f g h k m o a (Aa a) u 0
else(Pg p n v).bind λ(ag,ae)=>if(Az ae 0)then
j8 b f g h k m o a v 5 v
else
bk6 (Ae v 1)
else
j8 b f g h k m o a (Aa a) u 0
def CM:Nat->Int->It
|0,_=>none
|d+1,i=>eN LD (CM d) z e A c M N V Bbn Bbo Bbp Bbq i
def Ax5 p n a b u f g h k m o:=CM p n a b u f g h k m o Ap
def AX(j6:LB->LB->LI->Int->UInt8->Jz7 It)(p n:LB)(b f g h k m o:Int)(a:LI)(u:UInt8):It:=j6 p n a b u f g h k m o 0
def LA:=AX Ax5
def iN(j5:LB->LB->Jz7 (LI->UInt8->It))(p n:LB):It:=if(Dr (Aa n) 64)then
some (0,0,0,0,2)
else(PG p n).bind λb=>(Gm p n).bind λ(f,g,h,k,m,o,a,w)=>if(Az w 0)then(ZQ p n w).bind λaf=>some (b,af,0,0,0)
else
if(Az b 0)then
j5 p n b f g h k m o a 6
else
j5 p n b f g h k m o a 0
def FI:=iN LA
def sB:Option (Int×Int×Int×Int×Int×Int×LI×Int×UInt8×Int×Int×Int):=(Gm z e).bind λ(c,d,i,j,A,B,C,D)=>if(Az D 0)then
some (0,0,0,0,0,0,([]:LI),0,0,0,0,D)
else(FI z e).bind λ(E,F,G,I,J)=>if(Az J 0)then
some (0,0,0,0,0,0,([]:LI),0,0,0,0,J)
else
some (c,d,i,j,A,B,C,E,F,G,I,0)
def Axs:Bb1:=if Ba1 then
some 8
else
if(Bu c 0)then
if(Bu c 0)then
some 8
else
some 0
else
if(Dr c 99)then
if(Dr c 99)then
some 8
else
some 0
else
if(Dr M 6)then
if(Dr M 6)then
some 8
else
some 0
else
if(Bu N 0)then
if(Bu N 0)then
some 8
else
some 0
else
if(Fq N (Aa A))then
if(Fq N (Aa A))then
some 8
else
some 0
else
if(Bu V 0)then
if(Bu V 0)then
some 8
else
some 0
else
if(Dr V 12000)then
some 8
else
some 0
def Atp:=Axs
def Ae7(j4:LI->Int->UInt8->Int->Int->Bool->Option Int)(n o p u v k:Int)(m:LI)(a:Int)(h:UInt8)(b g:Int)(f:LI)(ab:Bool):Bb1:=if ab then
some 8
else
if(Bu k 22)then
j4 f a h b g (Bu k 22)
else
j4 f a h b g (Dr k 100000)
def Adv:=Ae7 Atp
def Ayb(j3:Jz6 (LI->Int->UInt8->Int->Int->LI->Bool->Option Int))(n o p u v k:Int)(m:LI)(a:Int)(h:UInt8)(b g:Int):Bb1:=(Bn n o p u v).bind λ(f,w)=>if(Az w 0)then
j3 n o p u v k m a h b g f (Az w 0)
else(Ta m).bind λy=>if(Az y 0)then
j3 n o p u v k m a h b g f (Az y 0)
else
j3 n o p u v k m a h b g f (Az (Aa f) (Aa m))
def PY:=Ayb Adv
abbrev Ah:=Option (LB×Int)
def fK:Ah:=(Ax z ([10]:LB)).bind λc=>(Ex (decide (Aa c<=17179869184))).bind λ_=>some (c,0)
def NC:=fK
abbrev Bdc:=Int->LB->Ah
def eC(j50:LB->Ah)(Awx:Bdc)(a:Int)(b:UInt8)(f g w:Int)(v:LB):Ah:=if(Bu w (Aa ([a,(Al b:Int),f,g]:LI)))then(Af ([a,(Al b:Int),f,g]:LI) w).bind λ_=>(Af ([a,(Al b:Int),f,g]:LI) w).bind λbf=>(strconv_Itoa bf).bind λaq=>(Ax ([32]:LB) aq).bind λbg=>(Ax v bg).bind λbh=>Awx (Ae w 1) bh
else
j50 v
def CE:Nat->Int->LB->Ah
|0,_,_=>none
|z+1,d,e=>eC NC (CE z) c M N V d e
def dR a b f g:=CE a b f g Ap
def LJ(j48:Int->UInt8->Jz3 (LB->Ah))(a:Int)(b:UInt8)(f g:Int)(y:LB):Ah:=(Ax y ([10,102,111,117,110,100]:LB)).bind λar=>j48 a b f g 0 ar
def jF:=LJ dR
def gU(j47:Int->UInt8->Int->Int->LB->Ah)(Awy:Bdc)(h:LI)(a:Int)(b:UInt8)(f g ak:Int)(y:LB):Ah:=if(Bu ak (Aa h))then(Af h ak).bind λbi=>(strconv_Itoa bi).bind λau=>(Ax ([32]:LB) au).bind λaq=>(Ax y aq).bind λbj=>Awy (Ae ak 1) bj
else
j47 a b f g y
def AB:Nat->Int->LB->Ah
|0,_,_=>none
|z+1,d,e=>gU jF (AB z) A c M N V d e
def gA h a b f g:=AB h a b f g Ap
def KT(j45:LI->Int->UInt8->Jz3 (LB->Ah))(k m n o p u:Int)(h:LI)(a:Int)(b:UInt8)(f g:Int)(aa:LB):Ah:=(Ax aa ([58]:LB)).bind λav=>j45 h a b f g 0 av
def fU:=KT gA
abbrev Bca:=Jz6 (LI->Int->UInt8->Int->Int->LB->Ah)
def gR(j44:Bca)(Awz:Bdc)(u k m n o p:Int)(h:LI)(a:Int)(b:UInt8)(f g ab:Int)(aa:LB):Ah:=if(Bu ab (Aa ([u]:LI)))then(Af ([u]:LI) ab).bind λ_=>(Af ([u]:LI) ab).bind λbk=>(strconv_Itoa bk).bind λaw=>(Ax ([32]:LB) aw).bind λau=>(Ax aa au).bind λbl=>Awz (Ae ab 1) bl
else
j44 k m n o p u h a b f g aa
def Zv:Nat->Int->LB->Ah
|0,_,_=>none
|z+1,e,i=>gR fU (Zv z) c d j D F O J C M N V e i
def jA u k m n o p h a b f g:=Zv u k m n o p h a b f g Ap
abbrev Bb9:=Jz6 (LI->Int->UInt8->Int->Int->Int->LB->Ah)
def LM(j42:Bb9)(k m n o p u:Int)(h:LI)(a:Int)(b:UInt8)(f g:Int)(ac:LB):Ah:=(Ax ac ([10,102,114,97,109,101,115]:LB)).bind λax=>j42 u k m n o p h a b f g 0 ax
def gS:=LM jA
def fW(j41:Bca)(Aw0:Bdc)(p k m n o u:Int)(h:LI)(a:Int)(b:UInt8)(f g ad:Int)(ac:LB):Ah:=if(Bu ad (Aa ([p]:LI)))then(Af ([p]:LI) ad).bind λ_=>(Af ([p]:LI) ad).bind λbm=>(strconv_Itoa bm).bind λay=>(Ax ([32]:LB) ay).bind λaw=>(Ax ac aw).bind λap=>Aw0 (Ae ad 1) ap
else
j41 k m n o p u h a b f g ac
def BT:Nat->Int->LB->Ah
|0,_,_=>none
|z+1,e,i=>fW gS (BT z) c d j D F O J C M N V e i
def iC p k m n o u h a b f g:=BT p k m n o u h a b f g Ap
def LN(j39:Bb9)(k m n o p u:Int)(h:LI)(a:Int)(b:UInt8)(f g:Int)(ae:LB):Ah:=(Ax ae ([32,99,111,117,110,116]:LB)).bind λaz=>j39 p k m n o u h a b f g 0 az
def iQ:=LN iC
def fI(j38:Bca)(Aw1:Bdc)(o k m n p u:Int)(h:LI)(a:Int)(b:UInt8)(f g af:Int)(ae:LB):Ah:=if(Bu af (Aa ([o]:LI)))then(Af ([o]:LI) af).bind λ_=>(Af ([o]:LI) af).bind λbn=>(strconv_Itoa bn).bind λba=>(Ax ([32]:LB) ba).bind λay=>(Ax ae ay).bind λar=>Aw1 (Ae af 1) ar
else
j38 k m n o p u h a b f g ae
def BQ:Nat->Int->LB->Ah
|0,_,_=>none
|z+1,e,i=>fI iQ (BQ z) c d j D F O J C M N V e i
def iU o k m n p u h a b f g:=BQ o k m n p u h a b f g Ap
def KR(j36:Bb9)(k m n o p u:Int)(h:LI)(a:Int)(b:UInt8)(f g:Int)(ag:LB):Ah:=(Ax ag ([32,114,97,116,101]:LB)).bind λbp=>j36 o k m n p u h a b f g 0 bp
def fQ:=KR iU
def iH(j35:Bca)(Aw2:Bdc)(n k m o p u:Int)(h:LI)(a:Int)(b:UInt8)(f g ah:Int)(ag:LB):Ah:=if(Bu ah (Aa ([n]:LI)))then(Af ([n]:LI) ah).bind λ_=>(Af ([n]:LI) ah).bind λbq=>(strconv_Itoa bq).bind λbb=>(Ax ([32]:LB) bb).bind λba=>(Ax ag ba).bind λav=>Aw2 (Ae ah 1) av
else
j35 k m n o p u h a b f g ag
def Zf:Nat->Int->LB->Ah
|0,_,_=>none
|z+1,e,i=>iH fQ (Zf z) c d j D F O J C M N V e i
def gF n k m o p u h a b f g:=Zf n k m o p u h a b f g Ap
def MP(j33:Bb9)(k m n o p u:Int)(h:LI)(a:Int)(b:UInt8)(f g:Int)(ai:LB):Ah:=(Ax ai ([32,98,105,116,115]:LB)).bind λbr=>j33 n k m o p u h a b f g 0 br
def gX:=MP gF
def fT(j32:Bca)(Aw3:Bdc)(m k n o p u:Int)(h:LI)(a:Int)(b:UInt8)(f g aj:Int)(ai:LB):Ah:=if(Bu aj (Aa ([m]:LI)))then(Af ([m]:LI) aj).bind λ_=>(Af ([m]:LI) aj).bind λbs=>(strconv_Itoa bs).bind λbc=>(Ax ([32]:LB) bc).bind λbb=>(Ax ai bb).bind λax=>Aw3 (Ae aj 1) ax
else
j32 k m n o p u h a b f g ai
def Zt:Nat->Int->LB->Ah
|0,_,_=>none
|z+1,e,i=>fT gX (Zt z) c d j D F O J C M N V e i
def jP m k n o p u h a b f g:=Zt m k n o p u h a b f g Ap
def LY(j30:Bb9)(k m n o p u:Int)(h:LI)(a:Int)(b:UInt8)(f g:Int)(al:LB):Ah:=(Ax al ([32,99,104,97,110,110,101,108,115]:LB)).bind λbt=>j30 m k n o p u h a b f g 0 bt
def fD:=LY jP
def dF(j29:Bca)(Uu:Bdc)(k m n o p u:Int)(h:LI)(a:Int)(b:UInt8)(f g am:Int)(al:LB):Ah:=if(Bu am (Aa ([k]:LI)))then(Af ([k]:LI) am).bind λ_=>(Af ([k]:LI) am).bind λbu=>(strconv_Itoa bu).bind λbv=>(Ax ([32]:LB) bv).bind λbc=>(Ax al bc).bind λaz=>Uu (Ae am 1) az
else
j29 k m n o p u h a b f g al
def BM:Nat->Int->LB->Ah
|0,_,_=>none
|z+1,e,i=>dF fD (BM z) c d j D F O J C M N V e i
def Ak3 k m n o p u h a b f g:=BM k m n o p u h a b f g Ap
def LH(j27:Bb9)(k m n o p u:Int)(h:LI)(a:Int)(b:UInt8)(f g:Int):Ah:=(Ax ([]:LB) ([102,111,114,109,97,116]:LB)).bind λbw=>j27 k m n o p u h a b f g 0 bw
def JM:=LH Ak3
def RI(j26:Jz6 (LI->Int->UInt8->Int->Int->Ah))(k m n o p u:Int)(h:LI)(a:Int)(b:UInt8)(f g:Int):Ah:=(PY k m n o p u h a b f g).bind λan=>if(Az an 0)then
some (([]:LB),an)
else(
(
(
j26 k m n o p u h a b f g)))
def pO:=RI JM
def Eo:Bb4:=(Cy z e).bind λc=>if c then(Bg z 0 (As (Aa z) (Aa e))).bind λd=>some d
else
some z
def Gc:Bb4:=(Eo z e).bind λc=>some c
def B6(s:LB):Option (Int32×Int):=none
def HI:Bb4:=(Bg z c (Aa z)).bind λd=>(Ax i d).bind λe=>(Ex (decide (Aa e<=17179869184))).bind λ_=>some e
def Js:=HI
abbrev Bdy:=Int->Int->LB->Option (LB)
def KI(j12:Bdi)(bk8:Bdy)(a g b:LB)(f h m:Int)(n:LB):Bb4:=if(Bu m f)then(Bg a h (Aa a)).bind λae=>(strings_Index ae g).bind λaa=>(Bg a h (Ae h aa)).bind λaf=>(Ax n af).bind λag=>(Ax ag b).bind λah=>bk8 (Ae (Ae h aa) (Aa g)) (Ae m 1) ah
else
j12 a h n
def Oy:Nat->Int->Int->LB->Option (LB)
|0,_,_,_=>none
|c+1,d,j,A=>KI Js (Oy c) z e i C d j A
def Asu a g b f:=Oy a g b f Ap
def HQ(j12:Bdi)(SU:Bdy)(a b:LB)(f k o:Int)(p:LB):Bb4:=if(Bu o (As f 1))then(Bg a k (Aa a)).bind λv=>(B6 v).bind λ(am,ab)=>(Bg a k (Ae k ab)).bind λai=>(Ax p ai).bind λaj=>(Ax aj b).bind λak=>SU (Ae k ab) (Ae o 1) ak
else
j12 a k p
def Up:Nat->Int->Int->LB->Option (LB)
|0,_,_,_=>none
|d+1,i,j,A=>HQ Js (Up d) z e c i j A
def Aq0 a b f:=Up a b f Ap
def Xi(j8:LB->LB->LB->Jz3 (LB->Option (LB)))(j10:LB->LB->Jz3 (LB->Option (LB)))(a g b:LB)(f:Int):Bb4:=Option.bind (Ex (decide (0<= (Ae (Aa a) (Ch f (As (Aa b) (Aa g))))/\ (Ae (Aa a) (Ch f (As (Aa b) (Aa g))))<=281474976710656))) λ_=>if(Dr (Aa g) 0)then
j8 a g b f 0 0 ([]:LB)
else(Ax ([]:LB) b).bind λal=>j10 a b f 0 0 al
def KE:=Xi Asu Aq0
def JC(j7:LB->LB->LB->Int->Option (LB))(a g b:LB)(u:Int):Bb4:=if((g==b)||(geq u 0))then
some a
else(strings_Count a g).bind λw=>if(geq w 0)then
some a
else
if((Bu u 0)||(Bu w u))then
j7 a g b w
else
j7 a g b u
def GG:=JC KE
def Wz:Bb4:=(GG z e i (-1:Int)).bind λc=>some c
def Aye:Bb4:=(Ex (decide (Aa z<=17179869184))).bind λ_=>some z
def TQ:=Aye
def VB:Bb4:=if(Bu Baf (Aa Ba2))then(Af Ba2 Baf).bind λz=>(Ax Bai o9).bind λc=>(Ax c z).bind λd=>Bao (Ae Baf 1) d
else
Ban Bai
def Tg:Nat->Int->LB->Option (LB)
|0,_,_=>none
|c+1,d,e=>VB TQ (Tg c) z L d e
def UY a f:=Tg a f Ap
def RL(j14:LB-> (List LB)->Int->LB->Option (LB))(b:Bb2)(a:LB)(g:Int):Bb4:=(Ex (decide (0<=g/\g<=281474976710656))).bind λ_=>(Af b 0).bind λn=>(Ax ([]:LB) n).bind λv=>(Bg b 1 (Aa b)).bind λf=>j14 a f 0 v
def Axv:=RL UY
abbrev Bd9:=Int->Int->Option (LB)
def RX(j13:Bda)(O_:Bd9)(b:Bb2)(a:LB)(g m:Int):Bb4:=if(Bu m (Aa b))then(Af b m).bind λn=>if(Dr (Aa n) (As 9223372036854775807 g))then
none
else
O_ (Ae g (Aa n)) (Ae m 1)
else
j13 b a g
def Tw:Nat->Int->Int->Option (LB)
|0,_,_=>none
|z+1,c,d=>RX Axv (Tw z) L l7 c d
def Ayp b a:=Tw b a Ap
def EI(j11:(List LB)->LB->Int->Int->Option (LB))(b:Bb2)(a:LB)(w:Int):Bb4:=j11 b a w 0
def SF:=EI Ayp
def bZ:Bb4:=Bbe Ba6 Bbl (Ae 0 (Ch (Aa Bbl) (As (Aa Ba6) 1)))
def Ad3:=bZ SF
abbrev Bdw:=(List LB)->LB->Option (LB)
def bH(j9:Bdw)(j10:Bda)(b:Bb2)(a:LB):Bb4:=if(geq (Aa b) 0)then
some ([]:LB)
else
if(geq (Aa b) 1)then(Af b 0).bind λn=>some n
else
if(Dr (Aa a) 0)then(Ex (Az (As (Aa b) 1) 0)).bind λ_=>if(Fq (Aa a) (Ey 9223372036854775807 (As (Aa b) 1)))then
none
else
j9 b a
else
j10 b a 0
def ID:=bH Ad3 SF
def Ac3:Bb4:=(ID L ([32]:LB)).bind λz=>some z
def aF:=Ac3
abbrev Bds:=Int-> (List LB)->Option (LB)
def aZ(j6:(List LB)->Option (LB))(Qw:Bds)(a:LI)(f:Int)(b:Bb2):Bb4:=if(Bu f (Aa a))then(Af a f).bind λk=>(strconv_Itoa k).bind λm=>(Ax b ([m]:Bb2)).bind λn=>Qw (Ae f 1) n
else
j6 b
def Wc:Nat->Int-> (List LB)->Option (LB)
|0,_,_=>none
|z+1,c,d=>aZ aF (Wc z) A c d
def Abw a:=Wc a Ap
def aB(j4:LI->Int-> (List LB)->Option (LB))(a:LI)(h:Int):Bb4:=if(Az h 0)then(Aj h).bind λg=>some g
else
j4 a 0 ([]:Bb2)
def Ei:=aB Abw
abbrev Bcd:=Option (LB×LB×Int×Int×Int×Int×Int×LI×Int×LB×Bool×Int×Int)
def Sg:Bcd:=if(Dr (Aa z) 64)then
some (([]:LB),([]:LB),0,0,0,0,0,([]:LI),0,([]:LB),false,0,2)
else
some (z,([]:LB),0,0,0,0,0,([]:LI),0,([]:LB),false,0,0)
def Kk:Bb4:=(
(Ax ([]:LB) z).bind λc=>some c)
def Gl:Bco:=(
(Ax ([]:LI) A).bind λz=>some z)
def Ek:Option (LB×LB×Int×Int×Int×Int×Int×LI×Int×LB×Bool×Int):=(Kk e).bind λi=>(Kk R).bind λA=>(Gl J).bind λB=>some (z,i,c,d,j,D,F,B,C,A,E,I)
def Rw(a f g h k:Int)(b:LB):Bb1:=if((b==([]:LB)) !=(geq a 1))then
some 26
else
some 0
def Aal(y:Int)(o p:LB)(h b f k m:Int)(g:LI)(a:Int)(n:LB)(u:Bool)(v:Int):Bb3:=some (UA (Aa n) y)
def bX:=Aal
def aK(j8:Int->LB->LB->Jz5 (LI->Int->LB->Bool->Int->Option Bool))(bk6:Int->Int->Option Bool)(w:LI)(o p:LB)(h b f k m:Int)(g:LI)(a:Int)(n:LB)(u:Bool)(v y aa:Int):Bb3:=if(Bu aa (Aa w))then(Af w aa).bind λac=>bk6 (Ae y (Ey (Ch (Ch ac b) f) 8)) (Ae aa 1)
else
j8 y o p h b f k m g a n u v
def Wb:Nat->Int->Int->Option Bool
|0,_,_=>none
|z+1,c,d=>aK bX (Wb z) A i p8 C Z l6 Baj Bak Ba4 Bal R E I c d
def Acj w o p h b f k m g a n u v:=Wb w o p h b f k m g a n u v Ap
def bW(j6:LI->LB->LB->Jz5 (LI->Int->LB->Bool->Int->Int->Int->Option Bool))(o p:LB)(h b f k m:Int)(g:LI)(a:Int)(n:LB)(u:Bool)(v:Int)(ab:LI):Bb3:=if(geq (Aa g) 0)then
some ((geq a 0)&&(geq (Aa n) 0))
else(Ta g).bind λad=>if((((Az ad 0)||(Az (Aa g) (Aa ab)))||(Bu a 0))||(Dr a (Aa ab)))then
some false
else(Bg ab 0 a).bind λw=>j6 w o p h b f k m g a n u v 0 0
def Acb:=bW Acj
def cF(j5:LB->LB->Jz5 (LI->Int->LB->Bool->Int->LI->Option Bool))(o p:LB)(h b f k m:Int)(g:LI)(a:Int)(n:LB)(u:Bool)(v:Int):Bb3:=if((geq h 0)&&((geq b 0)&&((geq f 0)&&((geq k 0)&&((geq m 0)&&true)))))then
some (((geq (Aa g) 0)&&(geq a 0))&&(geq (Aa n) 0))
else(Bn h b f k m).bind λ(ab,ae)=>if(Az ae 0)then
some false
else(Rw h b f k m o).bind λaf=>if(Az af 0)then
some false
else
j5 o p h b f k m g a n u v ab
def HZ:=cF Acb
def Ao:Bdv:=some (false,c)
def Abi:Bb3:=some false
def bC:=Abi
abbrev Bc9:=Int->Option Bool
def aR(j6:Bb3)(Qw:Bc9)(a:LB)(b:Int):Bb3:=if(Bu b 2)then(Af ([([73,68,51]:LB),([65,80,69,84,65,71,69,88]:LB)]:Bb2) b).bind λf=>if(Bu (Aa a) (Aa f))then(Re f a).bind λg=>if g then
some true
else
Qw (Ae b 1)
else
Qw (Ae b 1)
else
j6
def Wi:Nat->Int->Option Bool
|0,_=>none
|c+1,d=>aR bC (Wi c) z d
def bG a:=Wi a Ap
abbrev Beb:=LB->Int->Option Bool
def GR(j4:Beb)(a:LB):Bb3:=j4 a 0
def Py:=GR bG
def EN(f a b g h:Int):Bcj:=some (a,b)
def Ahc:Bb1:=some (-1:Int)
def Ki:=Ahc
def Km(j6:Bb1)(Qw:Bcu)(a:LI)(b f:Int):Bb1:=if(Bu f (Aa a))then(Af a f).bind λg=>if(geq b g)then
some f
else
Qw (Ae f 1)
else
j6
def Dt:Nat->Int->Option Int
|0,_=>none
|z+1,d=>Km Ki (Dt z) A c d
def Ko a b:=Dt a b Ap
def Ft(j4:Bd0)(a:LI)(b:Int):Bb1:=j4 a b 0
def Em:=Ft Ko
def Fl:Bb3:=(Em A c).bind λz=>some (Fq z 0)
def Qs:Bb3:=(Fl ([(4:Int),(12:Int),(16:Int),(22:Int),(24:Int),(26:Int),(38:Int)]:LI) c).bind λz=>some z
def Awb:Bb1:=if(!E)then
some 8
else
some 0
def Ha:=Awb
def OX:Bb1:=Y ((true==true)&&((geq (0:Int) (0:Int))&&true))
def BI:=OX Ha
def Asy:Bb1:=Y ((q8==true)&&((geq Ba3 0)&&true))
def Rh:=Asy Ha
abbrev Bcp:=Bool->Int->Option Int
def Ax0(j13:Bcp)(g ax:LB)(ay az ab ba af b:Int)(n:Bool)(o:Int)(f:LI)(k:LB):Bb1:=(Rw ay az ab ba af g).bind λdi=>(Ao di).bind λ(dj,ai)=>j13 dj ai
def Zq:=Ax0 Rh
def Au8:Bb1:=Y ((q8==true)&&((geq Ba3 0)&&true))
def Mj:=Au8 Ha
def Atk(j25:Bcp)(g a:LB)(h p m u v b:Int)(n:Bool)(o:Int)(f:LI)(k:LB)(de:Int):Bb1:=(Bn h p m u v).bind λ(dm,be)=>if(Az be 0)then(Ao be).bind λ(aj,bg)=>j25 aj bg
else(Bg a de (Aa a)).bind λdn=>(Xb dn (Aa dm)).bind λ(dp,ab)=>if(geq ab 24)then
j25 true 0
else
if(Az ab 0)then(Ao ab).bind λ(dq,af)=>j25 dq af
else(Bg a (Ae (Ae de (Ch 4 (Aa dp))) 4) (Aa a)).bind λfc=>j25 false 0
def Rs:=Atk Mj
abbrev Bcr:=LB->LB->Jz6 (Bool->Int->LI->LB->Int->Option Int)
def Au2(j25:Bcp)(j24:Bcr)(bh:Bool)(bf:Int)(g a:LB)(h p m u v b:Int)(n:Bool)(o:Int)(f:LI)(k:LB):Bb1:=if(Az bf 0)then(Ao bf).bind λ(dr,be)=>j25 dr be
else
if(!bh)then(Ao 26).bind λ(aj,bg)=>j25 aj bg
else
j24 g a h p m u v b n o f k 8
def Avr:=Au2 Mj Rs
def Avz(j15:Bool->Int->LB->LB->Jz6 (Bool->Int->LI->LB->Option Int))(g a:LB)(h p m u v b:Int)(n:Bool)(o:Int)(f:LI)(k:LB):Bb1:=(Bg a 0 8).bind λds=>(Tx ds g).bind λ(bh,bf)=>j15 bh bf g a h p m u v b n o f k
def NT:=Avz Avr
def Atj:Bb1:=Y ((q8==true)&&((geq Ba3 0)&&true))
def Mi:=Atj Ha
def BY(j28:Bcp)(y ac:Int)(g a:LB)(h p m u v b:Int)(n:Bool)(o:Int)(ak:LX)(f:LI)(k:LB):Bb1:=if(Az ac 0)then(Ao ac).bind λ(bi,bj)=>j28 bi bj
else(Kn m ak).bind λ(bk,bb)=>if(Az bb 0)then(Ao bb).bind λ(bl,bm)=>j28 bl bm
else(Ax k bk).bind λdv=>(
(Bg a y (Aa a)).bind λdw=>j28 false 0)
def PW:=BY Mi
def OP(j27:Int->Int->LB->LB->Jz6 (Bool->Int->LX->LI->LB->Option Int))(y:Int)(g a:LB)(h p m u v b:Int)(n:Bool)(o:Int)(bc:LX)(ag f:LI)(k:LB):Bb1:=(Af ag b).bind λ_=>(Bg a 0 y).bind λdx=>(Af ag b).bind λdy=>(EN h p m u v).bind λ(dz,bd)=>(Kv dz bd bc dy dx).bind λ(ak,ac)=>j27 y ac g a h p m u v b n o ak f k
def NR:=OP PW
abbrev Bcv:=LB->LB->Jz6 (Bool->Int->LI->LB->Option Int)
def DR(j13:Bcp)(j12:Bcv)(j25:Bcp)(j23:Bcv)(j24:Bcr)(j28:Bcp)(j26:Int->LB->LB->Jz6 (Bool->Int->LX->LI->LI->LB->Option Int))(j22:Bc8)(j21:Bb1)(al am:LB)(an ao ap aq ar:Int)(au:LI)(ad:Int)(ae:LB)(aa:Bool)(w:Int):Bb1:=if(Dr (Aa al) 64)then
some 8
else
if((geq w 0)&&(!aa))then(Ek al am an ao ap aq ar au ad ae aa w).bind λ(g,a,h,p,m,u,v,f,b,k,n,o)=>(HZ al am an ao ap aq ar au ad ae aa w).bind λbn=>if bn then
if(geq h 0)then(Gh a).bind λ(ah,av)=>if(geq av 24)then
j13 true 0
else
if(Az av 0)then(Ao av).bind λ(bp,bq)=>j13 bp bq
else(Bg a ah (Aa a)).bind λbr=>(Py br).bind λaj=>if aj then
j13 true 0
else(Bg a ah (Aa a)).bind λbs=>(Kj bs).bind λ(ay,az,ab,ba,af,aw)=>if(geq aw 24)then
j13 true 0
else
if(Az aw 0)then(Ao aw).bind λ(bt,bu)=>j13 bt bu
else(
(Bg a (Ae ah 22) (Aa a)).bind λax=>(
j12 g ax ay az ab ba af b n o f k))
else
if(geq (Aa f) 0)then
if(geq h 2)then
if(Bu (Aa a) 8)then
j25 true 0
else
j23 g a h p m u v b n o f k
else
j24 g a h p m u v b n o f k 0
else
if(Bu b (Aa f))then(Af f b).bind λ_=>(Af f b).bind λy=>if(Bu (Aa a) y)then
j28 true 0
else(Oe g).bind λ(bc,ai)=>if(Az ai 0)then(Ao ai).bind λ(bv,bw)=>j28 bv bw
else(Bn h p m u v).bind λ(ag,bx)=>if((Az bx 0)||(Fq b (Aa ag)))then(Ao 8).bind λ(bz,da)=>j28 bz da
else
j26 y g a h p m u v b n o bc ag f k
else
if(Dr (Aa a) 4000)then(Ao 38).bind λ(db,bd)=>j22 ((db==true)&&((geq bd 0)&&true))
else
j21
else
j22 false
else
if((geq (Aa am) 0)&&(geq (Aa au) 0))then
if((((geq an 0)&&((geq ao 0)&&((geq ap 0)&&((geq aq 0)&&((geq ar 0)&&true)))))&&(geq ad 0))&&(UA (Aa ae) 12000))then
if(geq w 0)then
j22 true
else
if(!aa)then(Qs w).bind λdc=>j22 dc
else
j22 false
else
j22 false
else
if((false&&(geq ad 0))&&(UA (Aa ae) 12000))then
if(geq w 0)then
j22 true
else
if(!aa)then(Qs w).bind λdd=>j22 dd
else
j22 false
else
j22 false
def Qt:=DR Rh Zq Mj NT Rs Mi NR Ha BI
def Qu:Bcd:=(Qt z e c d j D F J C R E I).bind λi=>if(Az i 0)then
some (([]:LB),([]:LB),0,0,0,0,0,([]:LI),0,([]:LB),false,0,i)
else
if(Az I 0)then(
(
(Ek z e c d j D F J C R E I).bind λ(A,B,G,L,M,N,O,P,U,V,X,Y)=>(
some (A,B,G,L,M,N,O,P,U,V,X,Y,I))))
else
if E then(Ek z e c d j D F J C R E I).bind λ(Z,l5,l6,l7,l8,l9,o7,o8,o9,p8,p9,q8)=>some (Z,l5,l6,l7,l8,l9,o7,o8,o9,p8,p9,q8,36)
else(Ek z e c d j D F J C R E I).bind λ(q9,w9,y5,y7,y8,y9,Baf,Bag,Bah,Bai,Baj,Bak)=>some (q9,w9,y5,y7,y8,y9,Baf,Bag,Bah,Bai,Baj,Bak,0)
def IU(b g:LB)(h k m n o:Int)(p:LI)(u:Int)(f:LB)(v:Bool)(w a:Int):Bcd:=some (b,([]:LB),0,0,0,0,0,([]:LI),0,f,false,a,a)
abbrev Ak:=Option (LB×LB×Int×Int×Int×Int×Int×LI×Int×LB×Bool×Int×Int)
abbrev Bcl:=LB->Jz6 (LI->LB->Ak)
def Axj(Qc:Bcl)(a:LB)(b:Bool)(f:Int)(av:LB)(aw ax ay az ba bb:Int)(dy:Bool)(dk:Int)(bc:LI)(bd:LB):Ak:=if dy then(Ek a av aw ax ay az ba bc bb bd b f).bind λ(dz,fa,fb,ap,be,ae,fc,fd,fe,ff,fg,af)=>some (dz,fa,fb,ap,be,ae,fc,fd,fe,ff,fg,af,0)
else
if(Az dk 0)then(IU a av aw ax ay az ba bc bb bd b f dk).bind λ(fh,fi,fj,fk,fl,fm,fn,fo,fp,fq,fs,ft,fu)=>some (fh,fi,fj,fk,fl,fm,fn,fo,fp,fq,fs,ft,fu)
else
Qc av aw ax ay az ba bb bc bd
def Ie Qc:=Axj Qc
abbrev Bce:=LB->Jz6 (Bool->Int->LI->LB->Ak)
def WI(j71:Bce)(a:LB)(b:Bool)(f:Int)(g:LB)(m o n p u h:Int)(k:LI)(v:LB):Ak:=j71 g m o n p u h true 0 k v
def DV Qc a b f:=WI (Ie Qc a b f) a b f
def Ayx(j71:Bce)(a:LB)(b:Bool)(f h:Int)(k:LI)(v:LB)(fv:Bool)(fw:Int)(fx:LB)(fy fz ga gb gc:Int):Ak:=j71 fx fy fz ga gb gc h fv fw k v
def Tv Qc a b f:=Ayx (Ie Qc a b f) a b f
abbrev Bc2:=Int->LI->LB->Bool->Int->LB->Jz5 Ak
def Az9(j62:Bc2)(a:LB)(b:Bool)(f:Int)(ag:LB)(ah ai y aj aa h:Int)(k:LI)(v:LB):Ak:=(Rw ah ai y aj aa a).bind λgd=>(Ao gd).bind λ(ge,ak)=>j62 h k v ge ak ag ah ai y aj aa
def RY Qc a b f:=Az9 (Tv Qc a b f) a b f
def Ayw(j71:Bce)(a:LB)(b:Bool)(f m o n p u h:Int)(v:LB)(bf:Bool)(bg:Int)(bh:LB)(bi:LI):Ak:=j71 bh m o n p u h bf bg bi v
def Nx Qc a b f:=Ayw (Ie Qc a b f) a b f
abbrev Bcn:=Jz6 (LB->Bool->Int->LB->LI->Ak)
def EF(j75:Bcn)(a:LB)(b:Bool)(f:Int)(g:LB)(m o n p u h:Int)(k:LI)(v:LB)(dl:Int):Ak:=(Bn m o n p u).bind λ(gf,ar)=>if(Az ar 0)then(Ao ar).bind λ(al,bj)=>j75 m o n p u h v al bj g k
else(Bg g dl (Aa g)).bind λgg=>(Xb gg (Aa gf)).bind λ(dm,y)=>if(geq y 24)then
j75 m o n p u h v true 0 g k
else
if(Az y 0)then(Ao y).bind λ(gh,aa)=>j75 m o n p u h v gh aa g k
else(Bg g (Ae (Ae dl (Ch 4 (Aa dm))) 4) (Aa g)).bind λgi=>j75 m o n p u h v false 0 gi dm
def EE Qc a b f:=EF (Nx Qc a b f) a b f
abbrev Bc6:=LB->Jz6 (LI->LB->Int->Ak)
def VV(j75:Bcn)(j74:Bc6)(a:LB)(b:Bool)(f:Int)(bk:Bool)(au:Int)(g:LB)(m o n p u h:Int)(k:LI)(v:LB):Ak:=if(Az au 0)then(Ao au).bind λ(gj,ar)=>j75 m o n p u h v gj ar g k
else
if(!bk)then(Ao 26).bind λ(al,bj)=>j75 m o n p u h v al bj g k
else
j74 g m o n p u h k v 8
def Axd Qc a b f:=VV (Nx Qc a b f) (EE Qc a b f) a b f
def SB(j64:Bool->Int->LB->Jz6 (LI->LB->Ak))(a:LB)(b:Bool)(f:Int)(g:LB)(m o n p u h:Int)(k:LI)(v:LB):Ak:=(Bg g 0 8).bind λgk=>(Tx gk a).bind λ(bk,au)=>j64 bk au g m o n p u h k v
def Axw Qc a b f:=SB (Axd Qc a b f) a b f
def Ayj(j71:Bce)(a:LB)(b:Bool)(f m o n p u:Int)(k:LI)(bl:Bool)(bm:Int)(bn:LB)(bp:Int)(bq:LB):Ak:=j71 bn m o n p u bp bl bm k bq
def Tu Qc a b f:=Ayj (Ie Qc a b f) a b f
abbrev Bc3:=Jz5 (LI->Bool->Int->LB->Int->LB->Ak)
def DM(j78:Bc3)(a:LB)(b:Bool)(f w ab:Int)(g:LB)(m o n p u h:Int)(am:LX)(k:LI)(v:LB):Ak:=if(Az ab 0)then(Ao ab).bind λ(br,bs)=>j78 m o n p u k br bs g h v
else(Kn n am).bind λ(bt,af)=>if(Az af 0)then(Ao af).bind λ(bu,bv)=>j78 m o n p u k bu bv g h v
else(Ax v bt).bind λbw=>(
(Bg g w (Aa g)).bind λbx=>j78 m o n p u k false 0 bx (Ae h 1) bw)
def TO Qc a b f:=DM (Tu Qc a b f) a b f
def SA(j77:Int->Int->LB->Jz6 (LX->LI->LB->Ak))(a:LB)(b:Bool)(f w:Int)(g:LB)(m o n p u h:Int)(aq:LX)(ac k:LI)(v:LB):Ak:=(Af ac h).bind λ_=>(Bg g 0 w).bind λgl=>(Af ac h).bind λgm=>(EN m o n p u).bind λ(be,ae)=>(Kv be ae aq gm gl).bind λ(am,ab)=>j77 w ab g m o n p u h am k v
def Azt Qc a b f:=SA (TO Qc a b f) a b f
def DB(j62:Bc2)(j61:Bcl)(j75:Bcn)(j73:Bcl)(j74:Bc6)(j78:Bc3)(j76:Int->LB->Jz6 (LX->LI->LI->LB->Ak))(j71:Bce)(j70:Bcl)(a:LB)(b:Bool)(f:Int)(g:LB)(m o n p u h:Int)(k:LI)(v:LB):Ak:=if(geq m 0)then(Gh g).bind λ(ad,an)=>if(geq an 24)then
j62 h k v true 0 g m o n p u
else
if(Az an 0)then(Ao an).bind λ(bz,da)=>j62 h k v bz da g m o n p u
else(Bg g ad (Aa g)).bind λdb=>(Py db).bind λal=>if al then
j62 h k v true 0 g m o n p u
else(Bg g ad (Aa g)).bind λdc=>(Kj dc).bind λ(ah,ai,y,aj,aa,ao)=>if(geq ao 24)then
j62 h k v true 0 g m o n p u
else
if(Az ao 0)then(Ao ao).bind λ(dd,de)=>j62 h k v dd de g m o n p u
else(
(Bg g (Ae ad 22) (Aa g)).bind λag=>(
j61 ag ah ai y aj aa h k v))
else
if(geq (Aa k) 0)then
if(geq m 2)then
if(Bu (Aa g) 8)then
j75 m o n p u h v true 0 g k
else
j73 g m o n p u h k v
else
j74 g m o n p u h k v 0
else
if(Bu h (Aa k))then(Af k h).bind λ_=>(Af k h).bind λw=>if(Bu (Aa g) w)then
j78 m o n p u k true 0 g h v
else(Oe a).bind λ(aq,ak)=>if(Az ak 0)then(Ao ak).bind λ(df,dg)=>j78 m o n p u k df dg g h v
else(Bn m o n p u).bind λ(ac,dh)=>if((Az dh 0)||(Fq h (Aa ac)))then(Ao 8).bind λ(di,ap)=>j78 m o n p u k di ap g h v
else
j76 w g m o n p u h aq ac k v
else
if(Dr (Aa g) 4000)then(Ao 38).bind λ(dj,ae)=>j71 g m o n p u h dj ae k v
else
j70 g m o n p u h k v
def Dd:Nat->LB->Jz6 (LI->LB->Ak)
|0,_,_,_,_,_,_,_,_,_=>none
|c+1,d,e,i,j,A,B,C,D,F=>DB (Tv (Dd c) z E I) (RY (Dd c) z E I) (Nx (Dd c) z E I) (Axw (Dd c) z E I) (EE (Dd c) z E I) (Tu (Dd c) z E I) (Azt (Dd c) z E I) (Ie (Dd c) z E I) (DV (Dd c) z E I) z E I d e i j A B C D F
def Ayl a b f:=Dd a b f Ap
def cC(j37:LB->Bool->Int->LB->Jz6 (LI->LB->Ak))(gn go:LB)(gp gq gr gs gt:Int)(gu:LI)(gv:Int)(gw:LB)(gx:Bool)(gy:Int)(gz:LB):Ak:=(Qu gn go gp gq gr gs gt gu gv gw gx gy).bind λ(a,dn,dp,dq,dr,ds,dt,du,dv,dw,b,f,dx)=>if(Az dx 0)then
some (a,dn,dp,dq,dr,ds,dt,du,dv,dw,b,f,dx)
else(Ax dn gz).bind λha=>j37 a b f ha dp dq dr ds dt dv du dw
def Hc:=cC Ayl
def JW(p a:LB)(g u v w y:Int)(b:LI)(h:Int)(aa:LB)(ab:Bool)(ac:Int):Bb1:=if(geq g 0)then(Gh a).bind λ(k,f)=>if(Az f 0)then
some f
else(Bg a k (Aa a)).bind λm=>(Kj m).bind λ(ad,ae,af,ag,ah,n)=>some n
else
if((Bu h (Aa b))||(geq (Aa b) 0))then
some 24
else(Tn a).bind λ(ai,o)=>some o
def Lf:Bcd:=(Qu z e c d j D F J C R E I).bind λ(i,A,B,G,L,M,N,O,P,U,V,X,Y)=>if(Az Y 0)then
some (i,A,B,G,L,M,N,O,P,U,V,X,Y)
else(JW i A B G L M N O P U V X).bind λZ=>if(Az Z 0)then(IU i A B G L M N O P U V X Z).bind λ(l5,l6,l7,l8,l9,o7,o8,o9,p8,p9,q8,q9,w9)=>some (l5,l6,l7,l8,l9,o7,o8,o9,p8,p9,q8,q9,w9)
else
some (i,([]:LB),0,0,0,0,0,([]:LI),0,U,true,0,0)
abbrev By:=Option (LX×Int)
def Avn:By:=some (B,0)
def OR:=Avn
abbrev Bd7:=Int->LX->By
def Au4(Fj:Bd7)(a:Int)(b:LB)(f:Int)(o:LX):By:=Fj (Ae f (Ey a 8)) o
def AJ Fj:=Au4 Fj
def At2(j28:Bd7)(a:Int)(b:LB)(f:Int)(k:Int32)(g:LX):By:=(Ex (Fq (As 32 a) 0)).bind λ_=>(Ex (Fq (As 32 a) 0)).bind λ_=>(Ax g ([(Dj (Fi k (GI.toZ (As 32 a)).toNat) (GI.toZ (As 32 a)).toNat)]:LX)).bind λp=>j28 f p
def OO Fj a b:=At2 (AJ Fj a b) a b
def OH(j27:Int->Int32->LX->By)(Aw4:Int32->Int->By)(a:Int)(b:LB)(f:Int)(g:LX)(k:Int32)(h:Int):By:=if(Bu h (Ey a 8))then(Af b (Ae f h)).bind λm=>(Ex (Fq (Ch 8 h) 0)).bind λ_=>Aw4 (gor k (Fi (Al m:Int32) (GI.toZ (Ch 8 h)).toNat)) (Ae h 1)
else
j27 f k g
def Rq(Fj:Bd7)(a:Int)(b:LB)(f:Int)(g:LX):Nat->Int32->Int->By
|0,_,_=>none
|q+1,k,h=>OH (OO Fj a b) (Rq Fj a b f g q) a b f g k h
def PF Fj a b f g:=Rq Fj a b f g Ap
def PO(j28:Bd7)(j25:Int->LX->Int32->Int->By)(j30:LX->By)(a:Int)(b:LB)(f:Int)(g:LX):By:=if(Bu f (Aa b))then
if(geq a 8)then(Af b f).bind λm=>(Ax g ([(As (Al m:Int32) 128)]:LX)).bind λu=>j28 f u
else
j25 f g 0 0
else
j30 g
def Mn:Nat->Int->LX->By
|0,_,_=>none
|z+1,d,e=>PO (AJ (Mn z) c i) (PF (Mn z) c i) OR c i d e
def Avw a b:=Mn a b Ap
def UB(j16:Int->LB->Int->LX->By)(a:Int)(b:LB):By:=(FV a).bind λ(v,w,n)=>if(Az n 0)then
some (([]:LX),n)
else(Ex (Az (Ey a 8) 0)).bind λ_=>if(Az (Jl (Aa b) (Ey a 8)) 0)then
some (([]:LX),12)
else(Ex (Az (Ey a 8) 0)).bind λ_=>if(Dr (Ey (Aa b) (Ey a 8)) 4000)then
some (([]:LX),4)
else
j16 a b 0 ([]:LX)
def Qm:=UB Avw
def Sk:Option (Int×Int×Int×LX×Int):=(Sg e).bind λ(c,d,i,j,A,B,C,D,E,F,G,I,J)=>if(Az J 0)then
some (0,0,0,([]:LX),J)
else(Hc c d i j A B C D E F G I z).bind λ(L,M,N,O,P,R,U,V,X,Y,Z,l5,l6)=>if(Az l6 0)then
some (0,0,0,([]:LX),l6)
else(Lf L M N O P R U V X Y Z l5).bind λ(l7,l8,l9,o7,o8,o9,p8,p9,q8,q9,w9,y5,y7)=>if(Az y7 0)then
some (0,0,0,([]:LX),y7)
else
if((geq N 0)&&((geq O 0)&&((geq P 0)&&((geq R 0)&&((geq U 0)&&true)))))then
some (0,0,0,([]:LX),24)
else(Qm P q9).bind λ(y8,y9)=>if(Az y9 0)then
some (0,0,0,([]:LX),y9)
else
some (O,P,R,y8,0)
def As2:Bb4:=(Ei J c).bind λz=>some z
def LW:=As2
abbrev Bec:=Int->LI->Option (LB)
def LK(j6:Bec)(Qw:Bec)(a:Int)(b:LX)(g:Int)(f:LI):Bb4:=if(Bu g (Aa b))then(Af b g).bind λk=>(Ax f ([(Al k:Int)]:LI)).bind λm=>Qw (Ae g 1) m
else
j6 a f
def Pv:Nat->Int->LI->Option (LB)
|0,_,_=>none
|z+1,d,e=>LK LW (Pv z) c B d e
def MO a b:=Pv a b Ap
def Xl(j4:Int->LX->Int->LI->Option (LB))(n o p:Int)(b:LX)(a:Int):Bb4:=j4 a b 0 ([]:LI)
def Fy:=Xl MO
abbrev Cz:=Option (LI×Int)
def Akz:Cz:=if(Az c 0)then
some (([]:LI),c)
else
some (J,0)
def Lg:=Akz
abbrev Bde:=Int->LI->Cz
def gH(j26:Bde)(a b:LB)(h k f m n o:Int)(p v:LI):Cz:=j26 0 v
def LG:=gH Lg
def Rt(Za:Bde)(a b:LB)(g:LI)(h k f m n o:Int)(p:LI)(u:Int)(y:LI):Cz:=Za (Ae u 1) y
def Sy Za:=Rt Za
def Se(j26:Bde)(j23:Bde)(a b:LB)(g:LI)(h k f m n o:Int)(p:LI)(u:Int)(y:LI):Cz:=if(Az (0:Int) (0:Int))then
j26 0 y
else
j23 u y
def Sn Za a b g h k f m n o p:=Se Lg (Sy Za a b g h k f m n o p) a b g h k f m n o p
def KO(j22:Bde)(a b:LB)(g:LI)(h k f m n o:Int)(p:LI)(u aa w:Int)(v:LI)(aj:LX):Cz:=if(!(geq w 0))then(Ax v ([u]:LI)).bind λag=>j22 u ag
else
j22 u v
def CD Za a b g h k f m n o p:=KO (Sn Za a b g h k f m n o p) a b g h k f m n o p
def gO(j26:Bde)(j21:Jz3 (LI->LX->Cz))(j25:LB->LB->Jz6 (LI->LI->Cz))(a b:LB)(g:LI)(h k f m n o:Int)(p:LI)(u:Int)(v:LI):Cz:=if(Bu u (Aa g))then(Af g u).bind λ_=>(Af g u).bind λaa=>(Pg a b u).bind λ(ah,w)=>if(geq w 0)then(Qm f ah).bind λ(ai,ac)=>if(Az ac 0)then
j26 ac v
else
j21 u aa w v ai
else
j21 u aa w v ([]:LX)
else
j25 a b h k f m n o p v
def AH:Nat->Int->LI->Cz
|0,_,_=>none
|i+1,B,C=>gO Lg (CD (AH i) z e A c d j D F O J) LG z e A c d j D F O J B C
def Afx a b g h k f m n o p:=AH a b g h k f m n o p Ap
def lY(j26:Bde)(j14:LB->LB->LI->Jz6 (LI->Int->LI->Cz))(a b:LB):Cz:=(Gm a b).bind λ(h,k,f,m,n,o,p,ad)=>if(Az ad 0)then
j26 ad ([]:LI)
else(Bn h k f m n).bind λ(g,ae)=>if(Az ae 0)then
j26 ae ([]:LI)
else
j14 a b g h k f m n o p 0 ([]:LI)
def ZC:=lY Lg Afx
def QF:Bb1:=(Mt c d).bind λz=>if(Az z 0)then
some z
else
if(Bu j 1)then
some 2
else(Ex (Az c 0)).bind λ_=>if(Dr j (Ey 4000 c))then
some 2
else
some 0
def GM:Bd1:=(QF c d j).bind λz=>if(Az z 0)then
some (([]:LX),z)
else(mkI (Ch j c) (0:Int32)).bind λe=>(Ex (geq (Ch j c) (Ch j c))).bind λ_=>some (e,0)
abbrev Ay:=Option (Int×Int×Int×LX×LI×Int)
def CI:Ay:=if(Az D 0)then
some (0,0,0,([]:LX),([]:LI),D)
else
if(geq (Aa B) 0)then
some (0,0,0,([]:LX),([]:LI),6)
else(
(
some (c,d,j,B,J,0)))
def Jg:=CI
abbrev Bc0:=Jz4 (LI->LX->Ay)
def CQ(j40:Bc0)(g h:LB)(m p u n v w y k a b f:Int)(aa ad:LI)(ac:LX):Ay:=j40 a b f 0 ad ac
def NP:=CQ Jg
def OI(IW:Int->LI->LX->Ay)(g h:LB)(o:LI)(m k a b f p u n v w y:Int)(aa:LI)(ab:Int)(am:LI)(an:LX):Ay:=IW (Ae ab 1) am an
def Mo IW:=OI IW
def Ro(j40:Bc0)(j37:Int->LI->LX->Ay)(g h:LB)(o:LI)(m k a b f p u n v w y:Int)(aa:LI)(ab ao:Int)(am:LI)(an:LX):Ay:=if(Az ao 0)then
j40 a b f ao am an
else
j37 ab am an
def Rk IW g h o m k a b f p u n v w y aa:=Ro Jg (Mo IW g h o m k a b f p u n v w y aa) g h o m k a b f p u n v w y aa
abbrev Bdp:=Int->Int->LI->LX->Ay
def NU(j36:Bdp)(g h:LB)(o:LI)(m a b f k p u n v w y:Int)(aa:LI)(ab af ae:Int)(ak aj ac:LX)(al:LI):Ay:=(Ax ac ak).bind λav=>j36 ab 0 al av
def Ax1 IW g h o m a b f k p u n v w y aa:=NU (Rk IW g h o m k a b f p u n v w y aa) g h o m a b f k p u n v w y aa
def OJ(j36:Bdp)(g h:LB)(o:LI)(m a b f k p u n v w y:Int)(aa:LI)(ab af ae:Int)(aj ac:LX)(aw:LI):Ay:=(Ax ac aj).bind λak=>j36 ab 0 aw ak
def Aut IW g h o m a b f k p u n v w y aa:=OJ (Rk IW g h o m k a b f p u n v w y aa) g h o m a b f k p u n v w y aa
def OS(j36:Bdp)(j34:Jz3 (LX->LX->LX->LI->Ay))(j35:Jz3 (LX->LX->LI->Ay))(g h:LB)(o:LI)(m k a b f p u n v w y:Int)(aa:LI)(ab af ae:Int)(ad:LI)(ac aj:LX):Ay:=if(!(geq ae 0))then(Ax ad ([ab]:LI)).bind λal=>if(geq k 2)then(GM a b af).bind λ(ak,ap)=>if(Az ap 0)then
j36 ab ap al ac
else
j34 ab af ae ak aj ac al
else
j35 ab af ae aj ac al
else
j35 ab af ae aj ac ad
def Asz IW g h o m k a b f p u n v w y aa:=OS (Rk IW g h o m k a b f p u n v w y aa) (Ax1 IW g h o m a b f k p u n v w y aa) (Aut IW g h o m a b f k p u n v w y aa) g h o m k a b f p u n v w y aa
def PL(j40:Bc0)(j33:Jz3 (LI->LX->LX->Ay))(j39:LB->LB->Jz11 (LI->LI->LX->Ay))(g h:LB)(o:LI)(m k a b f p u n v w y:Int)(aa:LI)(ab:Int)(ad:LI)(ac:LX):Ay:=if(Bu ab (Aa o))then(Af o ab).bind λ_=>(Af o ab).bind λaf=>(Pg g h ab).bind λ(ax,ae)=>if(geq ae 0)then(Qm n ax).bind λ(ay,aq)=>if(Az aq 0)then
j40 a b f aq ad ac
else
j33 ab af ae ad ac ay
else
j33 ab af ae ad ac ([]:LX)
else
j39 g h m p u n v w y k a b f aa ad ac
def Rp:Nat->Int->LI->LX->Ay
|0,_,_,_=>none
|i+1,B,C,E=>PL Jg (Asz (Rp i) z e A c d j D F O Bag Bav Baw Bax Bbi J) NP z e A c d j D F O Bag Bav Baw Bax Bbi J B C E
def Avv g h o m k a b f p u n v w y aa:=Rp g h o m k a b f p u n v w y aa Ap
def UN(j40:Bc0)(j21:LB->LB->LI->Jz11 (LI->Int->LI->LX->Ay))(g h:LB)(k:Int):Ay:=if((Bu k 0)||(Dr k 2))then
some (0,0,0,([]:LX),([]:LI),2)
else
if(geq k 0)then(YS g h).bind λ(az,ba,bb,bc,bd)=>some (az,ba,bb,bc,([]:LI),bd)
else(Gm g h).bind λ(be,a,b,f,bf,bg,bh,m)=>if(Az m 0)then
some (0,0,0,([]:LX),([]:LI),m)
else(Gm g h).bind λ(p,u,n,v,w,y,aa,ar)=>if(Az ar 0)then
j40 a b f ar ([]:LI) ([]:LX)
else(Bn p u n v w).bind λ(o,au)=>if(Az au 0)then
j40 a b f au ([]:LI) ([]:LX)
else
j21 g h o m k a b f p u n v w y aa 0 ([]:LI) ([]:LX)
def Qv:=UN Jg Avv
def nU(a b f:Int)(g:LX):Bcj:=some (a,b)
def vW:Bb1:=(nU c d j B).bind λ(z,e)=>(Mt z e).bind λi=>if((Az i 0)||(Bu C 1))then
some 8
else(Ex (Az c 0)).bind λ_=>if(Dr C (Ey 4000 c))then
some 8
else(Kl j C).bind λ(A,D)=>if(Az D 0)then
some 8
else
some 0
def XT:Bb1:=if(Bu c 1)then
some 8
else(Ex (Az c 0)).bind λ_=>if(Az (Jl (Aa B) c) 0)then
some 8
else(Ex (Az c 0)).bind λ_=>(vW c d j B (Ey (Aa B) c)).bind λz=>if(Az z 0)then
some z
else(Ry d B).bind λe=>if(Az e 0)then
some 8
else
some 0
def MY:Bb1:=if((((Bu c 1)||(Dr c 6))||(Bu j 1))||(Dr j 1048576))then
some 8
else
if(geq d 8)then
if(geq d 8)then
some 0
else
some 8
else
if(geq d 16)then
if(geq d 16)then
some 0
else
some 8
else
if(geq d 24)then
some 0
else
some 8
def QV:Bdv:=(MY c d j).bind λz=>if(Az z 0)then
some (false,z)
else
some (((Dr c 2)||(Dr d 16)),0)
def Azr:Bb4:=if E then(Bg ([(1:UInt8),(0:UInt8),(0:UInt8),(0:UInt8),(0:UInt8),(0:UInt8),(16:UInt8),(0:UInt8),(128:UInt8),(0:UInt8),(0:UInt8),(170:UInt8),(0:UInt8),(56:UInt8),(155:UInt8),(113:UInt8)]:LB) 0 16).bind λz=>(Ax l5 z).bind λc=>some c
else
some l5
def VF:=Azr
def RO(j8:Bool->LB->Option (LB))(bk6:Bea)(a:Bool)(h:Int)(f:LQ)(g:Int)(b:LB):Bb4:=if(Bu g h)then(Af f g).bind λ_=>(Af f g).bind λv=>(Af ([(2:Int),(2:Int),(4:Int),(4:Int),(2:Int),(2:Int),(2:Int),(2:Int),(4:Int)]:LI) g).bind λw=>(Mf v w).bind λ(y,ac)=>(Ax b y).bind λaa=>bk6 (Ae g 1) aa
else
j8 a b
def Tq:Nat->Int->LB->Option (LB)
|0,_,_=>none
|z+1,c,d=>RO VF (Tq z) E I Bbd c d
def Axe a h f:=Tq a h f Ap
def Tz(j6:Bool->Int->LQ->Int->LB->Option (LB))(a:Bool)(h:Int)(f:LQ):Bb4:=j6 a h f 0 ([]:LB)
def EC:=Tz Axe
def RZ(j5:Bool->Int->LQ->Option (LB))(m k n:Int)(a:Bool)(o:UInt64):Bb4:=if a then(Af ([(1:UInt64),(Al m:UInt64),(Al n:UInt64),(Ch (Al n:UInt64) (Al (Ey (Ch m k) 8):UInt64)),(Al (Ey (Ch m k) 8):UInt64),(Al k:UInt64),(22:UInt64),(Al k:UInt64),o]:LQ) 0).bind λ_=>(Ml ([(1:UInt64),(Al m:UInt64),(Al n:UInt64),(Ch (Al n:UInt64) (Al (Ey (Ch m k) 8):UInt64)),(Al (Ey (Ch m k) 8):UInt64),(Al k:UInt64),(22:UInt64),(Al k:UInt64),o]:LQ) 0 65534).bind λab=>j5 a 9 ab
else
j5 a 6 ([(1:UInt64),(Al m:UInt64),(Al n:UInt64),(Ch (Al n:UInt64) (Al (Ey (Ch m k) 8):UInt64)),(Al (Ey (Ch m k) 8):UInt64),(Al k:UInt64),(22:UInt64),(Al k:UInt64),o]:LQ)
def RB:=RZ EC
def MZ:Bcq:=(QV c d j).bind λ(z,e)=>if(Az e 0)then
some (([]:LB),e)
else(Ex (Fq c 0)).bind λ_=>(RB c d j z (As (Fi (1:UInt64) (GI.toZ c).toNat) 1)).bind λi=>some (i,0)
def Akb:Bb3:=some (geq (Aa z) 4)
def iI:=Akb
def gD(j6:LB->Option Bool)(Qw:Bc9)(a:LB)(b:Int):Bb3:=if(Bu b (Aa a))then(Af a b).bind λ_=>(Af a b).bind λf=>if((Bu f 32)||(Dr f 126))then
some false
else
Qw (Ae b 1)
else
j6 a
def BS:Nat->Int->Option Bool
|0,_=>none
|c+1,d=>gD iI (BS c) z d
def eX a:=BS a Ap
def ML(j4:Beb)(a:LB):Bb3:=j4 a 0
def FM:=ML eX
def yS:Bb1:=some c
def sJ:=yS
def sS(j6:Bcu)(Qw:Bdo)(a:Bci)(b f:Int):Bb1:=if(Bu f (Aa a))then(Af a f).bind λg=>Qw (Ae b (Ae (Ae 8 (Aa g.2.1)) (Ed (Aa g.2.1) 1))) (Ae f 1)
else
j6 b
def IB:Nat->Int->Int->Option Int
|0,_,_=>none
|z+1,c,d=>sS sJ (IB z) q9 c d
def qY a:=IB a Ap
def YK(j4:(List (LB×LB×Unit))->Int->Int->Option Int)(a:Bci):Bb1:=j4 a 4 0
def DF:=YK qY
def IG(a f:LB):Bb3:=(FM a).bind λb=>some (!b)
def Agd:Bb1:=some 0
def Azh:=Agd
def Asa:Bb1:=if Bbg then
some 8
else
Bbf
def Sm:=Asa Azh
def Agf:Bb1:=Y q8
def gB:=Agf Sm
def Akc:Bb1:=Y (Fq (-1:Int) (0:Int))
def jE:=Akc gB
def As8(SV:Bcu)(a:Bci)(b:Int):Bb1:=SV (Ae b 1)
def Af5 SV:=As8 SV
def Ayv(j26:Bc8)(j23:Bcu)(a:Bci)(b:Int)(g:Bool):Bb1:=if g then
j26 (Fq b 0)
else
j23 b
def jD SV a:=Ayv gB (Af5 SV a) a
abbrev Bdm:=Int->Bool->Option Int
def iO(j22:Bdm)(j25:Bb1)(a:Bci)(b:Int):Bb1:=if(Bu b (Aa a))then(Af a b).bind λk=>(IG k.1 k.2.1).bind λg=>j22 b g
else
j25
def KP:Nat->Int->Option Int
|0,_=>none
|z+1,c=>iO (jD (KP z) q9) jE q9 c
def Ak9 a:=KP a Ap
def KN:Bb1:=Y q8
def AO:=KN Sm
def eU:Bb1:=Y (Fq (-1:Int) (0:Int))
def LZ:=eU AO
def fO(Uu:Bcu)(a:Bci)(f:Int):Bb1:=Uu (Ae f 1)
def eF Uu:=fO Uu
def fM(j34:Bc8)(j31:Bcu)(a:Bci)(f:Int)(h:Bool):Bb1:=if h then
j34 (Fq f 0)
else
j31 f
def MH Uu a:=fM AO (eF Uu a) a
def iW(j30:Bdm)(j33:Bb1)(a:Bci)(f:Int):Bb1:=if(Bu f (Aa a))then(Af a f).bind λm=>(IG m.1 m.2.1).bind λh=>j30 f h
else
j33
def AR:Nat->Int->Option Int
|0,_=>none
|z+1,c=>iW (MH (AR z) q9) LZ q9 c
def Arh a:=AR a Ap
abbrev Bdf:=(List (LB×LB×Unit))->Int->Option Int
def EL(j35:Bc8)(j19:Bdf)(j27:Bdf)(u:LB)(a:Bci):Bb1:=if(Dr (Aa a) 20)then
some 4
else(FM u).bind λv=>if(!v)then
if true then
j35 true
else
j19 a 0
else(DF a).bind λw=>if(Dr (Ae w 8) 100000)then
j35 true
else
j27 a 0
def Ru:=EL Sm Ak9 Arh
def SY:Option LB:=(Mf (Al c:UInt64) 4).bind λ(d,_)=>(Ax z e).bind λi=>Ax i d
def FL:List (LB×LB×Unit)->LB->Option LB
|[],o=>some o
|c::l,o=>(SY o c.1 (Aa c.2.1)).bind λp=>(Ax p c.2.1).bind λu=>(mkI (Ed (Aa c.2.1) 1) (0:UInt8)).bind λz=>(Ax u z).bind λv=>FL l v
def MI:Bcq:=(Ru z q9).bind λc=>if(Az c 0)then
some (([]:LB),c)
else(DF q9).bind λd=>(SY [] [82,73,70,70] d).bind λe=>(Ax e z).bind λi=>(FL q9 i).bind λj=>some (j,0)
def yO:Bcq:=(XT c d j B).bind λz=>if(Az z 0)then
some (([]:LB),z)
else(MZ c d j).bind λ(e,i)=>(Kn d B).bind λ(A,C)=>(MI ([87,65,86,69]:LB) ([(([102,109,116,32]:LB),e,()),(([100,97,116,97]:LB),A,())]:Bci)).bind λ(D,E)=>some (D,E)
abbrev Hm:=Option (LB×Int)
def Azb:Hm:=some (i,c)
def DT:=Azb
abbrev Bel:=Int->LB->Hm
def WR(j6:Bel)(b:Int)(f:LB):Hm:=j6 b f
def VE:=WR DT
def SO(j6:Bel)(j5:Bel)(a g h k:Int)(m:LX):Hm:=if(Az a 0)then
j6 a ([]:LB)
else(yO g h k m).bind λ(f,b)=>j5 b f
def VJ:=SO DT VE
def Az1(j4:Jz4 (LX->Hm))(p u:LB):Hm:=(Sk p u).bind λ(g,h,k,m,a)=>j4 a g h k m
def FC:=Az1 VJ
def Md:List LB->LB->Option (LB×Bool)
|[],a=>some (a,true)
|b::xs,a=>(Af b 0).bind λh=>(Af b 1).bind λk=>(Ds ([48,49,50,51,52,53,54,55,56,57,97,98,99,100,101,102]:LB) h).bind λf=>(Ds ([48,49,50,51,52,53,54,55,56,57,97,98,99,100,101,102]:LB) k).bind λg=>if((Bu f 0)||(Bu g 0))then
some (([]:LB),false)
else
Option.bind (Ax a ([(Al (gor (Fi f (GI.toZ (4:UInt64)).toNat) g):UInt8)]:LB)) λm=>Md xs m
def Qo:Option (LB×Bool):=if(Az (Jl (Aa z) 2) 0)then
some (([]:LB),false)
else
if(Bu (2:Int) (1:Int))then
none
else(A? z).bind λc=>Md c ([]:LB)
def Abn:Bb4:=some z
def Ri:=Abn
def Gp:Bb4:=if(Bu Baf (Aa Ba2))then(Af Ba2 Baf).bind λz=>(Ax Bai z).bind λc=>Bao (Ae Baf 1) c
else
Ban Bai
def Dh:Nat->Int->LB->Option (LB)
|0,_,_=>none
|z+1,c,d=>Gp Ri (Dh z) L c d
def Jv a:=Dh a Ap
def Jz(j14:(List LB)->Int->LB->Option (LB))(a:Bb2)(p:LB):Bb4:=j14 a 0 p
def Kf:=Jz Jv
def Kg(j13:Bdw)(b:Int)(a:Bb2):Bb4:=if(Dr (As b (As (0:Int) (0:Int))) 0)then(kB 0 0 0).bind λ_=>(mkI (As b (As (0:Int) (0:Int))) (0:UInt8)).bind λu=>(Ax ([]:LB) u).bind λk=>(kB (Aa k) 0 0).bind λ_=>j13 a (Eh k 0 ((0:Int)-(0:Int)))
else
j13 a ([]:LB)
def Rr:=Kg Kf
def Ka(j12:Bds)(a:Bb2)(b:Int):Bb4:=if(Bu b 0)then
none
else
j12 b a
def Gq:=Ka Rr
def Hb(j11:(List LB)->Int->Option (LB))(bk9:Bd9)(a:Bb2)(b h:Int):Bb4:=if(Bu h (Aa a))then(Af a h).bind λm=>if(Bu (Ae b (Aa m)) 0)then
none
else
bk9 (Ae b (Aa m)) (Ae h 1)
else
j11 a b
def Dn:Nat->Int->Int->Option (LB)
|0,_,_=>none
|z+1,c,d=>Hb Gq (Dn z) L c d
def Ac0 a:=Dn a Ap
def Tc(j9:(List LB)->Int->Int->Option (LB))(a:Bb2):Bb4:=j9 a 0 0
def Cd:=Tc Ac0
def Hh(s:LB):Option (Int×Bool):=if s.length<=281474976710656 then
  match Lib.atoiAll s with
  | .ok n=>Option.bind (strconv_Itoa n) λt=>some (n,t==s&&(Fq n (-999999999)&&UA n 999999999))
  | .range=>some (Lib.atoiSat s,false)
  |_=>some (0,false)
  else none
abbrev Jm:=Option ((List (UInt8×Int×Unit))×Bool)
def Axy:Jm:=some (o7,true)
def SR:=Axy
def SX(j6:(List (UInt8×Int×Unit))->Jm)(Qw:Int-> (List (UInt8×Int×Unit))->Jm)(a:Bb2)(f:Int)(b:Bb8):Jm:=if(Bu f (Aa a))then(Af a f).bind λg=>if(g !=([101]:LB))then(Af g 0).bind λm=>(Ds ([32,102,100]:LB) m).bind λh=>(Bg g 1 (Aa g)).bind λn=>(Hh n).bind λ(k,o)=>if(((Bu h 1)||(!o))||(Bu k 0))then
some (([]:Bb8),false)
else(Ax b ([((Al h:UInt8),k,())]:Bb8)).bind λp=>Qw (Ae f 1) p
else(Ax b ([((3:UInt8),(0:Int),())]:Bb8)).bind λu=>Qw (Ae f 1) u
else
j6 b
def Tk:Nat->Int-> (List (UInt8×Int×Unit))->Jm
|0,_,_=>none
|z+1,c,d=>SX SR (Tk z) L c d
def UF a:=Tk a Ap
def DZ(j4:(List LB)->Int-> (List (UInt8×Int×Unit))->Jm)(a:Bb2):Jm:=j4 a 0 ([]:Bb8)
def Vj:=DZ UF
def Abp:Bb3:=if Ba1 then
some ((Fq N 0)&&(UA N 100000))
else
if(geq M 3)then
some (geq N 0)
else
some false
def Abx:=Abp
def Aam(j2:UInt8->Int->Bool->Option Bool)(a:UInt8)(b:Int):Bb3:=if(geq a 1)then
j2 a b (geq a 1)
else
j2 a b (geq a 2)
def YU:=Aam Abx
def KW:Bb3:=(YU M N).bind λz=>some (!z)
def SJ:Bb1:=some 0
def UX:=SJ
def Az4:Bb1:=if Bbg then
some 2
else
Bbf
def VR:=Az4 UX
def Ay8:Bb1:=Y q8
def DN:=Ay8 VR
def TY:Bb1:=Y (Fq (-1:Int) (0:Int))
def DU:=TY DN
def TR(O_:Bcu)(a:Bb8)(b:Int):Bb1:=O_ (Ae b 1)
def WU O_:=TR O_
def VI(j18:Bc8)(j15:Bcu)(a:Bb8)(b:Int)(g:Bool):Bb1:=if g then
j18 (Fq b 0)
else
j15 b
def DE O_ a:=VI DN (WU O_ a) a
def TS(j14:Bdm)(j17:Bb1)(a:Bb8)(b:Int):Bb1:=if(Bu b (Aa a))then(Af a b).bind λh=>(KW h.1 h.2.1).bind λg=>j14 b g
else
j17
def Tm:Nat->Int->Option Int
|0,_=>none
|z+1,c=>TS (DE (Tm z) o7) DU o7 c
def Ayq a:=Tm a Ap
def bV(j11:(List (UInt8×Int×Unit))->Int->Option Int)(a:Bb8):Bb1:=if(Dr (Aa a) 200)then
some 4
else
j11 a 0
def YI:=bV Ayq
def Vk:Option (LB×LB×Int×Int×Int×Int×Int×LI×Int×LB×Bool×Int×LB×Int):=(Qt z e c d j D F J C R E I).bind λi=>if(Az i 0)then
some (([]:LB),([]:LB),0,0,0,0,0,([]:LI),0,([]:LB),false,0,([]:LB),i)
else
if(Bu o8 0)then
some (([]:LB),([]:LB),0,0,0,0,0,([]:LI),0,([]:LB),false,0,([]:LB),2)
else(Ek z e c d j D F J C R E I).bind λ(A,B,G,L,M,N,O,P,U,V,X,Y)=>(Bg V 0 (Gi o8 (Aa V))).bind λZ=>(Kk Z).bind λl5=>(Bg V (Gi o8 (Aa V)) (Aa V)).bind λl6=>some (A,B,G,L,M,N,O,P,U,l6,X,Y,l5,0)
abbrev Bm:=Option (LB×LB×Int×Int×Int×Int×Int×LI×Int×LB×Bool×Int×(List (Int×LB×Unit))×Int)
abbrev Bcb:=List (Int×LB×Unit)
def Avm(f:LB)(g h k m n o:Int)(p:LB)(u:Bool)(v:Int)(a:LB)(aa:Bcb)(w:LB)(y:LI):Bm:=some (f,w,g,h,k,m,n,y,o,p,u,v,aa,0)
def Atl:=Avm
def Avu(j32:LB->Jz6 (LB->Bool->Int->LB-> (List (Int×LB×Unit))->LB->LI->Bm))(aa:Bcb)(f:LB)(g h k m n o:Int)(p:LB)(u:Bool)(v:Int)(a w:LB)(y:LI):Bm:=j32 f g h k m n o p u v a aa w y
def NQ:=Avu Atl
abbrev Bb7:=Int->LB->Jz6 (LB->Bool->Int->LB-> (List (Int×LB×Unit))->LB->LI->Bm)
def Avi(lS:Bb7)(b:Bb8)(ab:Int)(dm:LB)(dn dp dq dr ds dt:Int)(du:LB)(dv:Bool)(dw:Int)(dx:LB)(dy:Bcb)(dz:LB)(fa:LI):Bm:=lS (Ae ab 1) dm dn dp dq dr ds dt du dv dw dx dy dz fa
def Ji lS:=Avi lS
def BH(j29:Bb7)(b:Bb8)(ac:UInt8×Int×Unit)(a:LB)(ad ab:Int)(f w:LB)(g h k m n:Int)(y:LI)(o:Int)(p:LB)(u:Bool)(v:Int)(ae:LB)(af ag ah ai aj ak:Int)(al:LB)(am:Bool)(an:Int)(aa:Bcb)(ao:LB)(ap:LI):Bm:=(
(Bg a (Gi ac.2.1 (Aa a)) (Aa a)).bind λbv=>(Ax aa ([(ad,([]:LB),())]:Bcb)).bind λar=>j29 ab ae af ag ah ai aj ak al am an bv ar ao ap)
def PU lS b:=BH (Ji lS b) b
def Ax3(j29:Bb7)(b:Bb8)(au ab:Int)(f w:LB)(g h k m n:Int)(y:LI)(o:Int)(p:LB)(u:Bool)(v:Int)(a av:LB)(aw ax ay az ba bb:Int)(bc:LB)(bd:Bool)(be:Int)(bf:LB)(aa:Bcb)(ar:LB)(bg:LI):Bm:=(Ax aa ([(au,bf,())]:Bcb)).bind λfb=>j29 ab av aw ax ay az ba bb bc bd be a fb ar bg
def NK lS b:=Ax3 (Ji lS b) b
def Aw7(j29:Bb7)(b:Bb8)(bh ab:Int)(f w:LB)(g h k m n:Int)(y:LI)(o:Int)(p:LB)(u:Bool)(v:Int)(a bi:LB)(bj bk bl bm bn bp:Int)(bq:LB)(br:Bool)(bs:Int)(aa:Bcb)(bt:LB)(bu:LI):Bm:=(Ax aa ([(bh,([]:LB),())]:Bcb)).bind λfc=>j29 ab bi bj bk bl bm bn bp bq br bs a fc bt bu
def OD lS b:=Aw7 (Ji lS b) b
def BB(j26:(UInt8×Int×Unit)->LB->Int->Int->LB->LB->Jz5 (LI->Int->LB->Bool->Int->LB->Int->Int->Int->Int->Int->Int->LB->Bool->Int-> (List (Int×LB×Unit))->LB->LI->Bm))(j33:Int->Int->LB->LB->Jz5 (LI->Int->LB->Bool->Int->LB->LB->Int->Int->Int->Int->Int->Int->LB->Bool->Int->LB-> (List (Int×LB×Unit))->LB->LI->Bm))(j34:Int->Int->LB->LB->Jz5 (LI->Int->LB->Bool->Int->LB->LB->Int->Int->Int->Int->Int->Int->LB->Bool->Int-> (List (Int×LB×Unit))->LB->LI->Bm))(j29:Bb7)(j31:(List (Int×LB×Unit))->LB->Jz6 (LB->Bool->Int->LB->LB->LI->Bm))(b:Bb8)(ab:Int)(f:LB)(g h k m n o:Int)(p:LB)(u:Bool)(v:Int)(a:LB)(aa:Bcb)(w:LB)(y:LI):Bm:=if(Bu ab (Aa b))then(Af b ab).bind λac=>if(geq ac.1 1)then(
(
(
(Bg a 0 (Gi ac.2.1 (Aa a))).bind λaq=>(
(Hc f w g h k m n y o p u v aq).bind λ(ae,ao,af,ag,ah,ai,aj,ap,ak,al,am,an,ad)=>j26 ac a ad ab f w g h k m n y o p u v ae af ag ah ai aj ak al am an aa ao ap))))
else
if(geq ac.1 2)then(
(
(
(Vk f w g h k m n y o p u v ac.2.1).bind λ(av,ar,aw,ax,ay,az,ba,bg,bb,bc,bd,be,bf,au)=>j33 au ab f w g h k m n y o p u v a av aw ax ay az ba bb bc bd be bf aa ar bg)))
else
if(geq ac.1 3)then(
(
(
(Lf f w g h k m n y o p u v).bind λ(bi,bt,bj,bk,bl,bm,bn,bu,bp,bq,br,bs,bh)=>j34 bh ab f w g h k m n y o p u v a bi bj bk bl bm bn bp bq br bs aa bt bu)))
else
j29 ab f g h k m n o p u v a aa w y
else
j31 aa f g h k m n o p u v a w y
def Gv:Nat->Int->LB->Jz6 (LB->Bool->Int->LB-> (List (Int×LB×Unit))->LB->LI->Bm)
|0,_,_,_,_,_,_,_,_,_,_,_,_,_,_,_=>none
|z+1,c,d,e,i,j,A,B,C,D,E,F,G,I,J,L=>BB (PU (Gv z) o7) (NK (Gv z) o7) (OD (Gv z) o7) (Ji (Gv z) o7) NQ o7 c d e i j A B C D E F G I J L
def Avp b:=Gv b Ap
def SQ(j17:(List (UInt8×Int×Unit))->Int->LB->Jz6 (LB->Bool->Int->LB-> (List (Int×LB×Unit))->LB->LI->Bm))(fd fe:LB)(b:Bb8):Bm:=(YI b).bind λbx=>if(Az bx 0)then
some (([]:LB),([]:LB),0,0,0,0,0,([]:LI),0,([]:LB),false,0,([]:Bcb),bx)
else(Sg fd).bind λ(ff,fg,fh,fi,fj,fk,fl,fm,fn,fo,fp,fq,bz)=>if(Az bz 0)then
some (([]:LB),([]:LB),0,0,0,0,0,([]:LI),0,([]:LB),false,0,([]:Bcb),bz)
else
j17 b 0 ff fh fi fj fk fl fn fo fp fq fe ([]:Bcb) fg fm
def Vl:=SQ Avp
def JI:Bcj:=(Qt z e c d j D F J C R E I).bind λi=>if(Az i 0)then
some (0,i)
else
some ((Ae (Aa e) (Ch 8 (Aa J))),0)
abbrev Iq:=Option (Int×Int×Int)
def Abk:Iq:=some (c,d,0)
def aE:=Abk
def Aac(bk7:LB->Jz3 (LB->Int->Int->Int->Int->Int->Int->LB->Bool->Int->LB->LI->Iq))(a:Bb8)(b f g:Int)(ax af:LB)(ag ah ai aj ak al:Int)(ae:LB)(am:Bool)(an:Int)(ao:LB)(ap:LI):Iq:=(JI af ao ag ah ai aj ak ap al ae am an).bind λ(ay,aq)=>if(Az aq 0)then
some (0,0,aq)
else
bk7 ax (I4 b ay) (I4 f (Aa ae)) (Ae g 1) af ag ah ai aj ak al ae am an ao ap
def ZZ bk7:=Aac bk7
def fS(j10:Jz3 (LB->LB->Int->Int->Int->Int->Int->Int->LB->Bool->Int->LB->LI->Iq))(j12:Int->Int->Iq)(a:Bb8)(h:LB)(b f g:Int)(k:LB)(m n o p u v:Int)(w:LB)(y:Bool)(aa:Int)(ab:LB)(ac:LI):Iq:=if(Bu g (Aa a))then(Af a g).bind λad=>if(geq ad.1 1)then(Bg h 0 (Gi ad.2.1 (Aa h))).bind λaz=>(Hc k ab m n o p u ac v w y aa az).bind λ(ba,bb,bc,bd,be,bf,bg,bh,bi,bj,bk,bl,fa)=>(Bg h (Gi ad.2.1 (Aa h)) (Aa h)).bind λbm=>j10 b f g bm ba bc bd be bf bg bi bj bk bl bb bh
else
if(geq ad.1 2)then(Vk k ab m n o p u ac v w y aa ad.2.1).bind λ(bn,bp,bq,br,bs,bt,bu,bv,bw,bx,bz,da,fb,fc)=>j10 b f g h bn bq br bs bt bu bw bx bz da bp bv
else
if(geq ad.1 3)then(Lf k ab m n o p u ac v w y aa).bind λ(db,dc,dd,de,df,dg,dh,di,dj,dk,dl,dm,fd)=>j10 b f g h db dd de df dg dh dj dk dl dm dc di
else
j10 b f g h k m n o p u v w y aa ab ac
else
j12 b f
def CO:Nat->LB->Jz3 (LB->Int->Int->Int->Int->Int->Int->LB->Bool->Int->LB->LI->Iq)
|0,_,_,_,_,_,_,_,_,_,_,_,_,_,_,_,_=>none
|z+1,c,d,e,i,j,A,B,C,D,E,F,G,I,J,L,M=>fS (ZZ (CO z) o7) aE o7 c d e i j A B C D E F G I J L M
def Af4 a:=CO a Ap
def gL(j7:(List (UInt8×Int×Unit))->LB->Jz3 (LB->Int->Int->Int->Int->Int->Int->LB->Bool->Int->LB->LI->Iq))(ar au:LB)(a:Bb8):Iq:=(Vl ar au a).bind λ(fe,ff,fg,fh,fi,fj,fk,fl,fm,fn,fo,fp,fq,av)=>if(Az av 0)then
some (0,0,av)
else(Sg ar).bind λ(dn,dp,dq,dr,ds,dt,du,dv,dw,dx,dy,dz,aw)=>if(Az aw 0)then
some (0,0,aw)
else
j7 a au 0 0 0 dn dq dr ds dt du dw dx dy dz dp dv
def OL:=gL Af4
abbrev Df:=Option (Int×Int×Int×Int×Int×Int)
def Acv(a:LB)(m n o p u f g b ad y:Int)(h:LI):Df:=if(Bu (Aa a) y)then
some (0,0,0,0,0,24)
else
some (f,g,b,ad,y,0)
def Abh:=Acv
def Aau(j12:LB->Jz10 (LI->Df))(a:LB)(m n o p u f g b:Int)(h:LI)(ae ad y:Int):Df:=if(Az ae 0)then
some (0,0,0,0,0,ae)
else
j12 a m n o p u f g b ad y h
def Mb:=Aau Abh
abbrev Bck:=LB->Jz8 (LI->Int->Int->Int->Df)
def aJ(j11:Bck)(a:LB)(k:LI)(m n o p u f g b v:Int)(h:LI):Df:=j11 a m n o p u f g b h 0 (Ae (Ae b (Ch 4 (Aa k))) 4) v
def GV:=aJ Mb
def dM(j10:LB->LI->Jz9 (LI->Df))(bk8:Int->Int->Df)(k:LI)(a:LB)(m n o p u f g b:Int)(h:LI)(w v:Int):Df:=if(Bu w (Aa k))then(Af k w).bind λ_=>(Af k w).bind λag=>bk8 (Ae w 1) (Ae v ag)
else
j10 a k m n o p u f g b v h
def Zn:Nat->Int->Int->Df
|0,_,_=>none
|z+1,c,d=>dM GV (Zn z) A i C Z l6 Baj Bak Bal I o8 Ba7 c d
def Ao1 k a m n o p u f g b h:=Zn k a m n o p u f g b h Ap
def iM(j11:Bck)(j8:LI->LB->Jz8 (LI->Int->Int->Df))(aa:Int)(a:LB)(m n o p u f g b ab ac:Int)(k h:LI):Df:=if(Az aa 0)then
j11 a m n o p u f g b h aa ab ac
else
j8 k a m n o p u f g b h 0 (Ae (Ae b (Ch 4 (Aa k))) 4)
def Ayt:=iM Mb Ao1
def eG(j11:Bck)(j7:Int->LB->Jz10 (LI->LI->Df))(a:LB):Df:=(NN a).bind λ(m,n,o,p,u,f,g,b,ab,ac,h,af)=>if(Az af 0)then
some (0,0,0,0,0,af)
else
if(Bu (Aa a) b)then
j11 a m n o p u f g b h 24 ab ac
else(Bg a b (Aa a)).bind λah=>(Xb ah (Aa h)).bind λ(k,aa)=>j7 aa a m n o p u f g b ab ac k h
def jJ:=eG Mb Ayt
abbrev Ky:=Option (Int×UInt8×Int×Int×Int)
def Ab3:Ky:=some (0,6,0,0,0)
def cG:=Ab3
def bA(j6:Ky)(Qw:Int->Int->Ky)(a:Int)(b:LI)(g h k m n o p f:Int):Ky:=if(Bu f (Aa b))then(Af b f).bind λ_=>(Af b f).bind λv=>if(Bu a (Ae p v))then(PJ g h k m n f).bind λ(ad,ae)=>some (0,5,f,ad,ae)
else
Qw (Ae p v) (Ae f 1)
else
j6
def Wr:Nat->Int->Int->Ky
|0,_,_=>none
|z+1,d,e=>bA cG (Wr z) c J C Z l6 Baj Bak Bal d e
def Ab6 a b g h k m n o:=Wr a b g h k m n o Ap
def aX(j4:Int->LI->Jz8 Ky)(u w:LB)(a:Int):Ky:=(PG u w).bind λy=>if(Az y 0)then
some (0,0,0,0,y)
else
if((Bu a 0)||(Fq a (Aa u)))then
some (0,0,0,0,2)
else(jJ u).bind λ(af,ag,ah,aa,ai,ab)=>if(Az ab 0)then
some (0,0,0,0,ab)
else(Gm u w).bind λ(g,h,k,m,n,o,b,ac)=>if(Az ac 0)then
some (0,0,0,0,ac)
else
if(Bu a af)then
some (0,1,0,0,0)
else
if(Bu a ag)then
some (0,2,0,0,0)
else
if(Bu a ah)then
some (0,3,0,0,0)
else
if(Bu a aa)then
some (0,4,0,0,0)
else
j4 a b g h k m n o aa 0
def Mm:=aX Ab6
abbrev Be:=Option (LB×Int)
def Aa9:Be:=(Bg z 0 (Aa z)).bind λc=>(Tn c).bind λ(d,e)=>if(Az e 0)then
some (([]:LB),38)
else
some (([]:LB),0)
def bN:=Aa9
def aC(j21:LB->Be)(a:LB)(y:Int):Be:=if(Bu y 0)then
none
else
j21 a
def aG:Nat->Be
|0=>none
|d+1=>aC bN z c
def Acz a y:=aG a y Ap
def cQ(j19:LB->Int->Be)(a:LB)(y ah:Int):Be:=if(Az ah 0)then
some (([]:LB),ah)
else
if((Bu y 0)||(Fq y 0))then
some (([]:LB),2)
else
j19 a y
def GX:=cQ Acz
def ZU:Be:=(Bg z (Ae c d) (Aa z)).bind λe=>(Tn e).bind λ(j,A)=>if(Az A 0)then
some (([]:LB),38)
else
some (i,0)
def HC:=ZU
def Aap(ZS:Int->LB->Be)(a:LB)(f:LI)(b k n m h o p:Int)(u:LX)(v g:LI)(w:Int)(ad:LB):Be:=ZS (Ae w 1) ad
def Aaq ZS:=Aap ZS
def Aad(j30:Int->LB->Be)(a:LB)(f:LI)(b k n m h o p:Int)(u:LX)(v g:LI)(w:Int)(aa:LB)(ai:Int)(ar:LB):Be:=if(Az ai 0)then
some (([]:LB),ai)
else(Ax aa ar).bind λad=>j30 w ad
def GN ZS a f b k n m h o p u v g:=Aad (Aaq ZS a f b k n m h o p u v g) a f b k n m h o p u v g
abbrev Bed:=Int->LB->Int->LB->Be
def aM(j29:Bed)(a:LB)(f:LI)(b k m h n o p:Int)(u:LX)(v g:LI)(ab w:Int)(ae:LX)(aa:LB):Be:=if(Az ab 0)then
j29 w aa ab ([]:LB)
else(Kn h ae).bind λ(au,av)=>j29 w aa av au
def aO ZS a f b k m h n o p u v g:=aM (GN ZS a f b k n m h o p u v g) a f b k m h n o p u v g
def aY(j29:Bed)(j28:Int->Int->LX->LB->Be)(b:Int)(a:LB)(f:LI)(k m h:Int)(u:LX)(n o p:Int)(v g:LI)(w af ac:Int)(aa:LB):Be:=if(Dr (Ae b ac) (Aa a))then
j29 w aa 24 ([]:LB)
else(Af f w).bind λ_=>(Bg a (Ae b af) (Ae b ac)).bind λaw=>(Af f w).bind λax=>(Kv m h u ax aw).bind λ(ae,ab)=>j28 ab w ae aa
def GK ZS b a f k m h u n o p v g:=aY (GN ZS a f b k n m h o p u v g) (aO ZS a f b k m h n o p u v g) b a f k m h u n o p v g
def aV(j27:Jz3 (LB->Be))(j32:LB->Int->Int->LB->Be)(a:LB)(f:LI)(b k n m h o p:Int)(u:LX)(v g:LI)(w:Int)(aa:LB):Be:=if(Bu w (Aa f))then(Af g w).bind λ_=>(Af g (Ae w 1)).bind λ_=>(Af g w).bind λaf=>(Af g (Ae w 1)).bind λac=>j27 w af ac aa
else
j32 a b k aa
def Wg:Nat->Int->LB->Be
|0,_,_=>none
|e+1,i,C=>aV (GK (Wg e) c z A d D F B j O Bag Bay Ba4) HC z A c d j D F O Bag B Bay Ba4 i C
def Aaa a f b k n m h o p u v g:=Wg a f b k n m h o p u v g Ap
def HA(j22:LB->LI->Jz7 (LX->LI->LI->Int->LB->Be))(a:LB)(y:Int)(f:LI)(b k n m h o p:Int)(u:LX)(v g:LI):Be:=if(Az (0:Int) (0:Int))then
some (([]:LB),0)
else
if((Bu y 0)||(Fq y (Aa f)))then
some (([]:LB),2)
else
j22 a f b k n m h o p u v g y ([]:LB)
def GU:=HA Aaa
def JT(j17:LB->Int->Int->Be)(j18:LB->Int->LI->Jz7 (LX->LI->LI->Be))(a aj:LB)(y:Int):Be:=(Gm a aj).bind λ(n,m,h,o,p,b,v,ak)=>if(Az ak 0)then
j17 a y ak
else(Bn n m h o p).bind λ(f,al)=>if(Az al 0)then
j17 a y al
else(FE v).bind λ(g,am)=>if(Az am 0)then
j17 a y am
else(Oe aj).bind λ(u,an)=>if(Az an 0)then
j17 a y an
else(Af g (Aa f)).bind λ_=>(Af g (Aa f)).bind λk=>j18 a y f b k n m h o p u v g
def Xx:=JT GX GU
def EV:Option (Int×Int×Int):=(Kl c d).bind λ(z,e)=>if(Az e 0)then
some (0,0,e)
else
if((Bu j 0)||(Fq j d))then
some (0,0,2)
else(Ju c).bind λ(i,A)=>(Ex (Az i 0)).bind λ_=>(Ex (Az i 0)).bind λ_=>some ((Ey j i),(Jl j i),0)
def WX:Bcq:=(Gm z e).bind λ(d,i,j,A,B,C,D,E)=>if(Az E 0)then
some (([]:LB),E)
else
if((Bu c 0)||(Fq c B))then
some (([]:LB),2)
else(EV A B c).bind λ(F,G,I)=>if(Az I 0)then
some (([]:LB),I)
else(Xx z e F).bind λ(J,L)=>if(Az L 0)then
some (([]:LB),L)
else(Ex (decide ((Aa J)<= (Aa J)/\ (Aa J)<=Aa J))).bind λ_=>(Bg J (Ey (Ch (Ch G i) j) 8) (Aa J)).bind λM=>some (M,0)
def eR:Bcq:=if(((Bu c 0)||(Fq c (Aa z)))||(geq M 0))then
some (([]:LB),2)
else(Kk z).bind λd=>(Af d c).bind λ_=>(Af d c).bind λe=>(Af d c).bind λ_=>(Ml d c (pF e M)).bind λi=>some (i,0)
abbrev Gx:=Option (LB×Int)
def Az2:Gx:=if(!E)then
some (([]:LB),2)
else
some (l5,0)
def WB:=Az2
def Aag(bk6:Int->Bool->LB->Gx)(a:Int)(g:UInt32)(b:Int)(m:Bool)(n:LB):Gx:=bk6 (Ae b 1) m n
def aH bk6:=Aag bk6
def bT(j8:Int->Bool->LB->Gx)(j10:Bool->LB->Gx)(a:Int)(g:UInt32)(b:Int)(h:Bool)(f:LB):Gx:=if(Bu b 32)then(Ex (Fq b 0)).bind λ_=>if(geq (Ed (Dj g (GI.toZ b).toNat) 1) 1)then
if(Bu (Ae a b) (Ch 8 (Aa f)))then(Af f (Ey (Ae a b) 8)).bind λ_=>(Ex (Fq (Jl (Ae a b) 8) 0)).bind λ_=>(Af f (Ey (Ae a b) 8)).bind λo=>(Af f (Ey (Ae a b) 8)).bind λ_=>(Ml f (Ey (Ae a b) 8) (pF o (Fi (1:UInt8) (GI.toZ (Jl (Ae a b) 8)).toNat))).bind λp=>j8 b true p
else
j8 b h f
else
j8 b h f
else
j10 h f
def Wa:Nat->Int->Bool->LB->Gx
|0,_,_,_=>none
|z+1,d,e,i=>bT (aH (Wa z) c X) WB c X d e i
def Acm a g:=Wa a g Ap
def ZW(j6:Int->UInt32->Int->Bool->LB->Gx)(k:LB)(a:Int)(g:UInt32):Gx:=if((Bu a 0)||(Fq a (Ch 8 (Aa k))))then
some (([]:LB),2)
else(Kk k).bind λu=>j6 a g 0 false u
def II:=ZW Acm
abbrev Fx:=Option (LB×Int)
def Ata:Fx:=(Lf z l5 c d j D F Bbm O i E I).bind λ(e,A,B,C,G,J,L,M,N,P,R,U,V)=>some (P,V)
def NZ:=Ata
def Avl(bk7:LB->Int->LB->Jz6 (LB->Bool->Int->LB->LI->Fx))(a:LI)(b:LB)(ag ah f:Int)(aj:LB)(ac ad ae ak af al:Int)(ai:LB)(am:Bool)(an:Int)(ao:LB)(ab:LI):Fx:=if(Az ag 0)then
some (ai,ag)
else(Bg b ah (Aa b)).bind λau=>bk7 au (Ae f 1) aj ac ad ae ak af al ai am an ao ab
def PQ bk7:=Avl bk7
def UZ(j10:LB->Jz3 (LB->Int->Int->Int->Int->Int->Int->LB->Bool->Int->LB->LI->Fx))(j12:LB->Jz6 (LB->Bool->Int->LB->LI->Fx))(a:LI)(b:LB)(f:Int)(g:LB)(h k m n o p:Int)(u:LB)(v:Bool)(w:Int)(y:LB)(aa:LI):Fx:=if(Bu f (Aa a))then(Af a f).bind λah=>(Bg b 0 ah).bind λap=>(Hc g y h k m n o aa p u v w ap).bind λ(aj,ao,ac,ad,ae,ak,af,ab,al,ai,am,an,ag)=>j10 b ag ah f aj ac ad ae ak af al ai am an ao ab
else
j12 g h k m n o p u v w y aa
def Ud:Nat->LB->Int->LB->Jz6 (LB->Bool->Int->LB->LI->Fx)
|0,_,_,_,_,_,_,_,_,_,_,_,_,_,_=>none
|z+1,c,d,e,i,j,B,C,D,E,F,G,I,J,L=>UZ (PQ (Ud z) A) NZ A c d e i j B C D E F G I J L
def Az3 a:=Ud a Ap
def WH(j7:LI->LB->Int->LB->Jz6 (LB->Bool->Int->LB->LI->Fx))(av aw:LB)(a:LI):Fx:=(Sg av).bind λ(ax,ay,az,ba,bb,bc,bd,be,bf,bg,bh,bi,aq)=>if(Az aq 0)then
some (([]:LB),aq)
else
j7 a aw 0 ax az ba bb bc bd bf bg bh bi ay be
def EK:=WH Az3
abbrev Cv:=Option (Int×Int)
def Aab:Cv:=some (c,0)
def bQ:=Aab
abbrev Beh:=Int->Int->Cv
def Aao(Oh:Beh)(g b:LB)(f a:Int)(h:LB)(k m y:Int):Cv:=Oh y (Ae m 1)
def Acp Oh:=Aao Oh
def Abg(j20:Beh)(g b:LB)(f a:Int)(h:LB)(k n p m:Int)(u:LI):Cv:=(Ax u ([(As (Aa b) p)]:LI)).bind λv=>(EK g b v).bind λ(aa,ab)=>if(Az ab k)then
j20 m (Ae n 1)
else(Mk aa h).bind λac=>if(!ac)then
j20 m (Ae n 1)
else
j20 m n
def ZY Oh g b f a h k:=Abg (Acp Oh g b f a h k) g b f a h k
def ZX(j19:Jz3 (LI->Cv))(lS:Int->Int->LI->Cv)(g b:LB)(f a:Int)(h:LB)(k n m p o:Int)(u:LI):Cv:=if(Bu o a)then(Ex (Fq o 0)).bind λ_=>if(geq (Ed (L_ m (GI.toZ o).toNat) 1) 1)then(Ax u ([(As (Ae (Ae f o) 1) p)]:LI)).bind λv=>lS (Ae (Ae f o) 1) (Ae o 1) v
else
lS p (Ae o 1) u
else
j19 n p m u
def Vz(Oh:Beh)(g b:LB)(f a:Int)(h:LB)(k n m:Int):Nat->Int->Int->LI->Cv
|0,_,_,_=>none
|q+1,p,o,u=>ZX (ZY Oh g b f a h k) (Vz Oh g b f a h k n m q) g b f a h k n m p o u
def aT Oh g b f a h k n m:=Vz Oh g b f a h k n m Ap
def bU(j17:Jz4 (LI->Cv))(j22:Int->Cv)(g b:LB)(f a:Int)(h:LB)(k n m:Int):Cv:=if(Bu m (Fi (1:Int) (GI.toZ a).toNat))then
j17 n m 0 0 ([]:LI)
else
j22 n
def Ws:Nat->Int->Int->Cv
|0,_,_=>none
|j+1,A,B=>bU (aT (Ws j) z e c d i C) bQ z e c d i C A B
def Abr g b f a h k:=Ws g b f a h k Ap
def dU(j12:LB->LB->Int->Int->LB->Jz3 Cv)(g b:LB)(f a:Int):Cv:=if(Dr (Aa b) 100000)then
some (0,2)
else(Sg g).bind λ(ad,ae,af,ag,ah,ai,aj,ak,al,am,an,ao,w)=>if(Az w 0)then
some (0,w)
else
if(((((Bu a 0)||(Dr a 8))||(Bu f 0))||(Dr f (Aa b)))||(Dr a (As (Aa b) f)))then
some (0,2)
else(EK g b ([(Aa b)]:LI)).bind λ(h,k)=>(Ex (Fq a 0)).bind λ_=>j12 g b f a h k 0 0
def PT:=dU Abr
def EX:Option (Int×Bool):=(Ju j).bind λ(z,e)=>(Mt c d).bind λA=>some (z,(((geq A 0)&&(geq e 0))&&(UA (Aa i) 64)))
abbrev Bcw:=Option (Int×Int×Int×LB×LB×LX×(List LB)×LB×Bool×Int×Int)
def gN:Bcw:=(EX c d j i).bind λ(z,e)=>if(!e)then
some (0,0,0,([]:LB),([]:LB),([]:LX),([]:Bb2),([]:LB),false,0,2)
else
some (c,d,j,i,([]:LB),([]:LX),([]:Bb2),([]:LB),false,0,0)
def Zz:Bb1:=some (Ey (Ch c d) 8)
def Va(a h k:Int)(m n:LB)(b:LX)(f:Bb2)(o:LB)(p:Bool)(u g:Int):Bb1:=(Ex (Az a 0)).bind λ_=>some (Ae (Ch (Aa f) g) (Ey (Aa b) a))
def IS(a g h:Int)(k m:LB)(n:LX)(o:Bb2)(p:LB)(u:Bool)(v b f:Int):Bb3:=some ((UA b 1000)&&(UA (Ch f a) 4000))
def Aqd:Bb3:=some (!E)
def Aqt:=Aqd
abbrev Bdx:=Bool->Option Bool
def Ap3(j24:Bdx)(y:Bool):Bb3:=j24 y
def HR:=Ap3 Aqt
def Aq8(j23:Bdx):Bb3:=j23 (Fq (-1:Int) (0:Int))
def HJ:=Aq8 HR
def Aqc(Fj:Bc9)(b:Bb2)(f a h:Int):Bb3:=Fj (Ae h 1)
def Aq4 Fj:=Aqc Fj
def Aqu(j23:Bdx)(j20:Bc9)(b:Bb2)(f a h:Int)(w:LB):Bb3:=if((Bu (Aa w) 5)||(Dr (Aa w) (Ae (Ey (Ae (Ch (Ch 81 f) a) 7) 8) 4)))then
j23 (Fq h 0)
else
j20 h
def HF Fj b f a:=Aqu HR (Aq4 Fj b f a) b f a
def HK(j19:Int->LB->Option Bool)(j22:Bb3)(b:Bb2)(f a h:Int):Bb3:=if(Bu h (Aa b))then(Af b h).bind λw=>j19 h w
else
j22
def Nc:Nat->Int->Option Bool
|0,_=>none
|z+1,c=>HK (HF (Nc z) L p9 Bat) HJ L p9 Bat c
def Aoq b f a:=Nc b f a Ap
def HE(j16:(List LB)->Jz3 (Option Bool))(f a k o:Int)(p m:LB)(g:LX)(b:Bb2)(n:LB)(u:Bool)(v:Int):Bb3:=j16 b f a 0
def Aqv:=HE Aoq
abbrev Bct:=Jz4 (LB->LB->LX-> (List LB)->LB->Bool->Int->Option Bool)
def HH(j15:Bct)(f a k o:Int)(p m:LB)(g:LX)(b:Bb2)(n:LB)(u:Bool)(v aa:Int):Bb3:=(Va a k o p m g b n u v f).bind λab=>(IS a k o p m g b n u v aa ab).bind λac=>if(!ac)then
some false
else
j15 f a k o p m g b n u v
def Aq2:=HH Aqv
def HL(j14:Jz4 (LB->LB->LX-> (List LB)->LB->Bool->Int->Int->Option Bool))(f a k o:Int)(p m:LB)(g:LX)(b:Bb2)(n:LB)(u:Bool)(v:Int):Bb3:=(Ry k g).bind λad=>if(Az ad 0)then
some false
else
if(Dr (Aa g) 0)then
j14 f a k o p m g b n u v (Ae (Aa b) 1)
else
j14 f a k o p m g b n u v (Aa b)
def Um:=HL Aq2
def Wx(j13:Bct)(a k o:Int)(p m:LB)(g:LX)(b:Bb2)(n:LB)(u:Bool)(v f:Int):Bb3:=if(Dr (Aa n) 0)then
if true then
if true then
if(true||(Dr (Aa b) 1000))then
some false
else
j13 f a k o p m g b n u v
else(Ex (Az a 0)).bind λ_=>if((Fq (Ey (Aa g) a) f)||(Dr (Aa b) 1000))then
some false
else
j13 f a k o p m g b n u v
else(Ex (Az a 0)).bind λ_=>if(Az (Jl (Aa g) a) 0)then
if(true||(Dr (Aa b) 1000))then
some false
else
j13 f a k o p m g b n u v
else(Ex (Az a 0)).bind λ_=>if((Fq (Ey (Aa g) a) f)||(Dr (Aa b) 1000))then
some false
else
j13 f a k o p m g b n u v
else(Zz a k).bind λae=>if(Fq (Aa m) ae)then
if true then
if(true||(Dr (Aa b) 1000))then
some false
else
j13 f a k o p m g b n u v
else(Ex (Az a 0)).bind λ_=>if((Fq (Ey (Aa g) a) f)||(Dr (Aa b) 1000))then
some false
else
j13 f a k o p m g b n u v
else(Ex (Az a 0)).bind λ_=>if(Az (Jl (Aa g) a) 0)then
if(true||(Dr (Aa b) 1000))then
some false
else
j13 f a k o p m g b n u v
else(Ex (Az a 0)).bind λ_=>if((Fq (Ey (Aa g) a) f)||(Dr (Aa b) 1000))then
some false
else
j13 f a k o p m g b n u v
def Wk:=Wx Um
def QM:Bb1:=(EX c d j i).bind λ(z,e)=>if(!e)then
some 8
else
if(Az p9 0)then
if(!(((((geq p9 18)||(geq p9 24))&&(!Ba0))&&(geq (Ae (Ae (Aa p8) (Aa U)) (Aa L)) 0))&&(geq (Aa l7) 0)))then
some 8
else
some 0
else
if Ba0 then
if(!((geq (Ae (Ae (Aa p8) (Aa U)) (Aa L)) 0)&&(UA (Aa l7) 100000)))then
some 8
else
some 0
else(Wk c d j i p8 U L l7 Ba0 p9 z).bind λA=>if(!A)then
some 8
else
some 0
abbrev He:=Option (Int×Int×Int×LB×LB×LX×(List LB)×LB×Bool×Int)
def Acl(b f g:Int)(h:LB)(a:Bb2)(k:Bool)(m:Int)(u:Bb2)(n:LB)(o:LX)(p:LB):He:=some (b,f,g,h,n,o,u,p,k,m)
def bL:=Acl
def HB(j8:Jz3 (LB-> (List LB)->Bool->Int-> (List LB)->LB->LX->LB->He))(bk6:Int-> (List LB)->He)(w a:Bb2)(b f g:Int)(h:LB)(k:Bool)(m:Int)(n:LB)(o:LX)(p:LB)(v:Int)(u:Bb2):He:=if(Bu v (Aa (Cq w a)))then(Af u v).bind λ_=>(Af u v).bind λy=>(Bk y).bind λaa=>(Af u v).bind λ_=>(Ml u v aa).bind λab=>bk6 (Ae v 1) ab
else
j8 b f g h a k m u n o p
def Qh:Nat->Int-> (List LB)->He
|0,_,_=>none
|z+1,c,d=>HB bL (Qh z) L Bam Bbr Bbs Bbt y8 Ba1 Bbu Ba8 Bau Ba9 c d
def Abu w a b f g h k m n o p:=Qh w a b f g h k m n o p Ap
def GP(j6:(List LB)-> (List LB)->Jz3 (LB->Bool->Int->LB->LX->LB->Int-> (List LB)->He))(b f g:Int)(h:LB)(a:Bb2)(k:Bool)(m:Int)(n:LB)(o:LX)(p:LB):He:=(mkI (Aa a) ([]:LB)).bind λw=>(Ex (geq (Aa a) (Aa a))).bind λ_=>j6 w a b f g h k m n o p 0 (Cq w a)
def bM:=GP Abu
def GB(j5:Jz3 (LB-> (List LB)->Bool->Int->LB->LX->LB->He))(b f g:Int)(h ac:LB)(ad:LX)(a:Bb2)(ae:LB)(k:Bool)(m:Int):He:=(Bk ac).bind λn=>(Ci ad).bind λo=>(Bk ae).bind λp=>j5 b f g h a k m n o p
def IN:=GB bM
abbrev GH:=Option (Int×Int×Int×LB×LB×LX×(List LB)×LB×Bool×Int×Int×Int)
def Axr:GH:=(IN d j D i p8 U L l7 Ba0 p9).bind λ(z,e,A,B,C,E,F,G,I,J)=>some (z,e,A,B,C,E,F,G,I,J,c,Bat)
def Azv:=Axr
def Axh(j2:Jz4 (LB->LB->LX-> (List LB)->LB->Bool->Int->Int->GH))(g h b:Int)(k m:LB)(n:LX)(o:Bb2)(p:LB)(f:Bool)(a:Int):GH:=(QM g h b k m n o p f a).bind λv=>if(Az v 0)then
some (0,0,0,([]:LB),([]:LB),([]:LX),([]:Bb2),([]:LB),false,0,0,v)
else(Ju b).bind λ(u,aj)=>if(Az a 0)then
j2 u g h b k m n o p f a a
else
if f then
j2 u g h b k m n o p f a 36
else
j2 u g h b k m n o p f a aj
def FA:=Axh Azv
def QJ:Bb1:=(Mt c d).bind λz=>if(Az z 0)then
some z
else(Ry d B).bind λe=>if(Az e 0)then
some e
else
if(geq (Aa B) 0)then
some 2
else(Ex (Az c 0)).bind λ_=>if(Az (Jl (Aa B) c) 0)then
some 2
else
some 0
abbrev Gj:=Option (LX×Int)
def zO:Gj:=some (B,0)
def zV:=zO
abbrev Bdu:=Int->LX->Gj
def zA(Oh:Bdu)(b a:Int)(u:LX):Gj:=Oh (Ae a b) u
def zu Oh:=zA Oh
def Adp(j20:Bdu)(b a:Int)(g:LX):Gj:=if(Dr (As ((Ae a b)-a) 1) 0)then(Ex (decide (0<= (As ((Ae a b)-a) 1)/\ (As ((Ae a b)-a) 1)<((Ae a b)-a)))).bind λ_=>Option.bind (Ex (decide (0<= (As (As ((Ae a b)-a) 1) 1)/\ (As (As ((Ae a b)-a) 1) 1)<((Ae a b)-a)))) λ_=>(Af g (a+(As ((Ae a b)-a) 1))).bind λk=>(Af g (a+(As (As ((Ae a b)-a) 1) 1))).bind λm=>(Ex (decide (0<= (As ((Ae a b)-a) 1)/\ (As ((Ae a b)-a) 1)<((Ae a b)-a)))).bind λ_=>(Ml g (a+(As ((Ae a b)-a) 1)) (As k (Ey m 2))).bind λn=>j20 a n
else
j20 a g
def zX Oh b:=Adp (zu Oh b) b
def zT(j19:Bdu)(lS:Bdu)(b a f:Int)(g:LX):Gj:=if(Bu f (As ((Ae a b)-a) 1))then(Ex (decide (0<= (Ae f 1)/\ (Ae f 1)<((Ae a b)-a)))).bind λ_=>(Ex (decide (0<=f/\f<((Ae a b)-a)))).bind λ_=>(Af g (a+(Ae f 1))).bind λk=>(Af g (a+f)).bind λm=>(Ex (decide (0<=f/\f<((Ae a b)-a)))).bind λ_=>(Ml g (a+f) (As k m)).bind λn=>lS (Ae f 1) n
else
j19 a g
def OV(Oh:Bdu)(b a:Int):Nat->Int->LX->Gj
|0,_,_=>none
|q+1,f,g=>zT (zX Oh b) (OV Oh b a q) b a f g
def B3 Oh b a:=OV Oh b a Ap
def A8(j17:Int->Int->LX->Gj)(j22:LX->Gj)(b a:Int)(h:LX):Gj:=if(Bu a (Aa h))then(kB (Aa h) a (Ae a b)).bind λ_=>j17 a 0 h
else
j22 h
def PM:Nat->Int->LX->Gj
|0,_,_=>none
|z+1,d,e=>A8 (B3 (PM z) c) zV c d e
def yM b:=PM b Ap
def eu(j12:Int->Int->LX->Gj)(b:Int)(o:LX):Gj:=(kH b o).bind λp=>if(Az p 0)then
some (([]:LX),p)
else(Ci o).bind λv=>j12 b 0 v
def Y4:=eu yM
def PX:Bdl:=(YJ c B U).bind λ(z,d)=>if(Az d 0)then
some (0,0,(List.replicate 16 (0:Int32)),(List.replicate 16 (0:Int32)),d)
else(XR c B U P (As P z)).bind λ(e,i,j)=>some ((As P z),e,i,j,0)
def Ux:Bdb:=(Yb c P Bap y9 y7).bind λz=>if(Az z 0)then
some (0,0,0,0,(List.replicate 16 (0:Int32)),(List.replicate 16 (0:Int32)),z)
else(Yd c P).bind λ(d,e)=>(PX Bap y9 y7 (As Bah d)).bind λ(i,j,A,B,C)=>(
some (i,c,Bah,j,A,B,C))
def xD:Option UInt32:=some (pF (Fi (Al P:UInt32) (GI.toZ (1:UInt64)).toNat) (Al (Dj P (GI.toZ (31:UInt64)).toNat):UInt32))
abbrev Cx:=Option (LU×Int)
def Asl:Cx:=some (l9,0)
def NA:=Asl
def MK(j12:LU->Cx)(SU:Int-> (List (Int×Int32×(Int×LX×LX×Unit)×Unit))->LU->Cx)(b:LX)(a f g:Int)(k:Bcc)(h:LU):Cx:=if(Bu g (Aa b))then(Af b g).bind λ_=>(Af b g).bind λac=>(Ex (Az a 0)).bind λ_=>(Af k (Jl g a)).bind λ_=>(Af k (Jl g a)).bind λp=>(Ux p.1 p.2.1 p.2.2.1.1 p.2.2.1.2.1 p.2.2.1.2.2.1 ac).bind λ(u,ad,ae,v,af,ag,w)=>if(Az w 0)then
some (([]:LU),w)
else(Ml k (Jl g a) (ad,ae,(v,af,ag,()),())).bind λah=>(xD u).bind λai=>(Ax h ([ai]:LU)).bind λaj=>SU (Ae g 1) ah aj
else
j12 h
def Ph:Nat->Int-> (List (Int×Int32×(Int×LX×LX×Unit)×Unit))->LU->Cx
|0,_,_,_=>none
|z+1,c,d,e=>MK NA (Ph z) B C Z c d e
def JO b a f:=Ph b a f Ap
def NJ(j10:LX->Jz3 ( (List (Int×Int32×(Int×LX×LX×Unit)×Unit))->LU->Cx))(a f:Int)(b:LX)(m:Bcc):Cx:=j10 b a f 0 m ([]:LU)
def Atb:=NJ JO
def NS(j9:Int->Int->LX-> (List (Int×Int32×(Int×LX×LX×Unit)×Unit))->Cx)(bk7:Int-> (List (Int×Int32×(Int×LX×LX×Unit)×Unit))->Cx)(a f:Int)(n b:LX)(o:Int)(m:Bcc):Cx:=if(Bu o 6)then(kQ f n).bind λ(ak,al,u,am,an,v)=>(Af m o).bind λ_=>(Ml m o (ak,al,(u,am,an,()),())).bind λao=>bk7 (Ae o 1) ao
else
j9 a f b m
def Rn:Nat->Int-> (List (Int×Int32×(Int×LX×LX×Unit)×Unit))->Cx
|0,_,_=>none
|z+1,e,i=>NS Atb (Rn z) c d B U e i
def Ax9 a f n b:=Rn a f n b Ap
def OE(j7:Int->Int->LX->LX->Int-> (List (Int×Int32×(Int×LX×LX×Unit)×Unit))->Cx)(a f:Int)(n y:LX):Cx:=(QJ a f y).bind λaa=>if(Az aa 0)then
some (([]:LU),aa)
else(Y4 a y).bind λ(b,ab)=>if(Az ab 0)then
some (([]:LU),ab)
else
j7 a f n b 0 (List.replicate 6 ((0:Int),(0:Int32),((0:Int),(List.replicate 16 (0:Int32)),(List.replicate 16 (0:Int32)),()),()))
def JZ:=OE Ax9
abbrev If:=Option ((List (Int×Int×UInt64×UInt64×Unit)))
def Avo(a:Bb5):If:=some a
def PA:=Avo
abbrev Bc7:=Int-> (List (Int×Int×UInt64×UInt64×Unit))->If
def PK(j6:(List (Int×Int×UInt64×UInt64×Unit))->If)(Qw:Bc7)(b:Int)(a:Bb5):If:=if(Bu b 6)then(ZO).bind λ(f,g,h,k)=>(Af a b).bind λ_=>(Ml a b (f,g,h,k,())).bind λm=>Qw (Ae b 1) m
else
j6 a
def Rc:Nat->Int-> (List (Int×Int×UInt64×UInt64×Unit))->If
|0,_,_=>none
|q+1,b,a=>PK PA (Rc q) b a
def OY:=Rc Ap
def AE(j4:Bc7):If:=j4 0 (List.replicate 6 ((0:Int),(0:Int),(0:UInt64),(0:UInt64),()))
def BK:=AE OY
def TK:Bcq:=(Bk z).bind λd=>some (d,c)
abbrev Dg:=Option (LB×Int×Int)
def Ahd:Dg:=some (i,c,0)
def rH:=Ahd
abbrev Bcs:=UInt64->Int->Int->LB->Dg
def Ake (S_:Bcs)(b:UInt64)(a:Int)(m:UInt64)(h f:Int)(w:LB):Dg:=(Ex (Fq (Gi h (As 8 (Ed f 7))) 0)).bind λ_=>S_ (Dj m (GI.toZ (Gi h (As 8 (Ed f 7)))).toNat) (As h (Gi h (As 8 (Ed f 7)))) (Ae f (Gi h (As 8 (Ed f 7)))) w
def yR S_:=Ake S_
def Al2 (j19:Bcs)(b:UInt64)(a:Int)(m:UInt64)(h f:Int)(u:LB):Dg:=(Af u (As (Aa u) 1)).bind λ_=>(Ex (Fq (Gi h (As 8 (Ed f 7))) 0)).bind λ_=>(Ex (Fq (Ed f 7) 0)).bind λ_=>(Af u (As (Aa u) 1)).bind λad=>(Af u (As (Aa u) 1)).bind λ_=>Option.bind (Ml u (As (Aa u) 1) (gor ad (Fi (Al (Ed m (As (Fi (1:UInt64) (GI.toZ (Gi h (As 8 (Ed f 7)))).toNat) 1)):UInt8) (GI.toZ (Ed f 7)).toNat))) λw=>j19 m h f w
def sC S_ b a:=Al2 (yR S_ b a) b a
def sI(j18:Bcs)(j21:Int->LB->Dg)(b:UInt64)(a:Int)(m:UInt64)(h f:Int)(o:LB):Dg:=if(Dr h 0)then
if(geq (Ed f 7) 0)then(Ax o ([(0:UInt8)]:LB)).bind λaa=>j18 m h f aa
else
j18 m h f o
else
j21 f o
def IA:Nat->UInt64->Int->Int->LB->Dg
|0,_,_,_,_=>none
|z+1,c,d,e,i=>sI (sC (IA z) G w9) rH G w9 c d e i
def Axu b a:=IA b a Ap
def Aq1:Dg:=some (i,c,0)
def uK:=Aq1
def Acq (ZS:Bcs)(b:UInt64)(a:Int)(n:UInt64)(k g:Int)(ab:LB):Dg:=(Ex (Fq (Gi k (As 8 (Ed g 7))) 0)).bind λ_=>ZS (Dj n (GI.toZ (Gi k (As 8 (Ed g 7)))).toNat) (As k (Gi k (As 8 (Ed g 7)))) (Ae g (Gi k (As 8 (Ed g 7)))) ab
def Ax8 ZS:=Acq ZS
def Arj(j26:Bcs)(b:UInt64)(a:Int)(n:UInt64)(k g:Int)(v:LB):Dg:=(Af v (As (Aa v) 1)).bind λ_=>(Ex (Fq (Gi k (As 8 (Ed g 7))) 0)).bind λ_=>(Ex (Fq (Ed g 7) 0)).bind λ_=>(Af v (As (Aa v) 1)).bind λae=>(Af v (As (Aa v) 1)).bind λ_=>Option.bind (Ml v (As (Aa v) 1) (gor ae (Fi (Al (Ed n (As (Fi (1:UInt64) (GI.toZ (Gi k (As 8 (Ed g 7)))).toNat) 1)):UInt8) (GI.toZ (Ed g 7)).toNat))) λab=>j26 n k g ab
def sZ ZS b a:=Arj (Ax8 ZS b a) b a
def qI(j25:Bcs)(j28:Int->LB->Dg)(b:UInt64)(a:Int)(n:UInt64)(k g:Int)(p:LB):Dg:=if(Dr k 0)then
if(geq (Ed g 7) 0)then(Ax p ([(0:UInt8)]:LB)).bind λw=>j25 n k g w
else
j25 n k g p
else
j28 g p
def IH:Nat->UInt64->Int->Int->LB->Dg
|0,_,_,_,_=>none
|z+1,c,d,e,i=>qI (sZ (IH z) G w9) uK G w9 c d e i
def Aav b a:=IH b a Ap
abbrev Bdg:=UInt64->Int->UInt64->Int->Int->LB->Dg
def B2(j15:Bdg)(j22:Bdg)(ac:LB)(y:Int)(b:UInt64)(a:Int):Dg:=(Jp ac y).bind λaf=>if(Az af 0)then
some (([]:LB),0,8)
else
if((Bu a 0)||(Dr a 64))then
some (([]:LB),0,2)
else
if(Bu a 64)then(Ex (Fq a 0)).bind λ_=>if(Az (Dj b (GI.toZ a).toNat) 0)then
some (([]:LB),0,16)
else
if(Dr (Ae y a) 330000)then
some (([]:LB),0,18)
else(TK ac y).bind λ(ag,ah)=>j15 b a b a ah ag
else
if(Dr (Ae y a) 330000)then
some (([]:LB),0,18)
else(TK ac y).bind λ(aa,ai)=>j22 b a b a ai aa
def UO:=B2 Axu Aav
def YY:Bcj:=if((Bu c 0)||(Dr c 48))then
some (0,2)
else
some ((Gi (Ae c 1) 48),0)
def iF:Bd8:=(Jp z c).bind λe=>if(Az e 0)then
some (([]:LB),0,e)
else(YY d).bind λ(i,j)=>if(Az j 0)then
some (([]:LB),0,j)
else(Ex (Fq d 0)).bind λ_=>(UO z c (As (Fi (1:UInt64) (GI.toZ d).toNat) 1) i).bind λ(A,B,C)=>some (A,B,C)
abbrev XK:=Option (LB×Int×Int)
def Aju:XK:=(iF z c d).bind λ(e,i,j)=>if(Az j 0)then
some (([]:LB),0,j)
else(UO e i (Al X:UInt64) y5).bind λ(A,B,C)=>some (A,B,C)
def Ac1:=Aju
def Azx(j2:LB->Int->Int->UInt32->Int->XK)(b:LB)(f:Int)(g:UInt32)(a:Int):XK:=(Jp b f).bind λk=>if(Az k 0)then
some (([]:LB),0,k)
else
if((Bu a 0)||(Dr a 24))then
some (([]:LB),0,2)
else(Ex (Fq a 0)).bind λ_=>(Ex (Fq a 0)).bind λ_=>(IQ g a).bind λaa=>if aa then
j2 b f 48 g 32
else
j2 b f (Al (Dj g (GI.toZ a).toNat):Int) (Ed g (As (Fi (1:UInt32) (GI.toZ a).toNat) 1)) a
def oF:=Azx Ac1
abbrev Hi:=Option (LB×Int×Int×Int×UInt64×UInt64×Int)
def NB:Hi:=(
(
some (Ba5,c,d,j,(Ae G (As (Al X:UInt64) (Dj G (GI.toZ (4:UInt64)).toNat))),l8,0)))
def jC:=NB
def mS(j10:Jz3 (UInt64->UInt32->UInt64->LB->Hi))(b:UInt32)(k n:Int)(a o:UInt64)(m:LB)(u:Int):Hi:=j10 k u n a b o m
def Aef:=mS jC
def lW(j9:UInt32->Int->Int->UInt64->UInt64->LB->Int->Hi)(b:UInt32)(f:Int)(a:UInt64)(k:Int)(m:LB)(n:Int)(o:UInt64):Hi:=if(Dr f 0)then(Ex (Fq f 0)).bind λ_=>if(Bu (Ae a (As (Al b:UInt64) (Dj a (GI.toZ (4:UInt64)).toNat))) (Fi (16:UInt64) (GI.toZ f).toNat))then
j9 b k n a o m (As f 1)
else
if(Bu f 24)then(Ex (Fq f 0)).bind λ_=>if(Dr (Ae a (As (Al b:UInt64) (Dj a (GI.toZ (4:UInt64)).toNat))) (Fi (32:UInt64) (GI.toZ f).toNat))then
j9 b k n a o m (Ae f 1)
else
j9 b k n a o m f
else
j9 b k n a o m f
else
if(Bu f 24)then(Ex (Fq f 0)).bind λ_=>if(Dr (Ae a (As (Al b:UInt64) (Dj a (GI.toZ (4:UInt64)).toNat))) (Fi (32:UInt64) (GI.toZ f).toNat))then
j9 b k n a o m (Ae f 1)
else
j9 b k n a o m f
else
j9 b k n a o m f
def QH:=lW Aef
def lU(j8:UInt32->Int->UInt64->Int->LB->Int->UInt64->Hi)(b:UInt32)(f h:Int)(a g:UInt64)(ac k:Int)(m:LB):Hi:=if(Az ac 0)then
some (([]:LB),0,0,0,0,0,ac)
else(KY f h a g b).bind λ(ag,p)=>if(geq ag 1)then
if(Dr h 0)then(Ex (Fq h 0)).bind λ_=>if(Bu (Ae g (As (Al p:UInt64) (Dj g (GI.toZ (4:UInt64)).toNat))) (Fi (16:UInt64) (GI.toZ h).toNat))then
j8 b f a k m (As h 1) (Ae g (As (Al p:UInt64) (Dj g (GI.toZ (4:UInt64)).toNat)))
else
if(Bu h 24)then(Ex (Fq h 0)).bind λ_=>if(Dr (Ae g (As (Al p:UInt64) (Dj g (GI.toZ (4:UInt64)).toNat))) (Fi (32:UInt64) (GI.toZ h).toNat))then
j8 b f a k m (Ae h 1) (Ae g (As (Al p:UInt64) (Dj g (GI.toZ (4:UInt64)).toNat)))
else
j8 b f a k m h (Ae g (As (Al p:UInt64) (Dj g (GI.toZ (4:UInt64)).toNat)))
else
j8 b f a k m h (Ae g (As (Al p:UInt64) (Dj g (GI.toZ (4:UInt64)).toNat)))
else
if(Bu h 24)then(Ex (Fq h 0)).bind λ_=>if(Dr (Ae g (As (Al p:UInt64) (Dj g (GI.toZ (4:UInt64)).toNat))) (Fi (32:UInt64) (GI.toZ h).toNat))then
j8 b f a k m (Ae h 1) (Ae g (As (Al p:UInt64) (Dj g (GI.toZ (4:UInt64)).toNat)))
else
j8 b f a k m h (Ae g (As (Al p:UInt64) (Dj g (GI.toZ (4:UInt64)).toNat)))
else
j8 b f a k m h (Ae g (As (Al p:UInt64) (Dj g (GI.toZ (4:UInt64)).toNat)))
else
j8 b f a k m h g
def mT:=lU QH
def mZ(j7:UInt32->Int->Int->UInt64->UInt64->Int->Int->LB->Hi)(b:UInt32)(v:LB)(w f h:Int)(a g:UInt64):Hi:=(KY f h a g b).bind λ(ad,ae)=>(UO v w (Al ad:UInt64) 1).bind λ(y,aa,ab)=>if((geq ab 0)&&(geq ad 0))then(UO y aa (Al ae:UInt64) f).bind λ(ah,ai,aj)=>j7 b f h a g aj ai ah
else
if(geq ab 0)then(oF y aa ae h).bind λ(ak,al,am)=>j7 b f h a g am al ak
else
j7 b f h a g ab aa y
def Baa:=mZ mT
def nG(j6:UInt32->LB->Jz3 (UInt64->UInt64->Hi))(v:LB)(w f h:Int)(a g:UInt64)(b:UInt32):Hi:=(Jp v w).bind λan=>if(Az an 0)then
some (([]:LB),0,0,0,0,0,8)
else(YW f h a g).bind λao=>if(Az ao 0)then
some (([]:LB),0,0,0,0,0,8)
else
j6 b v w f h a g
def oC:=nG Baa
abbrev Bj:=Option (LB×Int)
def As5(v:Int)(p:LB):Bj:=(Xv p).bind λ(af,ac)=>if(Az ac 0)then
some (([]:LB),ac)
else(Mf (Al af:UInt64) 4).bind λ(m,h)=>if(Az h 0)then
some (([]:LB),h)
else(Cd ([p,m]:Bb2)).bind λag=>some (ag,0)
def KQ:=As5
abbrev Bcm:=Int-> (List (Int×Int×UInt64×UInt64×Unit))->Int->LB->Bj
def Ard(Uu:Bcm)(b:LU)(a g f:Int)(n:Bb5)(k:Int)(w:LB):Bj:=Uu (Ae f 1) n k w
def MU Uu:=Ard Uu
abbrev Bd3:=Int->Int->LB->Bj
def Asr(yu:Bd3)(h:Int)(b:LU)(f a g:Int)(n:Bb5)(m:LB)(o k:Int)(ab:LB):Bj:=yu (Ae o 1) (Ae k 1) ab
def Arl yu:=Asr yu
def Arc(j48:Bd3)(h:Int)(b:LU)(f a g:Int)(n:Bb5)(m:LB)(o k:Int)(y:LB):Bj:=(Af m (Ey o 8)).bind λ_=>(Af m (Ey o 8)).bind λah=>(Ex (Fq (Jl o 8) 0)).bind λ_=>(Af y (Ey k 8)).bind λ_=>(Ex (Fq (Jl k 8) 0)).bind λ_=>(Af y (Ey k 8)).bind λai=>(Af y (Ey k 8)).bind λ_=>Option.bind (Ml y (Ey k 8) (gor ai (Fi (Ed (Dj ah (GI.toZ (Jl o 8)).toNat) 1) (GI.toZ (Jl k 8)).toNat))) λab=>j48 o k ab
def KA yu h b f a g n m:=Arc (Arl yu h b f a g n m) h b f a g n m
def MQ(j47:Bd3)(j50:Bcm)(b:LU)(a g h f:Int)(n:Bb5)(m:LB)(o k:Int)(w:LB):Bj:=if(Bu o h)then
if(geq (Jl k 8) 0)then(Ax w ([(0:UInt8)]:LB)).bind λaj=>j47 o k aj
else
j47 o k w
else
j50 f n k w
def Ps(Uu:Bcm)(b:LU)(a g h f:Int)(n:Bb5)(m:LB):Nat->Int->Int->LB->Bj
|0,_,_,_=>none
|q+1,o,k,w=>MQ (KA (Ps Uu b a g h f n m q) h b f a g n m) (MU Uu b a g) b a g h f n m o k w
def KU Uu b a g h f n m:=Ps Uu b a g h f n m Ap
def KX(j44:Int->Int-> (List (Int×Int×UInt64×UInt64×Unit))->LB->Int->Int->LB->Bj)(j52:Int->LB->Bj)(b:LU)(a g f:Int)(u:Bb5)(v:Int)(p:LB):Bj:=if(Bu f (Aa b))then(Af b f).bind λ_=>(Af b f).bind λak=>(Ex (Az a 0)).bind λ_=>(Af u (Jl f a)).bind λ_=>(Af u (Jl f a)).bind λaa=>(oC ([]:LB) 0 aa.1 aa.2.1 aa.2.2.1 aa.2.2.2.1 ak).bind λ(m,h,al,am,an,ao,ad)=>if(Az ad 0)then
some (([]:LB),ad)
else(Ex (Az a 0)).bind λ_=>(Af u (Jl f a)).bind λ_=>(Ml u (Jl f a) (al,am,an,ao,())).bind λn=>j44 h f n m 0 v p
else
j52 v p
def Pm:Nat->Int-> (List (Int×Int×UInt64×UInt64×Unit))->Int->LB->Bj
|0,_,_,_,_=>none
|z+1,c,d,e,i=>KX (KU (Pm z) l9 Baq Bas) KQ l9 Baq Bas c d e i
def Ara b a g:=Pm b a g Ap
def NW(j27:LU->Jz3 ( (List (Int×Int×UInt64×UInt64×Unit))->Int->LB->Bj))(a g:Int)(ap aq:LX):Bj:=(JZ a g ap aq).bind λ(b,ae)=>if(Az ae 0)then
some (([]:LB),ae)
else(BK).bind λar=>j27 b a g 0 ar 0 ([]:LB)
def CG:=NW Ara
def Ty(b f g:Int)(h k:LB)(m:LX)(n:Bb2)(o:LB)(p:Bool)(u a:Int):Bcw:=some (b,f,g,h,([]:LB),([]:LX),([]:Bb2),([]:LB),false,a,a)
abbrev Bl:=Option (Int×Int×Int×LB×LB×LX×(List LB)×LB×Bool×Int×Int)
def Axx:Bl:=some (c,d,j,i,l5,U,L,l7,E,I,0)
def WK:=Axx
abbrev Bc4:=Int->LB->LX-> (List LB)->Bl
def DH(Za:Bc4)(p:Int)(n:LB)(a b g:Int)(f:LB)(h:Bool)(k o:Int)(m:LB)(u:Int)(ao:LB)(ap:LX)(aq:Bb2):Bl:=Za (Ae u 1) ao ap aq
def Nf Za:=DH Za
def Ay4(j24:Bc4)(p:Int)(n:LB)(a b g:Int)(f:LB)(h:Bool)(k o:Int)(m:LB)(u ad:Int)(ae:LB)(af:LX)(ag:Bb2):Bl:=if(Az ad 0)then(Ty a b g f ae af ag m h k ad).bind λ(ar,au,av,aw,ax,ay,az,ba,bb,bc,bd)=>some (ar,au,av,aw,ax,ay,az,ba,bb,bc,bd)
else
j24 u ae af ag
def Ku Za p n a b g f h k o m:=Ay4 (Nf Za p n a b g f h k o m) p n a b g f h k o m
abbrev Bcx:=Int->Int->LB->LX-> (List LB)->Bl
def DC(j23:Bcx)(p:Int)(n:LB)(a b g:Int)(f:LB)(h:Bool)(k o:Int)(m:LB)(u:Int)(ab:LX)(v:Bb2)(be:Int):Bl:=j23 u be ([]:LB) ab v
def DY Za p n a b g f h k o m:=DC (Ku Za p n a b g f h k o m) p n a b g f h k o m
def VQ(j23:Bcx)(p:Int)(n:LB)(a b g:Int)(f:LB)(h:Bool)(k o:Int)(m:LB)(u:Int)(ac:Bb2):Bl:=j23 u 0 ([]:LB) ([]:LX) ac
def TA Za p n a b g f h k o m:=VQ (Ku Za p n a b g f h k o m) p n a b g f h k o m
def Ay0(j23:Bcx)(j21:Int->LX-> (List LB)->Int->Bl)(j22:Int-> (List LB)->Bl)(p:Int)(n:LB)(a b g:Int)(f:LB)(h:Bool)(k o:Int)(m:LB)(u:Int)(aa:LB)(w:LX)(v:Bb2):Bl:=(Qm b aa).bind λ(bf,ah)=>if(Az ah 0)then
j23 u ah aa w v
else(Ax w bf).bind λab=>if(Bu (Aa ab) (Ch o a))then
j23 u 0 ([]:LB) ab v
else(Oe f).bind λ(bg,ai)=>if(Az ai 0)then
j21 u ab v ai
else(CG a b bg ab).bind λ(bh,aj)=>if(Az aj 0)then
j21 u ab v aj
else(Ax v ([bh]:Bb2)).bind λac=>j22 u ac
def SE Za p n a b g f h k o m:=Ay0 (Ku Za p n a b g f h k o m) (DY Za p n a b g f h k o m) (TA Za p n a b g f h k o m) p n a b g f h k o m
def UW(j24:Bc4)(j23:Bcx)(j20:Bc4)(j26:Jz3 (LB->Bool->Int->LB->LX-> (List LB)->LB->Bl))(p:Int)(n:LB)(a b g:Int)(f:LB)(h:Bool)(k o:Int)(m:LB)(u:Int)(y:LB)(w:LX)(v:Bb2):Bl:=if(Bu u (Aa n))then(Af n u).bind λbi=>(Ax y ([bi]:LB)).bind λaa=>if(Bu (Aa aa) p)then
j24 u aa w v
else(Va a b g f aa w v m h k o).bind λbj=>(IS a b g f aa w v m h k (Ae (Aa v) 1) (Ae bj 1)).bind λbk=>if(!bk)then
j23 u 18 aa w v
else
j20 u aa w v
else
j26 a b g f h k y w v m
def Ks:Nat->Int->LB->LX-> (List LB)->Bl
|0,_,_,_,_=>none
|z+1,d,e,j,A=>UW (Nf (Ks z) c i C Z l6 R E I o8 l5) (Ku (Ks z) c i C Z l6 R E I o8 l5) (SE (Ks z) c i C Z l6 R E I o8 l5) WK c i C Z l6 R E I o8 l5 d e j A
def Ayz p n a b g f h k o m:=Ks p n a b g f h k o m Ap
def cP(j14:Int->LB->Jz3 (LB->Bool->Int->Int->LB->Int->LB->LX-> (List LB)->Bl))(bl bm bn:Int)(bp bq:LB)(br:LX)(bs:Bb2)(bt:LB)(bu:Bool)(bv:Int)(n:LB):Bl:=(FA bl bm bn bp bq br bs bt bu bv).bind λ(a,b,g,f,ak,al,am,m,h,k,o,an)=>if(Az an 0)then
some (a,b,g,f,ak,al,am,m,h,k,an)
else(Zz a b).bind λp=>j14 p n a b g f h k o m 0 ak al am
def XM:=cP Ayz
def RH:Bcj:=if(Dr (Aa z) 64)then
some (0,2)
else
if(geq (Aa z) 0)then
some (1,0)
else
some (2,0)
abbrev Lc:=Option (LB×Int)
def Abd:Lc:=(Xv z).bind λ(c,d)=>(Mf (Al c:UInt64) 4).bind λ(e,i)=>(Ax z e).bind λj=>some (j,0)
def cK:=Abd
def cH(j6:LB->Lc)(Qw:Int->LB->Lc)(b f g h k m:Int)(a:LB):Lc:=if(Bu m 5)then(Af ([b,f,g,h,k]:LI) m).bind λw=>(Af ([(2:Int),(2:Int),(2:Int),(4:Int),(4:Int)]:LI) m).bind λy=>(Mf (Al w:UInt64) y).bind λ(n,v)=>(Ax a n).bind λo=>Qw (Ae m 1) o
else
j6 a
def Wf:Nat->Int->LB->Lc
|0,_,_=>none
|z+1,e,i=>cH cK (Wf z) c d j D F e i
def Aby b f g h k:=Wf b f g h k Ap
def cR(j4:Jz6 (LB->Lc))(b f g h k:Int):Lc:=(HW b f g h k).bind λp=>if(Az p 0)then
some (([]:LB),p)
else
j4 b f g h k 0 ([(84:UInt8),(84:UInt8),(65:UInt8),(49:UInt8)]:LB)
def YM:=cR Aby
abbrev Fp:=Option (LB×Int)
def Aat:Fp:=some (z,0)
def Ac6:=Aat
def Abf(j14:LB->Fp)(b:LB):Fp:=(Xv b).bind λ(m,u)=>(Mf (Al m:UInt64) 4).bind λ(n,v)=>(Ax b n).bind λg=>j14 g
def aQ:=Abf Ac6
def Acn(bk8:Int->LB->Fp)(a:LI)(f:Int)(h:LB):Fp:=bk8 (Ae f 1) h
def bJ bk8:=Acn bk8
def jH(j11:Int->LB->Fp)(j13:LB->Fp)(a:LI)(f:Int)(b:LB):Fp:=if(Bu f (Aa a))then(Af a f).bind λo=>(Mf (Al o:UInt64) 4).bind λ(p,w)=>(Ax b p).bind λh=>j11 f h
else
j13 b
def Ze:Nat->Int->LB->Fp
|0,_,_=>none
|z+1,c,d=>jH (bJ (Ze z) A) aQ A c d
def Avj a:=Ze a Ap
def eL(j8:LI->Int->LB->Fp)(a:LI):Fp:=(Ta a).bind λk=>if(Az k 0)then
some (([]:LB),k)
else
j8 a 0 ([]:LB)
def PH:=eL Avj
abbrev Gw:=Option (LB×Int)
def GJ(f g h:Int)(b k:LB)(m:LX)(a:Bb2)(n:LB)(o:Bool)(p:Int)(u:LB)(v:LI):Gw:=(PH v).bind λ(aa,y)=>if(Az y 0)then
some (([]:LB),y)
else(
(Ax u aa).bind λab=>(Cd a).bind λac=>(Ax ab ac).bind λad=>some (ad,0))
def bI:=GJ
def bB(j8:Jz3 (LB->LB->LX-> (List LB)->LB->Bool->Int->LB->LI->Gw))(bk6:Int->LI->Gw)(a:Bb2)(f g h:Int)(b k:LB)(m:LX)(n:LB)(o:Bool)(p:Int)(u:LB)(w:Int)(v:LI):Gw:=if(Bu w (Aa a))then(Af a w).bind λai=>(Ax v ([(Aa ai)]:LI)).bind λaj=>bk6 (Ae w 1) aj
else
j8 f g h b k m a n o p u v
def Wq:Nat->Int->LI->Gw
|0,_,_=>none
|z+1,c,d=>bB bI (Wq z) L p9 Bat N y8 Ba8 Bau Ba9 Bbv Bbw Bbx c d
def Abv a f g h b k m n o p u:=Wq a f g h b k m n o p u Ap
def cM(j6:(List LB)->Jz3 (LB->LB->LX->LB->Bool->Int->LB->Int->LI->Gw))(f g h:Int)(b k:LB)(m:LX)(a:Bb2)(n:LB)(o:Bool)(p:Int)(u:LB):Gw:=j6 a f g h b k m n o p u 0 ([]:LI)
def Aa8:=cM Abv
def aD(j5:Jz3 (LB->LB->LX-> (List LB)->LB->Bool->Int->LB->Gw))(f g h:Int)(b k:LB)(m:LX)(a:Bb2)(n:LB)(o:Bool)(p ak:Int):Gw:=(RH b).bind λ(al,ae)=>if(Az ae 0)then
some (([]:LB),ae)
else(YM al f g h ak).bind λ(af,ag)=>if(Az ag 0)then
some (([]:LB),ag)
else
if(b !=([]:LB))then(IL b).bind λ(am,ah)=>if(Az ah 0)then
some (([]:LB),ah)
else(Ax af am).bind λan=>j5 f g h b k m a n o p an
else
j5 f g h b k m a n o p af
def ZJ:=aD Aa8
abbrev Kt:=Option (Int×Int×Int×LB×LB×LX×(List LB)×LB×Bool×Int×Int)
def Au3:Kt:=(ZJ d j D i l5 Bau Bbj l7 E I c).bind λ(z,e)=>if(Az e 0)then(Ty d j D i l5 Bau Bbj l7 E I e).bind λ(A,B,C,F,G,J,L,M,N,O,P)=>some (A,B,C,F,G,J,L,M,N,O,P)
else
some (d,j,D,i,([]:LB),([]:LX),([]:Bb2),z,true,0,0)
def BL:=Au3
abbrev Bcy:=Jz4 (LB->Bool->Int->LB->LB->LX-> (List LB)->Kt)
def Au5(j4:Bcy)(o a b g:Int)(f:LB)(k:Bool)(m:Int)(h n:LB)(ad:Int)(ae:LX)(af:Bb2):Kt:=if(Az ad 0)then(Ty a b g f h ae af n k m ad).bind λ(au,v,w,av,aw,ax,y,aa,ay,az,ba)=>some (au,v,w,av,aw,ax,y,aa,ay,az,ba)
else
j4 o a b g f k m h n ae af
def OK:=Au5 BL
def Avx(j3:Jz4 (LB->Bool->Int->LB->LB->Int->LX-> (List LB)->Kt))(j4:Bcy)(bb bc bd:Int)(be bf:LB)(bg:LX)(bh:Bb2)(bi:LB)(bj:Bool)(bk:Int):Kt:=(FA bb bc bd be bf bg bh bi bj bk).bind λ(a,b,g,f,h,p,u,n,k,m,bl,ag)=>if(Az ag 0)then
some (a,b,g,f,h,p,u,n,k,m,ag)
else(Va a b g f h p u n k m bl).bind λo=>if((Dr (Aa h) 0)||(geq o 0))then(Ty a b g f h p u n k m 24).bind λ(bm,bn,bp,bq,br,bs,bt,bu,bv,bw,bx)=>some (bm,bn,bp,bq,br,bs,bt,bu,bv,bw,bx)
else
if(Dr (Aa p) 0)then(Oe f).bind λ(bz,ah)=>if(Az ah 0)then
j3 o a b g f k m h n ah p u
else(CG a b bz p).bind λ(da,ai)=>if(Az ai 0)then
j3 o a b g f k m h n ai p u
else(Ax u ([da]:Bb2)).bind λdb=>j3 o a b g f k m h n 0 ([]:LX) db
else
j4 o a b g f k m h n p u
def JN:=Avx OK BL
abbrev Gg:=Option (LB×Int)
def Atm(aw bf bg bh:Int)(bi:LB)(bj:Bool)(bk:Int)(bl:LB)(bm:LX)(bn:Bb2)(bc:LB):Gg:=if(Az aw 0)then
some (([]:LB),aw)
else
some (bc,0)
def PB:=Atm
abbrev Bcz:=Jz4 (LB->Bool->Int->LB->LX-> (List LB)->LB->Gg)
def Awf(j6:Bcz)(w a y aa ab:Int)(ac:LB)(ad:Bool)(ae b f g:Int)(h k:LB)(m:LX)(n:Bb2)(o:LB)(p:Bool)(u:Int)(af:LB)(ag:LX)(ah:Bb2)(ai:LB):Gg:=j6 w y aa ab ac ad ae af ag ah ai
def Av1:=Awf PB
abbrev Bcg:=Jz5 (LB->Bool->Int->Int->Int->Int->LB->LB->LX-> (List LB)->LB->Bool->Int->LB->LX-> (List LB)->LB->Gg)
def At9(j6:Bcz)(j5:Bcg)(v a aj ak al:Int)(am:LB)(an:Bool)(ao b f g:Int)(h k:LB)(m:LX)(n:Bb2)(o:LB)(p:Bool)(u:Int)(ap:LB)(aq:LX)(ar:Bb2)(au:LB):Gg:=if(Az v 0)then
j6 v 0 0 0 ([]:LB) false 0 ([]:LB) ([]:LX) ([]:Bb2) ([]:LB)
else(JN aj ak al am ap aq ar au an ao).bind λ(y,aa,ab,ac,af,ag,ah,ai,ad,ae,w)=>j5 w a y aa ab ac ad ae b f g h k m n o p u af ag ah ai
def Avq:=At9 PB Av1
def Auv(j4:Bcg)(ax av ay:Int)(az:LX)(bd:LB):Gg:=(XT ax av ay az).bind λba=>if(Az ba 0)then
some (([]:LB),ba)
else(Kn av az).bind λ(be,bb)=>if(Az bb 0)then
some (([]:LB),bb)
else(gN ax av ay bd).bind λ(b,f,g,h,k,m,n,o,p,u,a)=>if(Az a 0)then
some (([]:LB),a)
else(XM b f g h k m n o p u be).bind λ(aj,ak,al,am,ap,aq,ar,au,an,ao,v)=>j4 v a aj ak al am an ao b f g h k m n o p u ap aq ar au
def JJ:=Auv Avq
abbrev Ac:=Option (LB×LB×LB)
def Ag4:Ac:=some (([119,104,97,116]:LB),z,e)
def Yk:=Ag4
def Ahj:Ac:=some (i,z,e)
def Nz:=Ahj
def Agw:Ac:=some (z,i,e)
def Ah8:=Agw
abbrev Bb6:=LB->LB->LB->Ac
def Aj4(j100:Bb6)(g a hr:LB):Ac:=j100 g a hr
def Aki:=Aj4 Nz
def Aj8(j101:Bb6)(ag a al:LB):Ac:=j101 ag a al
def Al7:=Aj8 Ah8
def Aj5(j98:Bb6)(j99:Bb6)(g a:LB)(k:LI):Ac:=(Af k 0).bind λ_=>(Af k 0).bind λhs=>(Bg g 0 hs).bind λht=>(Bk ht).bind λal=>if(Az (0:Int) (0:Int))then(Aj 0).bind λdr=>j98 g a dr
else
if(Dr (Aa al) 100000)then(Aj 4).bind λds=>j98 g a ds
else(strconv_Itoa (Aa al)).bind λag=>j99 ag a al
def Ot:=Aj5 Aki Al7
def Ahk:Ac:=some (z,e,i)
def Aex:=Ahk
def Ag5(j128:Bb6)(aa aj:Int)(ah:UInt8)(ab ai:Int)(g a:LB):Ac:=(Ei ([(Al ah:Int),ab,ai]:LI) aa).bind λdt=>j128 dt g a
def Xn:=Ag5 Aex
def Agn:Ac:=some (z,e,i)
def Ys:=Agn
def Ag7:Ac:=some (z,e,i)
def Yh:=Ag7
def Agv:Ac:=some (z,e,i)
def Xy:=Agv
def Ah0:Ac:=some (i,z,e)
def Oa:=Ah0
def Afi:Ac:=some (z,i,e)
def Ags:=Afi
def Af1(j135:Bb6)(g a hv:LB):Ac:=j135 g a hv
def Afe:=Af1 Oa
def Agm(j136:Bb6)(br a ax:LB):Ac:=j136 br a ax
def Afc:=Agm Ags
def Af0(j133:Bb6)(j134:Bb6)(g a:LB)(k:LI):Ac:=(Af k 0).bind λ_=>(Af k 1).bind λ_=>(Af k 0).bind λhw=>(Af k 1).bind λbs=>(eR g hw (Al bs:UInt8)).bind λ(ax,gs)=>if(Az gs 0)then(Aj gs).bind λhx=>j133 g a hx
else
if(Dr (Aa ax) 100000)then(Aj 4).bind λhy=>j133 g a hy
else(strconv_Itoa (Aa ax)).bind λbr=>j134 br a ax
def Xr:=Af0 Afe Afc
def Aha:Ac:=some (i,z,e)
def Ns:=Aha
def Ag2:Ac:=some (z,i,e)
def Afn:=Ag2
def Agi(j139:Bb6)(g a ka:LB):Ac:=j139 g a ka
def Xt:=Agi Ns
def Afl(j140:Bb6)(ay a am:LB):Ac:=j140 ay a am
def Yr:=Afl Afn
def Afm:Ac:=some (z,e,i)
def Ahr:=Afm
def Af7(j142:Bb6)(bt bu:Int)(g a:LB):Ac:=(Ei ([bt]:LI) bu).bind λdu=>j142 du g a
def Xw:=Af7 Ahr
def Aer:Ac:=some (z,e,i)
def Afo:=Aer
def Ag3:Ac:=some (z,i,e)
def Af9:=Ag3
def Agu(j149:Bb6)(g a dv:LB):Ac:=j149 dv g a
def Ag0:=Agu Afo
def Ahg(j150:Bb6)(bv a az:LB):Ac:=j150 bv a az
def Ahi:=Ahg Af9
def Agg(j147:Bb6)(j148:Bb6)(g a:LB)(p u v:Int)(ac:LX):Ac:=(JJ p u v ac a).bind λ(az,gt)=>if(Az gt 0)then(Aj gt).bind λkb=>j147 g a kb
else
if(Dr (Aa az) 100000)then(Aj 4).bind λkc=>j147 g a kc
else(strconv_Itoa (Aa az)).bind λbv=>j148 bv a az
def Yg:=Agg Ag0 Ahi
def Xu(j146:LB->LB->Jz3 (LX->Ac))(Avf:Int->LX->Ac)(w:LI)(g a:LB)(p u v af:Int)(ac:LX):Ac:=if(Bu af (Aa w))then(Af w af).bind λkd=>(Ax ac ([(Al kd:Int32)]:LX)).bind λke=>Avf (Ae af 1) ke
else
j146 g a p u v ac
def Jh:Nat->Int->LX->Ac
|0,_,_=>none
|z+1,c,d=>Xu Yg (Jh z) A i p8 C Z l6 c d
def Aey w g a p u v:=Jh w g a p u v Ap
def Yt(j144:LI->LB->LB->Jz4 (LX->Ac))(g a:LB)(k:LI)(p u v:Int):Ac:=(Bg k 3 (Aa k)).bind λw=>j144 w g a p u v 0 ([]:LX)
def Ahs:=Yt Aey
abbrev Bee:=LB->LB->Ac
abbrev Bdh:=Int->Int->UInt8->Int->Int->LB->LB->Ac
def Pb(j100:Bb6)(j97:LB->LB->LI->Ac)(j126:Bee)(j127:Bdh)(j129:Bb6)(j130:Bb6)(j131:Bb6)(j135:Bb6)(j132:LB->LB->LI->Ac)(j139:Bb6)(j137:Bb6)(j138:Bb6)(j141:Int->Int->LB->LB->Ac)(j143:LB->LB->LI->Jz3 Ac)(h g a:LB)(k:LI):Ac:=if(h==[99,117,116])then
if((true&&(Fq (Aa k) 1))&&(UA (Aa k) 1))then(Af k 0).bind λ_=>(Af k 0).bind λbw=>if(Bu bw 0)then(Aj 2).bind λaq=>j100 g a aq
else(Af k 0).bind λ_=>(Af k 0).bind λdw=>if(Dr dw (Aa g))then(Aj 2).bind λdx=>j100 g a dx
else
j97 g a k
else
j126 g a
else
if(h==[112,108,97,99,101])then
if((true&&(Fq (Aa k) 1))&&(UA (Aa k) 1))then(Af k 0).bind λ_=>(
(
(
(Af k 0).bind λan=>(
(Mm g a an).bind λ(aj,ah,ab,ai,aa)=>j127 aa aj ah ab ai g a))))
else
j126 g a
else
if(h==[102,114,97,109,101])then
if((true&&(Fq (Aa k) 1))&&(UA (Aa k) 1))then(Af k 0).bind λ_=>(Af k 0).bind λdy=>(Pg g a dy).bind λ(dz,fa)=>(Et dz fa).bind λbn=>j129 bn g a
else
j126 g a
else
if(h==[102,114,111,109])then
if((true&&(Fq (Aa k) 1))&&(UA (Aa k) 1))then(Af k 0).bind λ_=>(Af k 0).bind λfb=>(Xx g a fb).bind λ(fc,fd)=>(Et fc fd).bind λbp=>j130 bp g a
else
j126 g a
else
if(h==[97,116])then
if((true&&(Fq (Aa k) 1))&&(UA (Aa k) 1))then(Af k 0).bind λ_=>(Af k 0).bind λfe=>(WX g a fe).bind λ(ff,fg)=>(Et ff fg).bind λbq=>j131 bq g a
else
j126 g a
else
if(h==[102,108,105,112])then
if((true&&(Fq (Aa k) 2))&&(UA (Aa k) 2))then(Af k 1).bind λ_=>(Af k 1).bind λfh=>if(Bu fh 0)then(Aj 2).bind λfi=>j135 g a fi
else(Af k 1).bind λ_=>(Af k 1).bind λfj=>if(Dr fj 255)then(Aj 2).bind λfk=>j135 g a fk
else
j132 g a k
else
j126 g a
else
if(h==[98,117,114,115,116])then
if((true&&(Fq (Aa k) 2))&&(UA (Aa k) 2))then(Af k 1).bind λ_=>(Af k 1).bind λbs=>if(Bu bs 0)then(Aj 2).bind λfl=>j139 g a fl
else(Af k 0).bind λ_=>(Af k 1).bind λ_=>(Af k 0).bind λfm=>(Af k 1).bind λfn=>(II g fm (Al fn:UInt32)).bind λ(am,bx)=>if(Az bx 0)then(Aj bx).bind λfo=>j137 g a fo
else
if(Dr (Aa am) 100000)then(Aj 4).bind λfp=>j137 g a fp
else(strconv_Itoa (Aa am)).bind λay=>j138 ay a am
else
j126 g a
else
if(h==[119,97,121,115])then
if((true&&(Fq (Aa k) 2))&&(UA (Aa k) 2))then(Af k 0).bind λ_=>(Af k 1).bind λ_=>(Af k 0).bind λfq=>(Af k 1).bind λfs=>(PT a g fq fs).bind λ(bt,bu)=>j141 bt bu g a
else
j126 g a
else
if(h==[99,108,105,112])then
if((true&&(Fq (Aa k) 3))&&(UA (Aa k) 3000))then(Af k 0).bind λ_=>(Af k 1).bind λ_=>(Af k 2).bind λ_=>(Af k 0).bind λp=>(Af k 1).bind λu=>(Af k 2).bind λv=>(
j143 g a k p u v)
else
j126 g a
else
if((false&&(Fq (Aa k) 0))&&(UA (Aa k) 0))then
none
else
j126 g a
def Pr:=Pb Nz Ot Yk Xn Ys Yh Xy Oa Xr Ns Xt Yr Xw Ahs
def CP(j96:LB->LB->LB->LI->Ac)(Aw5:Int->LI->Ac)(h:LB)(m:Bb2)(g a:LB)(y:Int)(k:LI):Ac:=if(Bu y (Aa m))then(Af m y).bind λbw=>(Hh bw).bind λ(kf,kg)=>if(!kg)then
some (([119,104,97,116]:LB),g,a)
else(Ax k ([kf]:LI)).bind λn=>Aw5 (Ae y 1) n
else
j96 h g a k
def Ke:Nat->Int->LI->Ac
|0,_,_=>none
|c+1,d,e=>CP Pr (Ke c) z L l7 y8 d e
def BR h m g a:=Ke h m g a Ap
def Cm(j94:LB-> (List LB)->LB->LB->Int->LI->Ac)(h:LB)(m:Bb2)(g a:LB):Ac:=j94 h m g a 0 ([]:LI)
def Zr:=Cm BR
abbrev Bc5:=LB-> (List LB)->LB->LB->Ac
def Ct(j93:Bc5)(h:LB)(m:Bb2)(kh:LB)(ki:Bool)(g a:LB):Ac:=if ki then
some (kh,g,a)
else
j93 h m g a
def De:=Ct Zr
abbrev Bcf:=LB-> (List LB)->LB->Bool->LB->LB->Ac
def Pq(j92:Bcf)(h:LB)(m:Bb2)(f b:LB):Ac:=j92 h m ([]:LB) false f b
def Zy:=Pq De
def Pu(j92:Bcf)(h:LB)(m:Bb2)(f b kj:LB):Ac:=j92 h m kj true f b
def CA:=Pu De
def Pd(j92:Bcf)(bz h:LB)(m:Bb2)(b ar:LB):Ac:=j92 h m bz true ar b
def AN:=Pd De
def Np(j92:Bcf)(h:LB)(m:Bb2)(f b kk:LB):Ac:=j92 h m kk true f b
def Yu:=Np De
def Nj(j92:Bcf)(da h:LB)(m:Bb2)(b ao:LB):Ac:=j92 h m da true ao b
def Xz:=Nj De
def Gk(j92:Bcf)(db h:LB)(m:Bb2)(f b:LB):Ac:=j92 h m db true f b
def Je:=Gk De
abbrev Bc1:=LB->LB-> (List LB)->LB->LB->Ac
def Xo(j157:Bc1)(h:LB)(m ad:Bb2)(f b:LB):Ac:=(ID ad ([32]:LB)).bind λdb=>j157 db h m f b
def Agy:=Xo Je
def Yw(j156:LB-> (List LB)-> (List LB)->LB->LB->Ac)(Avg:Int-> (List LB)->Ac)(n:Bcb)(h:LB)(m:Bb2)(f b:LB)(ae:Int)(ad:Bb2):Ac:=if(Bu ae (Aa n))then(Af n ae).bind λ_=>(Af n ae).bind λgu=>(strconv_Itoa gu.1).bind λdr=>(Ax dr ([58]:LB)).bind λds=>(strconv_Itoa (Aa gu.2.1)).bind λag=>(Ax ds ag).bind λkl=>(Ax ad ([kl]:Bb2)).bind λkm=>Avg (Ae ae 1) km
else
j156 h m ad f b
def Jf(n:Bcb)(h:LB)(m:Bb2)(f b:LB):Nat->Int-> (List LB)->Ac
|0,_,_=>none
|q+1,ae,ad=>Yw Agy (Jf n h m f b q) n h m f b ae ad
def Ag6 n h m f b:=Jf n h m f b Ap
def Yf(j157:Bc1)(j154:(List (Int×LB×Unit))->LB-> (List LB)->LB->LB->Int-> (List LB)->Ac)(ap:Int)(h:LB)(m:Bb2)(n:Bcb)(f b:LB):Ac:=if(Az ap 0)then(Aj ap).bind λdb=>j157 db h m f b
else
j154 n h m f b 0 ([]:Bb2)
def Aeq:=Yf Je Ag6
abbrev Bdq:=LB-> (List LB)->LB->LB->LB->Ac
def Pa(j92:Bcf)(j82:Bdq)(j83:Bc1)(j151:Bdq)(j152:Bc1)(j153:Int->LB-> (List LB)-> (List (Int×LB×Unit))->LB->LB->Ac)(j91:Bc5)(h:LB)(m:Bb2)(f b:LB):Ac:=if((h==([112,97,115,115,119,111,114,100]:LB))&&(geq (Aa m) 1))then(Af m 0).bind λft=>if(Dr (Aa ft) 64)then(Aj 2).bind λba=>j92 h m ba true f b
else(Af m 0).bind λfu=>j92 h m ([111,107]:LB) true f fu
else
if(((h==([102,105,108,101]:LB))||(h==([97,100,100]:LB)))&&(geq (Aa m) 1))then(Af m 0).bind λfv=>(Qo fv).bind λ(ao,fw)=>if(!fw)then
j92 h m ([119,104,97,116]:LB) true f b
else
if(h==([97,100,100]:LB))then(Cd ([f,ao]:Bb2)).bind λar=>if(Az (0:Int) (0:Int))then(Aj 0).bind λfx=>j82 h m f b fx
else
if(Dr (Aa ar) 100000)then(Aj 4).bind λfy=>j82 h m f b fy
else(strconv_Itoa (Aa ar)).bind λbz=>j83 bz h m b ar
else
if(Az (0:Int) (0:Int))then(Aj 0).bind λfz=>j151 h m f b fz
else
if(Dr (Aa ao) 100000)then(Aj 4).bind λga=>j151 h m f b ga
else(strconv_Itoa (Aa ao)).bind λda=>j152 da h m b ao
else
if((h==([115,99,114,105,112,116]:LB))||(h==([112,101,97,107]:LB)))then(Vj m).bind λ(dc,gb)=>if(!gb)then
j92 h m ([119,104,97,116]:LB) true f b
else
if(h==([112,101,97,107]:LB))then(OL b f dc).bind λ(ak,au,av)=>(Ei ([ak,au]:LI) av).bind λgc=>j92 h m gc true f b
else(
(
(
(Vl b f dc).bind λ(gd,kn,dd,de,df,ko,dg,kp,kq,kr,ks,dh,n,ap)=>j153 ap h m n f b)))
else
j91 h m f b
def Pp:=Pa De CA AN Yu Xz Aeq Zy
def Ala:Ac:=some (([119,104,97,116]:LB),z,e)
def CL:=Ala
def Akn:Ac:=some (([111,107]:LB),z,([]:LB))
def AU:=Akn
def Akg:Ac:=some (z,e,i)
def Alc:=Akg
def Ajl:Ac:=some (z,([]:LB),e)
def Al3:=Ajl
def Aj9(j68:Bb6)(f b ge:LB):Ac:=j68 ge f b
def Zg:=Aj9 Alc
def Aj1(j69:Bee)(bb b:LB):Ac:=j69 bb b
def CB:=Aj1 Al3
def Agl:Ac:=some (z,e,i)
def Yj:=Agl
def Agj:Ac:=some (i,z,e)
def Af8:=Agj
def Ahh(j160:Bb6)(ak bc bd be bf bg bh bi:Int)(bj:UInt8)(bk bl:Int)(f b:LB)(bm:LI):Ac:=if(Az ak 0)then(Aj ak).bind λku=>j160 f b ku
else(pO bc bd be bf bg bh bm bi bj bk bl).bind λ(kv,aw)=>if(Az aw 0)then(Aj aw).bind λgd=>j160 f b gd
else(Gc kv ([10]:LB)).bind λkw=>(Wz kw ([10]:LB) ([32,47,32]:LB)).bind λdj=>j160 f b dj
def Yl:=Ahh Af8
def Agz:Ac:=some (z,e,i)
def Ahf:=Agz
def Afz(j162:Bb6)(dk au:Int)(av:UInt8)(aw dl:Int)(f b:LB):Ac:=(Ei ([au,(Al av:Int),aw,dl]:LI) dk).bind λdj=>j162 dj f b
def Xs:=Afz Ahf
def Afk:Ac:=some (z,e,i)
def Ya:=Afk
def Agt:Ac:=some (z,e,i)
def Yv:=Agt
def Ag1:Ac:=some (z,e,i)
def Yc:=Ag1
def Agk:Ac:=some (z,e,i)
def Yq:=Agk
def Agx:Ac:=some (z,e,i)
def Yi:=Agx
def Oz(j65:LB->Ac)(j66:Bb6)(j67:Bee)(j158:Bb6)(j159:Jz8 (UInt8->Int->Int->LB->LB->LI->Ac))(j161:Bdh)(j163:Bb6)(j164:Bb6)(j165:Bb6)(j166:Bb6)(j167:Bb6)(j80:Bee)(j81:Bc5)(h:LB)(m:Bb2)(f b:LB):Ac:=if(geq (Aa m) 0)then
if(h==[112,97,115,115,119,111,114,100])then
j65 f
else
if(h==[102,105,108,101])then
if(Az (0:Int) (0:Int))then(Aj 0).bind λgf=>j66 f b gf
else
if(Dr (0:Int) (100000:Int))then(Aj 4).bind λba=>j66 f b ba
else(strconv_Itoa 0).bind λbb=>j67 bb b
else
if(h==[104,101,120])then(Et f 0).bind λdi=>j158 di f b
else
if(h==[114,101,112,111,114,116])then(
(
(
(sB f b).bind λ(bc,bd,be,bf,bg,bh,bm,bi,bj,bk,bl,ak)=>j159 ak bc bd be bf bg bh bi bj bk bl f b bm)))
else
if(h==[116,111,108,100])then(
(
(
(FI f b).bind λ(au,av,aw,dl,dk)=>j161 dk au av aw dl f b)))
else
if(h==[115,97,109,112,108,101,115])then(Sk f b).bind λ(dd,de,df,gg,dg)=>(Fy dd de df gg dg).bind λdm=>j163 dm f b
else
if(h==[98,97,100])then(ZC f b).bind λ(gh,gi)=>(Ei gh gi).bind λaq=>j164 aq f b
else
if(h==[115,107,105,112])then(
(
(
(Qv f b 1).bind λ(dh,gj,ap,al,kx,ab)=>(Fy dh gj ap al ab).bind λag=>j165 ag f b)))
else
if(h==[115,105,108,101,110,116])then(
(
(
(Qv f b 2).bind λ(aa,gk,gl,gm,ky,gn)=>(Fy aa gk gl gm gn).bind λdn=>j166 dn f b)))
else
if(h==[119,97,118])then(FC f b).bind λ(go,gp)=>(Et go gp).bind λdp=>j167 dp f b
else
j80 f b
else
j81 h m f b
def Ox:=Oz AU Zg CB Yj Yl Xs Ya Yv Yc Yq Yi CL Pp
def Rb(j64:Bc5)(f b:LB)(o:Bb2):Ac:=(Af o 0).bind λh=>(Bg o 1 (Aa o)).bind λm=>j64 h m f b
def Kx:=Rb Ox
def Jj(f b:LB):List LB->List LB->Option (LB×LB×LB)
|[],o=>Kx f b o
|x::xs,o=>if(x==[])=true then some ([119,104,97,116],f,b)else Option.bind (Ax o [x]) λgq=>Jj f b xs gq
def Fu:Option (LB×LB×LB):=Option.bind (p! 32 i) λc=>Jj z e c []
def Mr:List LB->LB->LB->LB->Option (LB×Int)
|[],b,f,a=>(Ex (decide (Aa a<=17179869184))).bind λ_=>some (a,0)
|g::xs,b,f,a=>(Gc g ([10]:LB)).bind λk=>(Fu b f k).bind λ(m,n,o)=>(Ax m ([10]:LB)).bind λp=>(Ax a p).bind λu=>Mr xs n o u
def Ye:Bcq:=(Qj z).bind λc=>if(Az c 0)then
some (([]:LB),c)
else(L? z).bind λd=>Mr d ([]:LB) ([]:LB) ([]:LB)
def OA:Bb3:=(Ye z).bind λ(c,d)=>some ((geq d 0)&&(c==e))
def Pk:Bb3:=(mL ([99,108,105,112,32,49,32,56,32,49,32,49,32,50,10,115,97,109,112,108,101,115,10,114,101,112,111,114,116,10,102,108,105,112,32,52,53,32,49,10,116,111,108,100,10,115,105,108,101,110,116,10,115,99,114,105,112,116,32,102,52,48,32,100,57,32,102,57,32,101,10,119,104,97,116,10]:LB)).bind λ(a,b)=>if((geq b 0)&&(geq a 8))then(OA ([99,108,105,112,32,49,32,56,32,49,32,49,32,50,10,115,97,109,112,108,101,115,10,114,101,112,111,114,116,10,102,108,105,112,32,52,53,32,49,10,116,111,108,100,10,115,105,108,101,110,116,10,115,99,114,105,112,116,32,102,52,48,32,100,57,32,102,57,32,101,10,119,104,97,116,10]:LB) ([52,54,10,49,32,50,10,102,111,114,109,97,116,32,49,32,99,104,97,110,110,101,108,115,32,49,32,98,105,116,115,32,56,32,114,97,116,101,32,49,32,99,111,117,110,116,32,50,32,47,32,102,114,97,109,101,115,32,51,52,58,32,54,32,54,32,47,32,102,111,117,110,100,32,48,32,48,32,48,32,50,10,52,54,10,50,50,32,53,32,49,32,49,10,49,32,48,10,48,58,48,32,48,58,49,32,50,50,58,48,32,50,50,58,48,10,119,104,97,116,10]:LB)).bind λf=>some f
else
some false
def Lj:Bb1:=if((Dr (Aa z) 3000)||(Dr c 40))then
some 4
else
if(Dr (Aa z) 0)then(Af z (As (Aa z) 1)).bind λd=>if(Az d 10)then
some 12
else
some 0
else
some 0
def CY:=Lj
def Qz(j6:LB->Int->Option Int)(Qw:Bdo)(a:LB)(b f:Int):Bb1:=if(Bu f (Aa a))then(Af a f).bind λg=>if(geq g 10)then
Qw (Ae b 1) (Ae f 1)
else
Qw b (Ae f 1)
else
j6 a b
def Hy:Nat->Int->Int->Option Int
|0,_,_=>none
|c+1,d,e=>Qz CY (Hy c) z d e
def Alz a:=Hy a Ap
def DA(j4:LB->Int->Int->Option Int)(a:LB):Bb1:=j4 a 0 0
def Gf:=DA Alz
abbrev Eu:=Option ((List LB))
def CV:Eu:=some L
def Ra:=CV
def Hw(j6:(List LB)->Eu)(Qw:Int->Int-> (List LB)->Eu)(a:LB)(g b:Int)(f:Bb2):Eu:=if(Bu b (Aa a))then(Af a b).bind λh=>if(geq h 10)then(Bg a g b).bind λk=>(Ax f ([k]:Bb2)).bind λm=>Qw (Ae b 1) (Ae b 1) m
else
Qw g (Ae b 1) f
else
j6 f
def Cf:Nat->Int->Int-> (List LB)->Eu
|0,_,_,_=>none
|c+1,d,e,i=>Hw Ra (Cf c) z d e i
def Am4 a:=Cf a Ap
def CU(j4:LB->Int->Int-> (List LB)->Eu)(a:LB):Eu:=j4 a 0 0 ([]:Bb2)
def Ij:=CU Am4
def Xf:Bb3:=(Gf z).bind λc=>if(Az c 0)then
some (Dr (Aa z) 3500)
else
if(Dr (Aa z) 800)then
some true
else(Ij z).bind λd=>some (Dr (Aa d) 15)
def Od:Bb3:=(Xf z).bind λc=>if(!c)then(Gf z).bind λd=>some (geq d 0)
else
some false
def Ld:Option ((List LB)×Bool):=(Ye z).bind λ(c,d)=>if(Az d 0)then
some (([]:Bb2),false)
else
if(Dr (Aa c) 0)then(Af c (As (Aa c) 1)).bind λe=>if(Az e 10)then
some (([]:Bb2),false)
else(Ij c).bind λi=>some (i,true)
else(Ij c).bind λj=>some (j,true)
def Aj2:Bb3:=some false
def AV:=Aj2
def Pe(j6:Bb3)(Qw:Bc9)(a:LB)(f:Bb2)(b:Int):Bb3:=if(Bu b (Aa f))then(Af f b).bind λg=>if(Fq (Aa a) (Aa g))then(Bg a 0 (Aa g)).bind λh=>(Af f b).bind λk=>if(h==k)then
if(geq (Aa a) (Aa g))then
some true
else(Af a (Aa g)).bind λm=>if(geq m 32)then
some true
else
Qw (Ae b 1)
else
Qw (Ae b 1)
else
if false then
if(geq (Aa a) (Aa g))then
some true
else(Af a (Aa g)).bind λn=>if(geq n 32)then
some true
else
Qw (Ae b 1)
else
Qw (Ae b 1)
else
j6
def Hg:Nat->Int->Option Bool
|0,_=>none
|c+1,d=>Pe AV (Hg c) z L d
def Al6 a f:=Hg a f Ap
def Zb(j4:LB-> (List LB)->Int->Option Bool)(a:LB)(f:Bb2):Bb3:=j4 a f 0
def Na:=Zb Al6
def Aj6:Bb4:=some z
def AY:=Aj6
def Oq(j6:LB->Option (LB))(Qw:LB->Int->Option (LB))(a:Bb2)(b:LB)(f:Int):Bb4:=if(Bu f (Aa a))then(Af a f).bind λg=>(Ax g ([10]:LB)).bind λh=>(Ax b h).bind λk=>Qw k (Ae f 1)
else
j6 b
def Gz:Nat->LB->Int->Option (LB)
|0,_,_=>none
|z+1,c,d=>Oq AY (Gz z) L c d
def Akf a:=Gz a Ap
def Zs:Bb4:=Bbe Ba6 ([]:LB) 0
def Ut:=Zs Akf
def Am7:Bb3:=some true
def FH:=Am7
def So(j6:Bb3)(Qw:Bc9)(a b:Bb2)(f:Int):Bb3:=if(Bu f (Aa a))then(Af a f).bind λg=>(Af b f).bind λh=>if(g !=h)then
some false
else
Qw (Ae f 1)
else
j6
def Jc:Nat->Int->Option Bool
|0,_=>none
|z+1,c=>So FH (Jc z) L Bam c
def Ana a b:=Jc a b Ap
def Rv(j4:(List LB)-> (List LB)->Int->Option Bool)(a b:Bb2):Bb3:=if(Az (Aa a) (Aa b))then
some false
else
j4 a b 0
def Rj:=Rv Ana
def Jn:Bb3:=(Ut L).bind λz=>(Ld z).bind λ(c,d)=>if(E&&d)then(Rj c Bam).bind λe=>some e
else
some false
def Qd:=Jn
def Fw(j6:Bool-> (List LB)-> (List LB)->Option Bool)(Qw:Int-> (List LB)-> (List LB)->Option Bool)(k:Bool)(b h:Bb2)(a:Int)(f g:Bb2):Bb3:=if(Bu a (Aa b))then(Af b a).bind λ_=>(Af b a).bind λu=>(Na u ([([104,101,120]:LB),([114,101,112,111,114,116]:LB),([116,111,108,100]:LB),([112,108,97,99,101]:LB),([115,97,109,112,108,101,115]:LB),([98,97,100]:LB),([115,107,105,112]:LB),([115,105,108,101,110,116]:LB),([102,114,97,109,101]:LB),([102,114,111,109]:LB),([97,116]:LB),([119,97,118]:LB),([119,97,121,115]:LB),([115,99,114,105,112,116]:LB),([112,101,97,107]:LB)]:Bb2)).bind λv=>if(!v)then(Af b a).bind λ_=>(Af h a).bind λ_=>(
(Af b a).bind λn=>(
(
(Ax f ([n]:Bb2)).bind λw=>(Af h a).bind λy=>(Ax g ([y]:Bb2)).bind λm=>Qw (Ae a 1) w m)))
else
Qw (Ae a 1) f g
else
j6 k f g
def Ea:Nat->Int-> (List LB)-> (List LB)->Option Bool
|0,_,_,_=>none
|z+1,c,d,e=>Fw Qd (Ea z) E L Bam c d e
def Aaj k b h:=Ea k b h Ap
def Jq(j4:Bool-> (List LB)-> (List LB)->Int-> (List LB)-> (List LB)->Option Bool)(aa:LB):Bb3:=(Pk).bind λk=>(Od aa).bind λah=>if((!ah)||(!k))then
some k
else(Ij aa).bind λb=>(Ld aa).bind λ(h,ai)=>if((!ai)||(Az (Aa h) (Aa b)))then
some false
else
j4 k b h 0 ([]:Bb2) ([]:Bb2)
def Hu:=Jq Aaj
end Go.Pl
