/- A part of a proof (see the text that ends in Proof). No conditions. -/
import Derived.Test.YtniihmolajmfcaaGreatDoorCvBA
import Derived.Lib.AtoiAllCases
set_option linter.unusedVariables false
namespace Go.Pl
open Go Go.Lv
abbrev Jz3(R:Type):=Int->Int->Int->R
abbrev Jz4(R:Type):=Int->Int->Int->Int->R
abbrev Jz5(R:Type):=Int->Int->Int->Int->Int->R
abbrev Jz6(R:Type):=Int->Int->Int->Int->Int->Int->R
abbrev Jz7(R:Type):=Int->Int->Int->Int->Int->Int->Int->R
abbrev Jz8(R:Type):=Int->Int->Int->Int->Int->Int->Int->Int->R
abbrev Jz9(R:Type):=Int->Int->Int->Int->Int->Int->Int->Int->Int->R
abbrev Jz10(R:Type):=Int->Int->Int->Int->Int->Int->Int->Int->Int->Int->R
abbrev Jz11(R:Type):=Int->Int->Int->Int->Int->Int->Int->Int->Int->Int->Int->R
abbrev LB:=List UInt8
abbrev LI:=List Int
abbrev LX:=List Int32
abbrev LU:=List UInt32
abbrev LQ:=List UInt64
abbrev Bi3:=List LB
abbrev Bks:=Bool->Option Int
abbrev Bi2:=Option Int
abbrev Bkl:=List LI
abbrev Bja:=List (UInt8×Int×Unit)
variable(c e:LB)(B:LI)(z d j C E O y5 Bht Bhu Bhv Bie:Int)(L:LI)(l:LX)(Bhw:LI)(i l9:LB)(A V o9 Bh4 Bh5:Int)(Bh1:LI)(Bh6:Int)(R:LB)(F:Bool)(I p8:Int)(Bih:LI)(T:LX)(N:Bi3)(U:LB)(Bhl:Bool)(o7 Bhs:Int)(G:UInt8)(J P Bii Bij Bik Bil:Int)(Bim:Bi3)(Bio Bip Biq:Int)(Y:LB)(Bhx:Bool)(Bh7:Int)(Bh8:LB)(y7:LX)(Bh9:LB)(Bir:Bool)(Bia:Int)(Bis:LB)(Bh2:Bi3)(Biu:LB)(Bhm:LB->Option (LB))(Bhn:Int->LB->Option (LB))(Bhy Bib:Int)(D:UInt64)(Z:Int)(l7:LB)(X:UInt32)(l5:UInt64)(Bh3:LB)(Biv:LX)(p9 Biw Bix:Int)(Bif Biy:UInt64)(M:Int32)(Bho:Int)(w9 q9:LX)(y8:Int32)(Bhz:Bi3)(x9:Int)(y9:LB)(l6:LU)(Bhp Bhq:Int)(Bic:LX)(Biz:LQ)(o8:Bks)(Bhr:Bool)(Bh0:Int)(Bi0:Bi2)(Bi1:Bool)(Bid:Bkl)(r9:Bja)
def strings_Count:Bi2:=match e with
|[z]=>some (Int.ofNat (c.count z))
|_=>none
abbrev Bi4:=Option Bool
def Ei:Bi4:=if(Ha (Ad c) (Ad e))then(Cb c (Ap (Ad c) (Ad e)) (Ad c)).bind λz=>some (z==e)
else
some false
def Ub:Bi4:=(Ei c e).bind λz=>some z
def Ac5:Bi2:=if(c !=([]:LB))then(Ub c ([10]:LB)).bind λz=>if(!z)then
some 12
else
some 0
else
some 0
def Ac3:=Ac5
def Aba(j2:LB->Option Int)(a:LB):Bi2:=if(Eg (Ad a) 3000)then
some 4
else(strings_Count a ([10]:LB)).bind λf=>if(Eg f 40)then
some 4
else
j2 a
def Sy:=Aba Ac3
abbrev Bjg:=Option (Int×Int)
def Amf:Bjg:=(Sy c).bind λz=>if(Bg z 0)then
some (0,z)
else(strings_Count c ([10]:LB)).bind λd=>some (d,0)
def Mf:LB->UInt8->Int
|[],_=> -1
|b::l,c=>if(b==c)=true then 0 else if(Mf l c== -1)=true then -1 else Mf l c+1
def strings_Index:Bi2:=match e with
|[z]=>some (Mf c z)
|_=>none
def stringslite_IndexByte:Bi2:=some (Mf c G)
def Nf:Bi2:=(stringslite_IndexByte c G).bind λz=>some z
def Wj:Nat->LB->List LB
|0,_=>[]
|_+1,[]=>[]
|q+1,c::s=>if Cx (Mf (c::s) 10) 0=true then [c::s]else(c::s).take ((Mf (c::s) 10).toNat+1)::Wj q ((c::s).drop ((Mf (c::s) 10).toNat+1))
def Wk:Nat->LB->List LB
|0,_=>[]
|z+1,c=>if Cx (Mf c G) 0=true then [c]else c.take (Mf c G).toNat::Wk z (c.drop ((Mf c G).toNat+1))
def D_:Option (List LB):=Option.bind (Gi (decide (Ad c<=17179869184))) λ_=>some (Wj (c.length+1) c)
def wG:Option (List LB):=Option.bind (Gi (decide (Ad Y<=17179869184))) λ_=>some (Wk G (Y.length+1) Y)
def jY:Nat->Nat->LB->LB
|0,_,a=>a
|q+1,n,a=>if n<10 then UInt8.ofNat (48+n)::a else jY q (n/10) (UInt8.ofNat (48+n %10)::a)
def strconv_Itoa:Option LB:=if decide (-9223372036854775808<=z/\z<=9223372036854775807)=true then some (if z<0 then 45::jY 20 z.natAbs []else jY 20 z.toNat [])else none
abbrev Bi8:=Option (LB)
def Ao:Bi8:=(strconv_Itoa z).bind λc=>(Bf ([101,114,114,111,114,32]:LB) c).bind λd=>some d
def Agh:Bi8:=(Gi (decide (Ad c<=17179869184))).bind λ_=>some c
def MM:=Agh
def OM:Bi8:=if(Cx p9 (Ad l7))then(Af l7 p9).bind λz=>(Af ([48,49,50,51,52,53,54,55,56,57,97,98,99,100,101,102]:LB) (GI.toZ (Cl z (GI.toZ (4:UInt64)).toNat))).bind λc=>(Bf y9 ([c]:LB)).bind λd=>(Af ([48,49,50,51,52,53,54,55,56,57,97,98,99,100,101,102]:LB) (GI.toZ (Ed z 15))).bind λe=>(Bf d ([e]:LB)).bind λi=>Bhn (Ae p9 1) i
else
Bhm y9
def Uv:Nat->Int->LB->Option (LB)
|0,_,_=>none
|z+1,d,e=>OM MM (Uv z) c d e
def Azh a:=Uv a Ay
abbrev Bke:=LB->Int->LB->Option (LB)
def LV(j4:Bke)(a:LB)(h:Int):Bi8:=if(Bg h 0)then(Ao h).bind λp=>some p
else
j4 a 0 ([]:LB)
def Gl:=LV Azh
def Ij:Bi4:=some (c==e)
def Km:Bi4:=if(Ha (Ad c) (Ad e))then(Cb c 0 (Ad e)).bind λz=>(Ij z e).bind λd=>some d
else
some false
abbrev Kg:=Option (Int×Int)
def Bfz:Kg:=some (z,0)
def Ad8:=Bfz
def Va(j6:Int->Kg)(HJ:Int->Int->Kg)(a:LB)(b f:Int):Kg:=if(Cx f (Ad a))then(Af a f).bind λg=>if(Eg g 127)then
some (0,12)
else
HJ (pO (Dp b (GI.toZ (7:UInt64)).toNat) (Ah g:Int)) (Ae f 1)
else
j6 b
def Lo:Nat->Int->Int->Kg
|0,_,_=>none
|z+1,d,e=>Va Ad8 (Lo z) c d e
def Ac4 a:=Lo a Ay
def EK(j4:LB->Int->Int->Kg)(a:LB):Kg:=if(Bg (Ad a) 4)then
some (0,2)
else
j4 a 0 0
def GH:=EK Ac4
abbrev Hx:=Option (Int×Int)
def Aex:Hx:=if(Eg J 4000)then
some (0,4)
else
if(Cx (Ad c) J)then
some (0,24)
else
if(geq G 16)then(Cb c (Ap J 10) J).bind λz=>(Cb z 0 3).bind λd=>if(d !=([51,68,73]:LB))then
some (0,12)
else(Cb z 3 (Ad z)).bind λe=>(Cb c 3 10).bind λi=>(Ij e i).bind λj=>if(!j)then
some (0,12)
else
some (J,0)
else
some (J,0)
def HZ:=Aex
def Af9(j8:LB->UInt8->Int->Hx)(a:LB)(g:Int)(b:UInt8):Hx:=if(geq b 16)then
j8 a b (Ae (Ae g 10) 10)
else
j8 a b (Ae g 10)
def HS:=Af9 HZ
def Aeu(j7:LB->Int->UInt8->Hx)(a:LB)(g:Int)(b:UInt8)(m:Bool):Hx:=if m then
some (0,12)
else
j7 a g b
def IH:=Aeu HS
def IB(j6:LB->Int->UInt8->Bool->Hx)(a:LB)(f b:UInt8):Hx:=(Cb a 6 10).bind λaa=>(GH aa).bind λ(g,ab)=>if(Bg ab 0)then
if true then
j6 a g b true
else
if(geq b 0)then
j6 a g b (!((Ha f 2)&&(MQ f 4)))
else
if(geq b 16)then
j6 a g b (!(geq f 4))
else
j6 a g b (!false)
else(Af a 4).bind λac=>if(Bg ac 0)then
j6 a g b true
else
if(geq b 0)then
j6 a g b (!((Ha f 2)&&(MQ f 4)))
else
if(geq b 16)then
j6 a g b (!(geq f 4))
else
j6 a g b (!false)
def HX:=IB IH
def Yf(j5:LB->UInt8->UInt8->Hx)(a:LB):Hx:=(Km a ([(73:UInt8),(68:UInt8),(51:UInt8)]:LB)).bind λn=>if(!n)then
some (0,6)
else
if(Cx (Ad a) 10)then
some (0,24)
else(Af a 3).bind λf=>(Af a 5).bind λb=>(
(
(
j5 a f b)))
def KF:=Yf HX
abbrev Za:=Option (UInt64×Int)
def Azp (f:UInt64):Za:=some (f,0)
def Aul:=Azp
def SS(j6:UInt64->Za)(HJ:UInt64->Int->Za)(a:LB)(f:UInt64)(b:Int):Za:=if(Cx b (Ad a))then(Af a b).bind λg=>(Gi (Ha (Cm 8 b) 0)).bind λ_=>HJ (pO f (Dp (Ah g:UInt64) (GI.toZ (Cm 8 b)).toNat)) (Ae b 1)
else
j6 f
def Zj:Nat->UInt64->Int->Za
|0,_,_=>none
|z+1,d,e=>SS Aul (Zj z) c d e
def Av0 a:=Zj a Ay
def lC(j4:LB->UInt64->Int->Za)(a:LB):Za:=if((Cx (Ad a) 1)||(Eg (Ad a) 8))then
some (0,2)
else
j4 a 0 0
def fY:=lC Av0
abbrev Bka:=Option (UInt64×Int)
def WU:Bka:=if(((Cx d 1)||(Eg d 8))||(Cx z 0))then
some (0,2)
else
if(Eg z (Ap (Ad c) d))then
some (0,24)
else(Cb c z (Ae z d)).bind λe=>(fY e).bind λ(i,j)=>some (i,j)
def C5:Bi4:=if(geq Z 8)then
some true
else(Gi (Ha (Cm 8 Z) 0)).bind λ_=>some (geq (Cl D (GI.toZ (Cm 8 Z)).toNat) 0)
abbrev Yz:=Option (LB×Int)
def Auz:Yz:=some (c,0)
def fX:=Auz
def SX(j6:LB->Yz)(HJ:Int->LB->Yz)(f:UInt64)(g:LB)(a:Int)(b:LB):Yz:=if(Cx a (Ad g))then(Gi (Ha (Cm 8 a) 0)).bind λ_=>(Af b a).bind λ_=>(Pn b a (Ah (Cl f (GI.toZ (Cm 8 a)).toNat):UInt8)).bind λk=>HJ (Ae a 1) k
else
j6 b
def Zs:Nat->Int->LB->Yz
|0,_,_=>none
|z+1,c,d=>SX fX (Zs z) D l7 c d
def Aue f g:=Zs f g Ay
def iQ(j4:UInt64->LB->Int->LB->Yz)(f:UInt64)(h:Int):Yz:=if((Cx h 1)||(Eg h 8))then
some (([]:LB),2)
else(C5 f h).bind λm=>if(!m)then
some (([]:LB),16)
else(mkI h (0:UInt8)).bind λg=>(Gi (geq h h)).bind λ_=>j4 f g 0 g
def Xb:=iQ Aue
def O5:Bi8:=some c
def pD:=O5
def aR:Bi8:=if(Cx Z (Ad ([(2000:UInt64),(Ah (Ae Bhy 32):UInt64),(Ah Bib:UInt64),D,(0:UInt64),(0:UInt64)]:LQ)))then(Af ([(2000:UInt64),(Ah (Ae Bhy 32):UInt64),(Ah Bib:UInt64),D,(0:UInt64),(0:UInt64)]:LQ) Z).bind λ_=>(Af ([(2000:UInt64),(Ah (Ae Bhy 32):UInt64),(Ah Bib:UInt64),D,(0:UInt64),(0:UInt64)]:LQ) Z).bind λz=>(Xb z 4).bind λ(c,d)=>(Bf l7 c).bind λe=>Bhn (Ae Z 1) e
else
Bhm l7
def Yn:Nat->Int->LB->Option (LB)
|0,_,_=>none
|c+1,e,i=>aR pD (Yn c) z d D e i
def S1 a b f:=Yn a b f Ay
def pF(j4:Int->Int->UInt64->Int->LB->Option (LB))(a b:Int)(f:UInt64):Bi8:=j4 a b f 0 ([(65:UInt8),(80:UInt8),(69:UInt8),(84:UInt8),(65:UInt8),(71:UInt8),(69:UInt8),(88:UInt8)]:LB)
def lV:=pF S1
def KZ:Option (Int×Int×Bool):=(WU c 12 4).bind λ(z,d)=>(WU c 16 4).bind λ(e,i)=>if(((Cx z 32)||(Eg z 3032))||(Eg e 1000))then
some (0,0,false)
else(lV (Ap (Ah z:Int) 32) (Ah e:Int) D).bind λj=>(Ij c j).bind λl=>some ((Ap (Ah z:Int) 32),(Ah e:Int),l)
def mD:Bjg:=(Km c ([(65:UInt8),(80:UInt8),(69:UInt8),(84:UInt8),(65:UInt8),(71:UInt8),(69:UInt8),(88:UInt8)]:LB)).bind λz=>if(!z)then
some (0,6)
else
if(Cx (Ad c) 32)then
some (0,24)
else(Cb c 0 32).bind λd=>(KZ d 2684354560).bind λ(e,i,j)=>if(!j)then
some (0,12)
else
if(Cx (Ad c) (Ae e 64))then
some (0,24)
else(Cb c (Ap (Ae e 64) 32) (Ae e 64)).bind λl=>(lV e i 2147483648).bind λA=>(Ij l A).bind λB=>if(!B)then
some (0,12)
else
some ((Ae e 64),0)
def Ue:Bjg:=(KF c).bind λ(z,d)=>if(Bg d 6)then
some (z,d)
else(mD c).bind λ(e,i)=>some (e,i)
def Tf(b:List UInt8):Nat->Int->Option (Int×Int)
  |0,_=>none
  |q+1,x=>Option.bind (Cb b x (Ad b)) λs=>Option.bind (Ue s) λr=>
    if geq r.2 (6:Int)=true then some (x,0)
    else if(geq r.2 (0:Int)&&Eg (Ae x r.1) (4000:Int))=true then some (0,4)
    else if Bg r.2 (0:Int)=true then some (0,r.2)
    else Tf b q (Ae x r.1)
def Hf(b:List UInt8):Bjg:=Tf b Ay 0
def Jc:Bi4:=if(Ha (Ad c) (Ad e))then(Cb c 0 (Ad e)).bind λz=>some (z==e)
else
some false
def Na:Bi4:=(Jc c e).bind λz=>some z
abbrev Ci:=Option (UInt32×Int)
def Ag3:Ci:=some (X,0)
def NJ:=Ag3
def AZ(j30:UInt32->Ci)(Bbo:UInt32->Int->Ci)(a:LB)(b:LU)(h:UInt32)(m:Int):Ci:=if(Cx m (Ad a))then(Af a m).bind λp=>(Af b (GI.toZ (Wr (Ah h:UInt8) p))).bind λ_=>(Af b (GI.toZ (Wr (Ah h:UInt8) p))).bind λu=>Bbo (Wr (Cl h (GI.toZ (8:UInt64)).toNat) u) (Ae m 1)
else
j30 h
def Ou:Nat->UInt32->Int->Ci
|0,_,_=>none
|z+1,d,e=>AZ NJ (Ou z) c l6 d e
def OL a b:=Ou a b Ay
def MH(j28:LB->LU->UInt32->Int->Ci)(f:UInt32)(a:LB)(b:LU):Ci:=j28 a b f 0
def Aka:=MH OL
def NC(j27:UInt32->LB->LU->Ci)(f:UInt32)(a:LB)(b:LU):Ci:=j27 f a b
def NM:=NC Aka
abbrev Bld:=Int->LU->Ci
def Aku(He:Bld)(f:UInt32)(a:LB)(g:Int)(o:LU):Ci:=He (Ae g 1) o
def Agv He:=Aku He
def Ail(j24:Bld)(f:UInt32)(a:LB)(g:Int)(k:UInt32)(b:LU):Ci:=(Af b g).bind λ_=>(Pn b g k).bind λo=>j24 g o
def BD He f a:=Ail (Agv He f a) f a
def DS(j23:Int->UInt32->LU->Ci)(UQ:UInt32->Int->Ci)(f:UInt32)(a:LB)(g:Int)(b:LU)(k:UInt32)(n:Int):Ci:=if(Cx n 8)then
UQ (Wr (Cl k (GI.toZ (1:UInt64)).toNat) (Cm 3988292384 (Ed k 1))) (Ae n 1)
else
j23 g k b
def Ql(He:Bld)(f:UInt32)(a:LB)(g:Int)(b:LU):Nat->UInt32->Int->Ci
|0,_,_=>none
|q+1,k,n=>DS (BD He f a) (Ql He f a g b q) f a g b k n
def OZ He f a g b:=Ql He f a g b Ay
def BS(j21:Int->LU->UInt32->Int->Ci)(j26:UInt32->LB->LU->Ci)(f:UInt32)(a:LB)(g:Int)(b:LU):Ci:=if(Cx g 256)then
j21 g b (Ah g:UInt32) 0
else
j26 f a b
def Lr:Nat->Int->LU->Ci
|0,_,_=>none
|z+1,c,d=>BS (OZ (Lr z) X Bh3) NM X Bh3 c d
def Afk f a:=Lr f a Ay
def UA(j16:UInt32->LB->Int->LU->Ci)(f:UInt32)(a:LB):Ci:=if(Eg (Ad a) 100000)then
some (0,4)
else
j16 f a 0 (List.replicate 256 (0:UInt32))
def bC:=UA Afk
def Vw:Option (UInt32×Int):=(bC 4294967295 c).bind λ(z,d)=>if(Bg d 0)then
some (0,d)
else
some ((U8 z),0)
def Ab6(b f a g h:Int):Bi4:=some (((((((geq b 1)||(geq b 2))&&(Eg f 0))&&(MQ f 6))&&(Eg g 0))&&(MQ g 1048576))&&(Eg h 0))
def EV:=Ab6
def Ach(j2:Jz5 (Option Bool))(b f a g h:Int):Bi4:=if(geq a 8)then
if(geq a 8)then
j2 b f a g h
else
some false
else
if(geq a 16)then
if(geq a 16)then
j2 b f a g h
else
some false
else
if(geq a 24)then
j2 b f a g h
else
some false
def Xa:=Ach EV
def Lc:Bjg:=if((Cx z 1)||(Eg z 1048576))then
some (0,2)
else
some ((wZ 1 (Ej (Cm 256 z) 245)),0)
def Hr:Bjg:=(Lc z).bind λ(c,e)=>if(Bg e 0)then
some (0,e)
else
if((Cx d 1)||(Eg d 4000))then
some (0,2)
else(Gi (Bg c 0)).bind λ_=>if(Eg (Ej (Ap (Ae d c) 1) c) 1000)then
some (0,4)
else
some ((Ej (Ap (Ae d c) 1) c),0)
def GO(k a m f b:Int):Bi4:=(Gi (Bg a 0)).bind λ_=>if(Eg b (Ej 4000 a))then
some false
else(Hr f b).bind λ(g,h)=>some ((geq h 0)&&(MQ g 1000))
abbrev Ny:=Option (Int×Int×Int×Int×Int×Int)
def Air:Ny:=(Af B 0).bind λ_=>(Af B 0).bind λz=>(Af B 1).bind λ_=>(Af B 1).bind λc=>(Af B 2).bind λ_=>(Af B 2).bind λd=>(Af B 3).bind λ_=>(Af B 3).bind λe=>(Af B 4).bind λ_=>(Af B 4).bind λi=>(Xa z c d e i).bind λj=>if(!j)then
some (0,0,0,0,0,12)
else(GO z c d e i).bind λl=>if(!l)then
some (0,0,0,0,0,4)
else
some (z,c,d,e,i,0)
def CN:=Air
def DH(j6:LI->Ny)(HJ:Int->Int->LI->Ny)(b:LB)(g f:Int)(a:LI):Ny:=if(Cx f 5)then(Af ([(2:Int),(2:Int),(2:Int),(4:Int),(4:Int)]:LI) f).bind λh=>(WU b g h).bind λ(v,ae)=>(Af a f).bind λ_=>(Pn a f (Ah v:Int)).bind λw=>HJ (Ae g h) (Ae f 1) w
else
j6 a
def Ma:Nat->Int->Int->LI->Ny
|0,_,_,_=>none
|z+1,d,e,i=>DH CN (Ma z) c d e i
def LO b:=Ma b Ay
def OY(j4:LB->Int->Int->LI->Ny)(b:LB):Ny:=(Cb b 0 (Fy 4 (Ad b))).bind λy=>(Na ([84,84,65,49]:LB) y).bind λaa=>if(!aa)then
some (0,0,0,0,0,12)
else
if(Cx (Ad b) 22)then
some (0,0,0,0,0,24)
else(WU b 18 4).bind λ(ab,af)=>(Cb b 0 18).bind λac=>(Vw ac).bind λ(ad,ag)=>if(Bg (Ah ad:UInt64) ab)then
some (0,0,0,0,0,22)
else
j4 b 4 0 (List.replicate 5 (0:Int))
def Jt:=OY LO
abbrev Ck:=Option (UInt64×Int)
def Aiz:Ck:=some (D,0)
def Afz:=Aiz
def Aje(j30:UInt64->Ck)(h b:UInt64)(a:LB)(f:LQ):Ck:=j30 h
def MW:=Aje Afz
def CZ(j29:UInt64->UInt64->LB->LQ->Ck)(UR:UInt64->Int->Ck)(a:LB)(b:UInt64)(f:LQ)(h:UInt64)(m:Int):Ck:=if(Cx m (Ad a))then(Af a m).bind λp=>Option.bind (Af f (GI.toZ (Wr (Ah (Cl h (GI.toZ (56:UInt64)).toNat):UInt8) p))) λ_=>Option.bind (Af f (GI.toZ (Wr (Ah (Cl h (GI.toZ (56:UInt64)).toNat):UInt8) p))) λu=>UR (Wr (Dp h (GI.toZ (8:UInt64)).toNat) u) (Ae m 1)
else
j29 h b a f
def Ps:Nat->UInt64->Int->Ck
|0,_,_=>none
|z+1,d,e=>CZ MW (Ps z) c D Biz d e
def MS a b f:=Ps a b f Ay
def MO(j27:LB->UInt64->LQ->UInt64->Int->Ck)(b:UInt64)(a:LB)(f:LQ):Ck:=j27 a b f b 0
def OB:=MO MS
abbrev Ble:=Int->LQ->Ck
def Ag2(He:Ble)(b:UInt64)(a:LB)(g:Int)(o:LQ):Ck:=He (Ae g 1) o
def Afq He:=Ag2 He
def Akl(j24:Ble)(b:UInt64)(a:LB)(g:Int)(k:UInt64)(f:LQ):Ck:=(Af f g).bind λ_=>(Pn f g k).bind λo=>j24 g o
def DI He b a:=Akl (Afq He b a) b a
def DM(j23:Int->UInt64->LQ->Ck)(UQ:UInt64->Int->Ck)(b:UInt64)(a:LB)(g:Int)(f:LQ)(k:UInt64)(n:Int):Ck:=if(Cx n 8)then
UQ (Wr (Dp k (GI.toZ (1:UInt64)).toNat) (Cm 4823603603198064275 (Cl k (GI.toZ (63:UInt64)).toNat))) (Ae n 1)
else
j23 g k f
def Oz(He:Ble)(b:UInt64)(a:LB)(g:Int)(f:LQ):Nat->UInt64->Int->Ck
|0,_,_=>none
|q+1,k,n=>DM (DI He b a) (Oz He b a g f q) b a g f k n
def NP He b a g f:=Oz He b a g f Ay
def BF(j21:Int->LQ->UInt64->Int->Ck)(j26:UInt64->LB->LQ->Ck)(b:UInt64)(a:LB)(g:Int)(f:LQ):Ck:=if(Cx g 256)then
j21 g f (Dp (Ah g:UInt64) (GI.toZ (56:UInt64)).toNat) 0
else
j26 b a f
def Lt:Nat->Int->LQ->Ck
|0,_,_=>none
|z+1,c,d=>BF (NP (Lt z) D l7) OB D l7 c d
def Aja b a:=Lt b a Ay
def UB(j16:UInt64->LB->Int->LQ->Ck)(b:UInt64)(a:LB):Ck:=if(Eg (Ad a) 100000)then
some (0,4)
else
j16 b a 0 (List.replicate 256 (0:UInt64))
def cS:=UB Aja
def YT:Bka:=(cS 0 c).bind λ(z,d)=>some (z,d)
def xM:Bka:=if(Eg (Ad c) 64)then
some (0,2)
else(YT c).bind λ(z,d)=>some (z,0)
abbrev Bju:=Option (LB×Int)
def BL:Bju:=(xM c).bind λ(z,d)=>if(Bg d 0)then
some (([]:LB),d)
else(Xb z 8).bind λ(e,i)=>some (e,i)
def Rq:Option (Bool×Int):=(BL e).bind λ(z,d)=>if((Bg d 0)||(Bg (Ad c) (Ad z)))then
some (false,2)
else(Ij c z).bind λi=>some (i,0)
def Qu:Bi2:=(Xa z d j C E).bind λc=>if(!c)then
some 8
else(GO z d j C E).bind λe=>if(!e)then
some 8
else
some 0
abbrev Bkz:=Option (UInt64×UInt64)
def IJ:Bkz:=some ((Ae (Ae (Cm (Cl D (GI.toZ (32:UInt64)).toNat) (Cl l5 (GI.toZ (32:UInt64)).toNat)) (Cl (Ae (Cm (Cl D (GI.toZ (32:UInt64)).toNat) (Ed l5 4294967295)) (Cl (Cm (Ed D 4294967295) (Ed l5 4294967295)) (GI.toZ (32:UInt64)).toNat)) (GI.toZ (32:UInt64)).toNat)) (Cl (Ae (Ed (Ae (Cm (Cl D (GI.toZ (32:UInt64)).toNat) (Ed l5 4294967295)) (Cl (Cm (Ed D 4294967295) (Ed l5 4294967295)) (GI.toZ (32:UInt64)).toNat)) 4294967295) (Cm (Ed D 4294967295) (Cl l5 (GI.toZ (32:UInt64)).toNat))) (GI.toZ (32:UInt64)).toNat)),(Cm D l5))
def GK:Bkz:=(IJ D l5).bind λ(z,c)=>some (z,c)
abbrev Bjn:=Option (LI)
def Mk:Bjn:=some B
def Ip:=Mk
abbrev Bki:=Int->LI->Option (LI)
def Gp(j10:LI->Option (LI))(bk8:Bki)(b:Int)(a:LI):Bjn:=if(Cx b (Ad a))then(
(ZW (Ad a) b (Ad a)).bind λ_=>(ZW (Ad a) 0 b).bind λ_=>bk8 (Ae b (LK ((Ad a)-b) (QL a 0 (b-(0:Int))).length)) (Um a b ((Ad a)-b) (QL a 0 (b-(0:Int)))))
else
j10 a
def Et:Nat->Int->LI->Option (LI)
|0,_,_=>none
|q+1,b,a=>Gp Ip (Et q) b a
def Acy:=Et Ay
def Nx(j8:Bki)(f:LI)(g:UInt64):Bjn:=(mkI (Ah g:Int) (0:Int)).bind λk=>(Gi (geq (Ah g:Int) (Ah g:Int))).bind λ_=>j8 (LK (Ad k) f.length) (JT k f)
def Ac6:=Nx Acy
def Oc(j7:LI->UInt64->Option (LI))(f:LI)(h:Int):Bjn:=(GK (Ah (Ad f):UInt64) (Ah h:UInt64)).bind λ(m,g)=>if((Eg m 0)||(Eg g 9223372036854775807))then
none
else
j7 f g
def Acz:=Oc Ac6
def Oe(j6:LI->Int->Option (LI))(f:LI)(h:Int):Bjn:=if(Cx h 0)then
none
else
j6 f h
def Mh:=Oe Acz
def Az7:Bjn:=some B
def Abi:=Az7
def Ge(j16:LI->Option (LI))(dL:Bki)(a:Bkl)(g:Int)(f:LI):Bjn:=if(Cx g (Ad a))then(Af a g).bind λn=>(Bf f n).bind λo=>dL (Ae g 1) o
else
j16 f
def Em:Nat->Int->LI->Option (LI)
|0,_,_=>none
|z+1,c,d=>Ge Abi (Em z) Bid c d
def Mp a:=Em a Ay
def Mo(j14:(List LI)->Int->LI->Option (LI))(a:Bkl)(p:LI):Bjn:=j14 a 0 p
def Mq:=Mo Mp
def Mj(j13:(List LI)->LI->Option (LI))(b:Int)(a:Bkl):Bjn:=if(Eg (Ap b (Ap (0:Int) (0:Int))) 0)then(ZW 0 0 0).bind λ_=>(mkI (Ap b (Ap (0:Int) (0:Int))) (0:Int)).bind λu=>(Bf ([]:LI) u).bind λk=>(ZW (Ad k) 0 0).bind λ_=>j13 a (QL k 0 ((0:Int)-(0:Int)))
else
j13 a ([]:LI)
def Abh:=Mj Mq
def Mi(j12:Int-> (List LI)->Option (LI))(a:Bkl)(b:Int):Bjn:=if(Cx b 0)then
none
else
j12 b a
def Abj:=Mi Abh
def Gn(j11:(List LI)->Int->Option (LI))(bk9:Int->Int->Option (LI))(a:Bkl)(b h:Int):Bjn:=if(Cx h (Ad a))then(Af a h).bind λm=>if(Cx (Ae b (Ad m)) 0)then
none
else
bk9 (Ae b (Ad m)) (Ae h 1)
else
j11 a b
def Eu:Nat->Int->Int->Option (LI)
|0,_,_=>none
|z+1,c,d=>Gn Abj (Eu z) Bid c d
def Ad0 a:=Eu a Ay
def Nv(j9:(List LI)->Int->Int->Option (LI))(a:Bkl):Bjn:=j9 a 0 0
def Mg:=Nv Ad0
def NF:Bjn:=(Mg ([B,L]:Bkl)).bind λz=>some z
abbrev Bkt:=Option (LI×Int)
def RN:Bkt:=(Hr z d).bind λ(c,e)=>if(Bg e 0)then
some (([]:LI),e)
else(Lc z).bind λ(i,j)=>(Mh ([i]:LI) (Ap c 1)).bind λl=>(NF l ([(Ap d (Cm (Ap c 1) i))]:LI)).bind λA=>some (A,0)
def Dq:Bkt:=(Qu z d j C E).bind λc=>if(Bg c 0)then
some (([]:LI),c)
else(RN C E).bind λ(e,i)=>some (e,i)
def Axy:Bi2:=some 0
def Agk:=Axy
def CG(j6:Bi2)(HJ:Int->Int->Option Int)(a:LI)(f b:Int):Bi2:=if(Cx b (Ad a))then(Af a b).bind λg=>if((Cx g 5)||(Eg g f))then
some 8
else
HJ (Ap f g) (Ae b 1)
else
j6
def Ph:Nat->Int->Int->Option Int
|0,_,_=>none
|z+1,c,d=>CG Agk (Ph z) B c d
def Al8 a:=Ph a Ay
abbrev Bku:=LI->Int->Int->Option Int
def CV(j4:Bku)(a:LI):Bi2:=if((geq (Ad a) 0)||(Eg (Ad a) 1000))then
some 8
else
j4 a 100000 0
def Jq:=CV Al8
abbrev Qx:=Option (LI×Int)
def Am3:Qx:=(Jq B).bind λz=>if(Bg z 0)then
some (([]:LI),12)
else
some (B,0)
def GD:=Am3
def FW(j6:LI->Qx)(HJ:Int->LI->Qx)(a:LB)(f:LI)(g:Int)(b:LI):Qx:=if(Cx g (Ad f))then(WU a (Cm 4 g) 4).bind λ(k,u)=>(Af b g).bind λ_=>(Pn b g (Ah k:Int)).bind λm=>HJ (Ae g 1) m
else
j6 b
def Sr:Nat->Int->LI->Qx
|0,_,_=>none
|z+1,d,e=>FW GD (Sr z) c B d e
def Alz a f:=Sr a f Ay
def TY(j4:LB->LI->Int->LI->Qx)(a:LB)(h:Int):Qx:=if((Cx h 1)||(Eg h 1000))then
some (([]:LI),2)
else
if(Cx (Ad a) (Ae (Cm 4 h) 4))then
some (([]:LI),24)
else(WU a (Cm 4 h) 4).bind λ(n,v)=>(Cb a 0 (Cm 4 h)).bind λo=>(Vw o).bind λ(p,w)=>if(Bg (Ah p:UInt64) n)then
some (([]:LI),22)
else(mkI h (0:Int)).bind λf=>(Gi (geq h h)).bind λ_=>j4 a f 0 f
def Yu:=TY Alz
abbrev TX:=Option (Int×Int×Int×Int×Int×Int×LI×Int)
def Ake:TX:=(Dq z d j C E).bind λ(e,i)=>if(Bg i 0)then
some (0,0,0,0,0,0,([]:LI),i)
else(Cb c O (Ad c)).bind λl=>(Yu l (Ad e)).bind λ(A,B)=>if(Bg B 0)then
some (0,0,0,0,0,0,([]:LI),B)
else
some (z,d,j,C,E,(Ae (Ae O (Cm 4 (Ad A))) 4),A,0)
def MU:=Ake
def Aga(j2:LB->Jz6 TX)(a n:LB):TX:=if(Eg (Ad n) 64)then
some (0,0,0,0,0,0,([]:LI),2)
else
if(Eg (Ad a) 100000)then
some (0,0,0,0,0,0,([]:LI),4)
else(Hf a).bind λ(f,w)=>if(Bg w 0)then
some (0,0,0,0,0,0,([]:LI),w)
else(Cb a f (Ad a)).bind λad=>(Jt ad).bind λ(b,g,h,k,m,y)=>if(Bg y 0)then
some (0,0,0,0,0,0,([]:LI),y)
else
if((n==([]:LB)) !=(geq b 1))then
some (0,0,0,0,0,0,([]:LI),26)
else
if(n !=([]:LB))then
if(Cx (Ad a) (Ae (Ae f 22) 8))then
some (0,0,0,0,0,0,([]:LI),24)
else(Cb a (Ae f 22) (Ae (Ae f 22) 8)).bind λae=>(Rq ae n).bind λ(af,aa)=>if(Bg aa 0)then
some (0,0,0,0,0,0,([]:LI),aa)
else
if(!af)then
some (0,0,0,0,0,0,([]:LI),26)
else
j2 a b g h k m (Ae (Ae f 22) 8)
else
j2 a b g h k m (Ae f 22)
def Nh:=Aga MU
def gY:Option (Int×Int×Int×Int×Int×Int×Int×Int×Int×Int×LI×Int):=if(Eg (Ad c) 100000)then
some (0,0,0,0,0,0,0,0,0,0,([]:LI),4)
else(Hf c).bind λ(z,d)=>if(Bg d 0)then
some (0,0,0,0,0,0,0,0,0,0,([]:LI),d)
else(Cb c z (Ad c)).bind λe=>(Jt e).bind λ(i,j,l,A,B,C)=>if(Bg C 0)then
some (i,j,l,A,B,0,0,0,0,0,([]:LI),C)
else(Dq i j l A B).bind λ(D,E)=>if(geq i 2)then
some (i,j,l,A,B,z,(Ae z 22),(Ae (Ae z 22) 8),0,0,D,0)
else
some (i,j,l,A,B,z,(Ae z 22),(Ae z 22),0,0,D,0)
abbrev Bk0:=Option (LX)
def Acs:Bk0:=some l
def Aau:=Acs
def dE(j6:LX->Option (LX))(HJ:Int->LX->Option (LX))(f:UInt64)(a:Int)(b:LX):Bk0:=if(Cx a 8)then(Gi (Ha (Cm 8 a) 0)).bind λ_=>(Af b a).bind λ_=>(Pn b a (Ah (Ah (Cl f (GI.toZ (Cm 8 a)).toNat):Int8):Int32)).bind λg=>HJ (Ae a 1) g
else
j6 b
def FI:Nat->Int->LX->Option (LX)
|0,_,_=>none
|z+1,c,d=>dE Aau (FI z) D c d
def Abk f:=FI f Ay
def N2(j4:UInt64->Int->LX->Option (LX))(f:UInt64):Bk0:=j4 f 0 (List.replicate 16 (0:Int32))
def zu:=N2 Abk
abbrev Bkv:=Option (LX×Int)
def Mv:Bkv:=if(Eg (Ad c) 64)then
some (([(0:Int32),(0:Int32),(0:Int32),(0:Int32),(0:Int32),(0:Int32),(0:Int32),(0:Int32),(0:Int32),(0:Int32),(0:Int32),(0:Int32),(0:Int32),(0:Int32),(0:Int32),(0:Int32)]:LX),2)
else(YT c).bind λ(z,d)=>if(Bg d 0)then
some (([(0:Int32),(0:Int32),(0:Int32),(0:Int32),(0:Int32),(0:Int32),(0:Int32),(0:Int32),(0:Int32),(0:Int32),(0:Int32),(0:Int32),(0:Int32),(0:Int32),(0:Int32),(0:Int32)]:LX),d)
else(zu z).bind λe=>some (e,0)
abbrev TZ:=Option (Int32×Int32×Int)
def Agj:TZ:=if F then(Gi (Ha (Ap z 1) 0)).bind λ_=>some ((nC (Dp (1:Int32) (GI.toZ (Ap z 1)).toNat)),(Ap (Dp (1:Int32) (GI.toZ (Ap z 1)).toNat) 1),0)
else
some (0,0,2)
def Aks:=Agj
def Afp(j2:Int->Bool->TZ)(a:Int):TZ:=if(geq a 8)then
j2 a (geq a 8)
else
if(geq a 16)then
j2 a (geq a 16)
else
j2 a (geq a 24)
def Qn:=Afp Aks
def Fv:Bi2:=(Qn d).bind λ(c,e,i)=>if(((Bg i 0)||(Cx z 1))||(Eg z 6))then
some 2
else
some 0
def BN:Bju:=if(Cx (Ad c) 5)then
some (([]:LB),24)
else
if(Eg (Ad c) 41254)then
some (([]:LB),4)
else(Cb c 0 (Ap (Ad c) 4)).bind λz=>(Vw z).bind λ(d,e)=>if(Bg e 0)then
some (([]:LB),e)
else(Cb c (Ap (Ad c) 4) (Ad c)).bind λi=>(fY i).bind λ(j,l)=>if((Bg l 0)||(Bg j (Ah d:UInt64)))then
some (([]:LB),22)
else(Cb c 0 (Ap (Ad c) 4)).bind λA=>some (A,0)
def Bm:Bi8:=(
(Bf ([]:LB) c).bind λz=>some z)
abbrev Bk4:=Option (LB×Int×Int)
def w_:Bk4:=if(Eg (Ad c) 41250)then
some (([]:LB),0,4)
else(Bm c).bind λz=>some (z,(Cm 8 (Ad c)),0)
def pA:Option (Int×Int×UInt64×UInt64):=some (10,10,16384,16384)
def Ib:Bi2:=if(((Cx z 0)||(Eg z 330000))||(Bg (Ad c) (s_ (Ae z 7) (GI.toZ (3:UInt64)).toNat)))then
some 8
else
if(Eg (Ed z 7) 0)then(Af c (Ap (Ad c) 1)).bind λd=>(Gi (Ha (Ed z 7) 0)).bind λ_=>if(Bg (Cl d (GI.toZ (Ed z 7)).toNat) 0)then
some 8
else
some 0
else
some 0
abbrev Blb:=Option UInt64
def Aan:Blb:=some D
def Aud:=Aan
def fT(j6:UInt64->Option UInt64)(HJ:UInt64->Int->Option UInt64)(b f:Int)(h:LB)(k:Int)(g:UInt64)(a:Int):Blb:=if(Cx a f)then(Af h (s_ (Ae b a) (GI.toZ (3:UInt64)).toNat)).bind λm=>(Gi (Ha (Ed (Ae b a) 7) 0)).bind λ_=>(Gi (Ha (Fy (Ap f a) (Ap 8 (Ed (Ae b a) 7))) 0)).bind λ_=>(Gi (Ha a 0)).bind λ_=>HJ (pO g (Dp (Ah (Ed (Cl m (GI.toZ (Ed (Ae b a) 7)).toNat) (Ap (Dp (1:UInt8) (GI.toZ (Fy (Ap f a) (Ap 8 (Ed (Ae b a) 7)))).toNat) 1)):UInt64) (GI.toZ a).toNat)) (Ae a (Fy (Ap f a) (Ap 8 (Ed (Ae b a) 7))))
else
j6 g
def GR:Nat->UInt64->Int->Option UInt64
|0,_,_=>none
|c+1,e,j=>fT Aud (GR c) z d i A e j
def Awf b f h k:=GR b f h k Ay
def Au1(j4:Int->Int->LB->Int->UInt64->Int->Option UInt64)(h:LB)(k b f:Int):Blb:=j4 b f h k 0 0
def sL:=Au1 Awf
abbrev Ez:=Option (LB×Int×Int)
def At6:Ez:=some (i,z,0)
def aU:=At6
abbrev Bkw:=Int->Int->LB->Ez
def Apa(UR:Bkw)(a:Int)(g:LB)(b f h:Int)(u:LB):Ez:=UR (Ae f 64) h u
def KE UR:=Apa UR
abbrev Bkf:=UInt64->Int->Int->LB->Ez
def Apq(X8:Bkf)(a f:Int)(g:LB)(b:Int)(m n:UInt64)(k h:Int)(w:LB):Ez:=(Gi (Ha (Fy k (Ap 8 (Ed h 7))) 0)).bind λ_=>X8 (Cl n (GI.toZ (Fy k (Ap 8 (Ed h 7)))).toNat) (Ap k (Fy k (Ap 8 (Ed h 7)))) (Ae h (Fy k (Ap 8 (Ed h 7)))) w
def Aoy X8:=Apq X8
def Aoo(j48:Bkf)(a f:Int)(g:LB)(b:Int)(m n:UInt64)(k h:Int)(v:LB):Ez:=(Af v (Ap (Ad v) 1)).bind λ_=>(Gi (Ha (Fy k (Ap 8 (Ed h 7))) 0)).bind λ_=>(Gi (Ha (Ed h 7) 0)).bind λ_=>(Af v (Ap (Ad v) 1)).bind λaa=>(Af v (Ap (Ad v) 1)).bind λ_=>Option.bind (Pn v (Ap (Ad v) 1) (pO aa (Dp (Ah (Ed n (Ap (Dp (1:UInt64) (GI.toZ (Fy k (Ap 8 (Ed h 7)))).toNat) 1)):UInt8) (GI.toZ (Ed h 7)).toNat))) λw=>j48 n k h w
def KP X8 a f g b m:=Aoo (Aoy X8 a f g b m) a f g b m
def KR(j47:Bkf)(j50:Bkw)(a:Int)(g:LB)(b f:Int)(m n:UInt64)(k h:Int)(u:LB):Ez:=if(Eg k 0)then
if(geq (Ed h 7) 0)then(Bf u ([(0:UInt8)]:LB)).bind λab=>j47 n k h ab
else
j47 n k h u
else
j50 f h u
def Nq(UR:Bkw)(a:Int)(g:LB)(b f:Int)(m:UInt64):Nat->UInt64->Int->Int->LB->Ez
|0,_,_,_,_=>none
|q+1,n,k,h,u=>KR (KP (Nq UR a g b f m q) a f g b m) (KE UR a g b) a g b f m n k h u
def aY UR a g b f m:=Nq UR a g b f m Ay
def aH(j44:Int->UInt64->UInt64->Int->Int->LB->Ez)(j52:Int->LB->Ez)(a:Int)(g:LB)(b f o:Int)(p:LB):Ez:=if(Cx f a)then(sL g b f (Fy 64 (Ap a f))).bind λm=>j44 f m m (Fy 64 (Ap a f)) o p
else
j52 o p
def Vm:Nat->Int->Int->LB->Ez
|0,_,_,_=>none
|c+1,d,e,j=>aH (aY (Vm c) z i A) aU z i A d e j
def Aos a g b:=Vm a g b Ay
def kF(j27:Int->LB->Jz3 (LB->Ez))(g:LB)(b y a:Int):Ez:=(Ib g b).bind λac=>if(Bg ac 0)then
some (([]:LB),0,8)
else
if(((Cx y 0)||(Eg y a))||(Eg a b))then
some (([]:LB),0,2)
else
j27 a g b y 0 ([]:LB)
def fP:=kF Aos
def Amt:Bi2:=if(!((geq (Fy (wZ z 0) 24) z)&&((geq (Fy (wZ d 0) 24) d)&&((geq (Fy D 68719476735) D)&&((geq (Fy l5 68719476735) l5)&&true)))))then
some 8
else
some 0
def TR:=Amt
abbrev Bkg:=Int->Int->UInt64->UInt64->Option Int
def FX(j4:Bkg)(a b:Int)(f g:UInt64):Bi2:=(
(
j4 a b f g))
def TA:=FX TR
def GL(j3:Bkg)(a b:Int)(f g:UInt64):Bi2:=(
(
j3 a b f g))
def MP:=GL TA
def DA:Bka:=(Ib c z).bind λe=>if(Bg e 0)then
some (0,8)
else
if(((Cx j 0)||(Eg j 64))||(Cx d 0))then
some (0,2)
else
if(Eg d (Ap z j))then
some (0,24)
else(sL c z d j).bind λi=>some (i,0)
def Gg:Bi2:=if(geq D 0)then
some 64
else(Af ([(0:UInt8),(1:UInt8),(56:UInt8),(2:UInt8),(57:UInt8),(49:UInt8),(28:UInt8),(3:UInt8),(61:UInt8),(58:UInt8),(42:UInt8),(50:UInt8),(38:UInt8),(29:UInt8),(17:UInt8),(4:UInt8),(62:UInt8),(47:UInt8),(59:UInt8),(36:UInt8),(45:UInt8),(43:UInt8),(51:UInt8),(22:UInt8),(53:UInt8),(39:UInt8),(33:UInt8),(30:UInt8),(24:UInt8),(18:UInt8),(12:UInt8),(5:UInt8),(63:UInt8),(55:UInt8),(48:UInt8),(27:UInt8),(60:UInt8),(41:UInt8),(37:UInt8),(16:UInt8),(46:UInt8),(35:UInt8),(44:UInt8),(21:UInt8),(52:UInt8),(32:UInt8),(23:UInt8),(11:UInt8),(54:UInt8),(26:UInt8),(40:UInt8),(15:UInt8),(34:UInt8),(20:UInt8),(31:UInt8),(10:UInt8),(25:UInt8),(14:UInt8),(19:UInt8),(9:UInt8),(13:UInt8),(8:UInt8),(7:UInt8),(6:UInt8)]:LB) (GI.toZ (Cl (Cm (Ed D (nC D)) 285870213051353865) (GI.toZ (58:UInt64)).toNat))).bind λz=>some (Ah z:Int)
abbrev Hv:=Option (Int×Int×Int)
def Ayl:Hv:=some (0,0,24)
def Ayw:=Ayl
def Bct(j10:Hv):Hv:=j10
def Bcc:=Bct Ayw
def An7(j9:Hv)(f a:Int):Hv:=if(geq f 48)then
some (f,(Ae 0 (Ae a f)),0)
else
j9
def Amz:=An7 Bcc
def Alx(j8:Int->Int->Hv)(f b a:Int):Hv:=if(Cx f (Fy 48 (Ap b a)))then
some (f,(Ae (Ae (0:Int) (1:Int)) (Ae a f)),0)
else
j8 f a
def Amu:=Alx Amz
def Ama(j7:Jz3 Hv)(h:Int)(k:UInt64)(a:Int)(g:LB)(b:Int):Hv:=if(Bg h 0)then
some (0,0,h)
else(Gg (U8 k)).bind λf=>j7 f b a
def UE:=Ama Amu
def Xl(j6:Int->UInt64->Int->LB->Int->Hv)(g:LB)(b a:Int):Hv:=(Ib g b).bind λm=>if(Bg m 0)then
some (0,0,m)
else
if(Cx a 0)then
some (0,0,2)
else
if(Ha a b)then
some (0,0,24)
else(
(
(DA g b a (Fy 48 (Ap b a))).bind λ(k,h)=>j6 h k a g b))
def EW:=Xl UE
def Vh:Bi4:=(Gi (Ha p9 0)).bind λ_=>some (Ha (Cl X (GI.toZ p9).toNat) 48)
abbrev kH:=Option (UInt32×Int×Int)
def aV:kH:=(DA i A d V).bind λ(c,e)=>if(Bg e 0)then
some (0,0,e)
else
if(Cx j 48)then(Gi (Ha z 0)).bind λ_=>some ((pO (Dp (Ah j:UInt32) (GI.toZ z).toNat) (Ah c:UInt32)),(Ae d V),0)
else(Vh (Ah c:UInt32) z).bind λl=>if(!l)then
some (0,0,12)
else
some ((Ah c:UInt32),(Ae d V),0)
def dB:=aV
def Aox(j2:Jz3 (LB->Int->Int->kH))(g:LB)(h v a:Int):kH:=(Ib g h).bind λo=>if(Bg o 0)then
some (0,0,o)
else
if((Cx a 0)||(Eg a 24))then
some (0,0,2)
else(EW g h v).bind λ(f,b,p)=>if(Bg p 0)then
some (0,0,p)
else
if(geq f 48)then
j2 a b f g h 32
else
j2 a b f g h a
def lO:=Aox dB
def FL(a f:Int)(g h:UInt64)(b:UInt32):Option (Int×UInt32):=(Gi (Ha a 0)).bind λ_=>if(geq (Cl b (GI.toZ a).toNat) 0)then
some (0,b)
else(Gi (Ha a 0)).bind λ_=>some (1,(Ap b (Dp (1:UInt32) (GI.toZ a).toNat)))
abbrev Jr:=Option (UInt32×Int×Int×Int×UInt64×UInt64×Int)
def Am7:Jr:=some (X,p9,Biw,Bix,(Ae Bif (Ap (Ah X:UInt64) (Cl Bif (GI.toZ (4:UInt64)).toNat))),Biy,0)
def Ams:=Am7
def Aqf(j10:UInt32->Jz3 (UInt64->UInt64->Jr))(f:UInt32)(k m:Int)(b n:UInt64)(w:Int):Jr:=j10 f k w m b n
def At5:=Aqf Ams
def Ant(j9:UInt32->Int->Int->UInt64->UInt64->Int->Jr)(f:UInt32)(k a:Int)(b:UInt64)(m:Int)(n:UInt64):Jr:=if(Eg a 0)then(Gi (Ha a 0)).bind λ_=>if(Cx (Ae b (Ap (Ah f:UInt64) (Cl b (GI.toZ (4:UInt64)).toNat))) (Dp (16:UInt64) (GI.toZ a).toNat))then
j9 f k m b n (Ap a 1)
else
if(Cx a 24)then(Gi (Ha a 0)).bind λ_=>if(Eg (Ae b (Ap (Ah f:UInt64) (Cl b (GI.toZ (4:UInt64)).toNat))) (Dp (32:UInt64) (GI.toZ a).toNat))then
j9 f k m b n (Ae a 1)
else
j9 f k m b n a
else
j9 f k m b n a
else
if(Cx a 24)then(Gi (Ha a 0)).bind λ_=>if(Eg (Ae b (Ap (Ah f:UInt64) (Cl b (GI.toZ (4:UInt64)).toNat))) (Dp (32:UInt64) (GI.toZ a).toNat))then
j9 f k m b n (Ae a 1)
else
j9 f k m b n a
else
j9 f k m b n a
def DW:=Ant At5
def bS(j8:UInt32->Int->Int->UInt64->Int->UInt64->Jr)(a h:Int)(b g:UInt64)(f:UInt32)(k:Int):Jr:=(FL a h b g f).bind λ(ad,o)=>if(geq ad 1)then
if(Eg h 0)then(Gi (Ha h 0)).bind λ_=>if(Cx (Ae g (Ap (Ah o:UInt64) (Cl g (GI.toZ (4:UInt64)).toNat))) (Dp (16:UInt64) (GI.toZ h).toNat))then
j8 f k a b (Ap h 1) (Ae g (Ap (Ah o:UInt64) (Cl g (GI.toZ (4:UInt64)).toNat)))
else
if(Cx h 24)then(Gi (Ha h 0)).bind λ_=>if(Eg (Ae g (Ap (Ah o:UInt64) (Cl g (GI.toZ (4:UInt64)).toNat))) (Dp (32:UInt64) (GI.toZ h).toNat))then
j8 f k a b (Ae h 1) (Ae g (Ap (Ah o:UInt64) (Cl g (GI.toZ (4:UInt64)).toNat)))
else
j8 f k a b h (Ae g (Ap (Ah o:UInt64) (Cl g (GI.toZ (4:UInt64)).toNat)))
else
j8 f k a b h (Ae g (Ap (Ah o:UInt64) (Cl g (GI.toZ (4:UInt64)).toNat)))
else
if(Cx h 24)then(Gi (Ha h 0)).bind λ_=>if(Eg (Ae g (Ap (Ah o:UInt64) (Cl g (GI.toZ (4:UInt64)).toNat))) (Dp (32:UInt64) (GI.toZ h).toNat))then
j8 f k a b (Ae h 1) (Ae g (Ap (Ah o:UInt64) (Cl g (GI.toZ (4:UInt64)).toNat)))
else
j8 f k a b h (Ae g (Ap (Ah o:UInt64) (Cl g (GI.toZ (4:UInt64)).toNat)))
else
j8 f k a b h (Ae g (Ap (Ah o:UInt64) (Cl g (GI.toZ (4:UInt64)).toNat)))
else
j8 f k a b h g
def bG:=bS DW
def cL(j7:Int->Int->UInt64->UInt64->UInt32->Int->Jr)(p:Int)(u:LB)(v a h:Int)(b g:UInt64):Jr:=(DA u v p 1).bind λ(ae,aa)=>if(Bg aa 0)then
some (0,0,0,0,0,0,aa)
else
if(geq ae 0)then(DA u v (Ae p 1) a).bind λ(af,ab)=>if(Bg ab 0)then
some (0,0,0,0,0,0,ab)
else
j7 a h b g (Ah af:UInt32) (Ae (Ae p 1) a)
else(lO u v (Ae p 1) h).bind λ(y,ag,ac)=>if(Bg ac 0)then
some (0,0,0,0,0,0,ac)
else(Gi (Ha a 0)).bind λ_=>if(Cx (Ae y (Dp (1:UInt32) (GI.toZ a).toNat)) y)then
some (0,0,0,0,0,0,12)
else
j7 a h b g (Ae y (Dp (1:UInt32) (GI.toZ a).toNat)) ag
def Asr:=cL bG
def cT(j6:Int->LB->Jz3 (UInt64->UInt64->Jr))(u:LB)(v p a h:Int)(b g:UInt64):Jr:=(Ib u v).bind λah=>if(Bg ah 0)then
some (0,0,0,0,0,0,8)
else(MP a h b g).bind λai=>if(Bg ai 0)then
some (0,0,0,0,0,0,8)
else
j6 p u v a h b g
def EL:=cT Asr
abbrev Cg:=Option (LU×Int×Int)
def Bem:Cg:=some (l6,z,0)
def NX:=Bem
abbrev Bi5:=List (Int×Int×UInt64×UInt64×Unit)
def PH(He:Int->Int-> (List (Int×Int×UInt64×UInt64×Unit))->LU->Cg)(a f:Int)(g:LB)(b k v:Int)(w:UInt32)(h:Int)(ah:Bi5)(n:LU):Cg:=(Bf n ([w]:LU)).bind λak=>He (Ae k v) (Ae h 1) ah ak
def NO He:=PH He
def Ym(j22:Int->Int->UInt32->Int-> (List (Int×Int×UInt64×UInt64×Unit))->LU->Cg)(a f:Int)(g:LB)(b k h y:Int)(w:UInt32)(v:Int)(m:Bi5)(n:LU)(aa ab:Int)(ac ad:UInt64):Cg:=if(Bg y 0)then
some (([]:LU),0,y)
else(Gi (Bg a 0)).bind λ_=>(Af m (Me h a)).bind λ_=>(Pn m (Me h a) (aa,ab,ac,ad,())).bind λah=>j22 k v w h ah n
def Rv He a f g b:=Ym (NO He a f g b) a f g b
def Rm(j21:Jz3 (UInt32->Int-> (List (Int×Int×UInt64×UInt64×Unit))->LU->Int->Int->UInt64->UInt64->Cg))(j24:Int->LU->Cg)(a f:Int)(g:LB)(b k h:Int)(m:Bi5)(n:LU):Cg:=if(Cx h (Cm f a))then(fP g b k (Fy (Ae k 81) b)).bind λ(ag,ae,af)=>if(Bg af 0)then
some (([]:LU),0,af)
else(Gi (Bg a 0)).bind λ_=>(Af m (Me h a)).bind λ_=>(
(
(Af m (Me h a)).bind λo=>(
(EL ag ae 0 o.1 o.2.1 o.2.2.1 o.2.2.2.1).bind λ(w,v,aa,ab,ac,ad,y)=>j21 k h y w v m n aa ab ac ad)))
else
j24 k n
def Lz:Nat->Int->Int-> (List (Int×Int×UInt64×UInt64×Unit))->LU->Cg
|0,_,_,_,_=>none
|c+1,e,j,l,B=>Rm (Rv (Lz c) z d i A) NX z d i A e j l B
def LN a f g b:=Lz a f g b Ay
def NW(j16:Int->Int->LB->Jz3 ( (List (Int×Int×UInt64×UInt64×Unit))->LU->Cg))(a f:Int)(g:LB)(b:Int)(p:Bi5):Cg:=j16 a f g b 0 0 p ([]:LU)
def OG:=NW LN
def NL(j15:Int->Int->LB->Int-> (List (Int×Int×UInt64×UInt64×Unit))->Cg)(Zn:Int-> (List (Int×Int×UInt64×UInt64×Unit))->Cg)(a f:Int)(g:LB)(b u:Int)(p:Bi5):Cg:=if(Cx u 6)then(pA).bind λ(al,ae,af,am)=>(Af p u).bind λ_=>(Pn p u (al,ae,af,am,())).bind λan=>Zn (Ae u 1) an
else
j15 a f g b p
def Ze:Nat->Int-> (List (Int×Int×UInt64×UInt64×Unit))->Cg
|0,_,_=>none
|c+1,e,j=>NL OG (Ze c) z d i A e j
def Yr a f g b:=Ze a f g b Ay
def DF(j13:Int->Int->LB->Int->Int-> (List (Int×Int×UInt64×UInt64×Unit))->Cg)(a f:Int)(g:LB)(b:Int):Cg:=j13 a f g b 0 (List.replicate 6 ((0:Int),(0:Int),(0:UInt64),(0:UInt64),()))
def DP:=DF Yr
abbrev oS:=Option (Int×LX×LX×Int)
def Aaq:oS:=if F then
some (10,l,(List.replicate 16 (0:Int32)),0)
else
if(geq z 16)then
some (9,l,(List.replicate 16 (0:Int32)),0)
else
some (0,(List.replicate 16 (0:Int32)),(List.replicate 16 (0:Int32)),2)
def Aa4:=Aaq
def Ber (j2:Int->LX->Bool->oS)(a:Int)(b:LX):oS:=if(geq a 8)then
j2 a b (geq a 8)
else
j2 a b (geq a 24)
def rD:=Ber Aa4
def wS:Option (Int×Int32×Int×LX×LX×Int):=(rD z l).bind λ(c,d,e,i)=>if(Bg i 0)then
some (0,0,0,(List.replicate 16 (0:Int32)),(List.replicate 16 (0:Int32)),i)
else
some (z,0,c,d,e,0)
abbrev Blc:=Option Int32
def Vt:Blc:=some (Wr (Ah (Cl X (GI.toZ (1:UInt64)).toNat):Int32) (nC (Ah (Ed X 1):Int32)))
def Us(a:Int)(k:Int32)(b:Int)(f m:LX):Bi2:=(rD a f).bind λ(g,n,o,h)=>if((Bg h 0)||(Bg g b))then
some 8
else
some 0
def jW:Bjg:=if(geq z 8)then
some (4,0)
else
if(geq z 16)then
if(geq z 16)then
some (5,0)
else
some (0,2)
else
if(geq z 24)then
some (5,0)
else
some (0,2)
def SL:Blc:=(Gi (Ha z 0)).bind λ_=>(Gi (Ha z 0)).bind λ_=>some (Ah (s_ (Ap (Dp (Ah M:Int) (GI.toZ z).toNat) (Ah M:Int)) (GI.toZ z).toNat):Int32)
def Uw:Option (Int32×Int):=(jW z).bind λ(c,d)=>if(Bg d 0)then
some (0,d)
else(SL c M).bind λe=>some (e,0)
def EI(a:Int)(b f:LX):Bi2:=if((Bg a 9)&&(Bg a 10))then
some 8
else
some 0
abbrev Ra:=Option (Int32×Int)
def Amb(h:Int32)(a:Int)(b f:LX):Ra:=(Gi (Ha a 0)).bind λ_=>some ((Cl h (GI.toZ a).toNat),0)
def TM:=Amb
def FU(j6:Int32->Int->LX->LX->Ra)(HJ:Int32->Int->Ra)(b:LX)(a:Int)(f:LX)(h:Int32)(g:Int):Ra:=if(Cx g 16)then(Af b g).bind λm=>(Af f g).bind λ_=>(Af f g).bind λn=>HJ (Ae h (Cm m n)) (Ae g 1)
else
j6 h a b f
def Td:Nat->Int32->Int->Ra
|0,_,_=>none
|z+1,c,d=>FU TM (Td z) l A T c d
def Aly b a f:=Td b a f Ay
def UD(j4:LX->Int->LX->Int32->Int->Ra)(a:Int)(b f:LX):Ra:=(EI a b f).bind λk=>if(Bg k 0)then
some (0,k)
else(Gi (Ha (Ap a 1) 0)).bind λ_=>j4 b a f (Dp (1:Int32) (GI.toZ (Ap a 1)).toNat) 0
def NH:=UD Aly
def ZO:Blc:=if(geq z 0)then
some 4
else
if(Cx z 4)then
some 2
else
some 1
abbrev Ry:=Option (Int×LX×LX×Int)
def Bcg:Ry:=some (z,l,T,0)
def Amp:=Bcg
def FZ(j6:Int->LX->LX->Ry)(HJ:Int->LX->Ry)(h:Int32)(f:LX)(g a:Int)(b:LX):Ry:=if(Cx a 16)then(Af f a).bind λm=>if(geq m 0)then
HJ (Ae a 1) b
else
if((Cx m 0)==(Cx h 0))then(Af b a).bind λ_=>(Af b a).bind λo=>(ZO a).bind λp=>(Af b a).bind λ_=>(Pn b a (Ae o p)).bind λu=>HJ (Ae a 1) u
else(Af b a).bind λ_=>(Af b a).bind λv=>(ZO a).bind λw=>(Af b a).bind λ_=>(Pn b a (Ap v w)).bind λy=>HJ (Ae a 1) y
else
j6 g b f
def So:Nat->Int->LX->Ry
|0,_,_=>none
|z+1,c,d=>FZ Amp (So z) M w9 x9 c d
def Bc8 h f g:=So h f g Ay
def TG(j4:Int32->LX->Int->Int->LX->Ry)(g:Int)(k f:LX)(h:Int32):Ry:=(EI g k f).bind λn=>if(Bg n 0)then
some (0,(List.replicate 16 (0:Int32)),(List.replicate 16 (0:Int32)),n)
else
if(geq h 0)then
some (g,k,f,0)
else
j4 h f g 0 k
def dK:=TG Bc8
abbrev kA:=Option (Int×LX×LX×Int)
def Aqy:kA:=(Af (Um q9 1 ((16:Int)-(1:Int)) (QL q9 0 ((16:Int)-(0:Int)))) 0).bind λ_=>(Pn (Um q9 1 ((16:Int)-(1:Int)) (QL q9 0 ((16:Int)-(0:Int)))) 0 M).bind λz=>some (Bho,w9,z,0)
def bT:=Aqy
def KH(j2:Int32->Int->LX->LX->kA)(b:Int)(f a:LX)(g:Int32):kA:=(EI b f a).bind λh=>if(Bg h 0)then
some (0,(List.replicate 16 (0:Int32)),(List.replicate 16 (0:Int32)),h)
else(
(ZW 16 1 16).bind λ_=>(ZW 16 0 16).bind λ_=>j2 g b f a)
def mU:=KH bT
def PD:Option (Int×LX×LX):=(dK z l T y8).bind λ(c,d,e,i)=>(mU c d e M).bind λ(j,A,B,C)=>some (j,A,B)
abbrev Bkh:=Option (Int32×Int×LX×LX×Int)
def iP:Bkh:=(NH z l T).bind λ(c,d)=>if(Bg d 0)then
some (0,0,(List.replicate 16 (0:Int32)),(List.replicate 16 (0:Int32)),d)
else(PD z l T (Ae M c) M).bind λ(e,i,j)=>some ((Ae M c),e,i,j,0)
abbrev Bj8:=Option (Int32×Int×Int32×Int×LX×LX×Int)
def Kk:Bj8:=(Us z M Bho w9 q9).bind λc=>if(Bg c 0)then
some (0,0,0,0,(List.replicate 16 (0:Int32)),(List.replicate 16 (0:Int32)),c)
else(Uw z M).bind λ(d,e)=>(iP Bho w9 q9 y8).bind λ(i,j,l,A,B)=>(
some ((Ae i d),z,(Ae i d),j,l,A,B))
def WS:Bi2:=if((Cx z 1)||(Eg z 6))then
some 2
else
if(Eg (Ad l) 4000)then
some 4
else(Gi (Bg z 0)).bind λ_=>if(Bg (Me (Ad l) z) 0)then
some 2
else
some 0
def Db:Bk0:=(
(Bf ([]:LX) l).bind λz=>some z)
abbrev Gj:=Option (LX×Int)
def Bhk:Gj:=some (l,0)
def Aqu:=Bhk
abbrev Bkn:=Int->LX->Gj
def Aon(US:Bkn)(b a:Int)(h:LX):Gj:=US (Ae a b) h
def dG US:=Aon US
def KQ(j20:Bkn)(Bbp:Bkn)(b a g:Int)(h:LX):Gj:=if(Ha g 0)then(Gi (decide (0<= (Ae g 1)/\ (Ae g 1)<((Ae a b)-a)))).bind λ_=>(Gi (decide (0<=g/\g<((Ae a b)-a)))).bind λ_=>(Af h (a+(Ae g 1))).bind λn=>(Af h (a+g)).bind λo=>(Gi (decide (0<=g/\g<((Ae a b)-a)))).bind λ_=>(Pn h (a+g) (Ap n o)).bind λp=>Bbp (Ap g 1) p
else
j20 a h
def Vg(US:Bkn)(b a:Int):Nat->Int->LX->Gj
|0,_,_=>none
|q+1,g,h=>KQ (dG US b) (Vg US b a q) b a g h
def dI US b a:=Vg US b a Ay
def aG(j18:Int->Int->LX->Gj)(b a:Int)(u:LX):Gj:=j18 a (Ap (Ap ((Ae a b)-a) 1) 1) u
def bE US b:=aG (dI US b) b
def bW(j17:Bkn)(j22:LX->Gj)(b a:Int)(f:LX):Gj:=if(Cx a (Ad f))then(ZW (Ad f) a (Ae a b)).bind λ_=>if(Eg (Ap ((Ae a b)-a) 1) 0)then(Gi (decide (0<= (Ap ((Ae a b)-a) 1)/\ (Ap ((Ae a b)-a) 1)<((Ae a b)-a)))).bind λ_=>Option.bind (Gi (decide (0<= (Ap (Ap ((Ae a b)-a) 1) 1)/\ (Ap (Ap ((Ae a b)-a) 1) 1)<((Ae a b)-a)))) λ_=>(Af f (a+(Ap ((Ae a b)-a) 1))).bind λv=>(Af f (a+(Ap (Ap ((Ae a b)-a) 1) 1))).bind λw=>(Gi (decide (0<= (Ap ((Ae a b)-a) 1)/\ (Ap ((Ae a b)-a) 1)<((Ae a b)-a)))).bind λ_=>(Pn f (a+(Ap ((Ae a b)-a) 1)) (Ae v (Ej w 2))).bind λy=>j17 a y
else
j17 a f
else
j22 f
def Rg:Nat->Int->LX->Gj
|0,_,_=>none
|c+1,d,e=>bW (bE (Rg c) z) Aqu z d e
def Ati b:=Rg b Ay
def iL(j12:Int->Int->LX->Gj)(b:Int)(k:LX):Gj:=(WS b k).bind λm=>if(Bg m 0)then
some (([]:LX),m)
else(Db k).bind λaa=>j12 b 0 aa
def rX:=iL Ati
def Ayz:Bi2:=some 0
def Afy:=Ayz
abbrev Bkb:=Int->Option Int
def DV(j6:Bi2)(HJ:Bkb)(b f:Int32)(a:LX)(g:Int):Bi2:=if(Cx g (Ad a))then(Af a g).bind λh=>if((Cx h b)||(Eg h f))then
some 16
else
HJ (Ae g 1)
else
j6
def Qh:Nat->Int->Option Int
|0,_=>none
|z+1,c=>DV Afy (Qh z) M y8 Bic c
def Az1 b f a:=Qh b f a Ay
def PT(j4:Int32->Int32->LX->Int->Option Int)(m:Int)(a:LX):Bi2:=(Qn m).bind λ(b,f,k)=>if(Bg k 0)then
some k
else
if(Eg (Ad a) 4000)then
some 4
else
j4 b f a 0
def Ni:=PT Az1
abbrev Cr:=Option (LX×Int)
def JS:Cr:=(rX z l).bind λ(c,e)=>if(Bg e 0)then
some (([]:LX),e)
else(Ni d c).bind λi=>if(Bg i 0)then
some (([]:LX),i)
else
some (c,0)
def Kt:=JS
abbrev Bjd:=List (Int×Int32×(Int×LX×LX×Unit)×Unit)
def JP(Zn:Int-> (List (Int×Int32×(Int×LX×LX×Unit)×Unit))->LX->Cr)(a:Int)(f:LU)(b g:Int)(y:Int32)(v:Int)(h:Bjd)(k:LX)(aa:Int)(w:Int32)(ab:Int)(ac ad:LX):Cr:=if(Bg v 0)then
some (([]:LX),v)
else(Pn h (Me g a) (aa,w,(ab,ac,ad,()),())).bind λai=>(Bf k ([y]:LX)).bind λaj=>Zn (Ae g 1) ai aj
def Wb Zn:=JP Zn
def Ks(j16:Int->Int32->Int-> (List (Int×Int32×(Int×LX×LX×Unit)×Unit))->LX->Int->Int32->Int->LX->LX->Cr)(j18:Int->Int->LX->Cr)(f:LU)(a b g:Int)(h:Bjd)(k:LX):Cr:=if(Cx g (Ad f))then(Af f g).bind λag=>(Gi (Bg a 0)).bind λ_=>(Af h (Me g a)).bind λ_=>(
(Af h (Me g a)).bind λm=>(
(Vt ag).bind λae=>(
(Kk m.1 m.2.1 m.2.2.1.1 m.2.2.1.2.1 m.2.2.1.2.2.1 ae).bind λ(y,aa,w,ab,ac,ad,v)=>j16 g y v h k aa w ab ac ad)))
else
j18 a b k
def Ig:Nat->Int-> (List (Int×Int32×(Int×LX×LX×Unit)×Unit))->LX->Cr
|0,_,_,_=>none
|z+1,c,d,e=>Ks (Wb (Ig z) Bhp l6 Bhq) Kt l6 Bhp Bhq c d e
def JR f a b:=Ig f a b Ay
def JU(j13:LU->Jz3 ( (List (Int×Int32×(Int×LX×LX×Unit)×Unit))->LX->Cr))(f:LU)(a b:Int)(n:Bjd):Cr:=j13 f a b 0 n ([]:LX)
def JN:=JU JR
def JY(j12:LU->Int->Int-> (List (Int×Int32×(Int×LX×LX×Unit)×Unit))->Cr)(Zo:Int-> (List (Int×Int32×(Int×LX×LX×Unit)×Unit))->Cr)(f:LU)(a b:Int)(o:LX)(p:Int)(n:Bjd):Cr:=if(Cx p 6)then(wS b o).bind λ(ak,af,ae,al,am,w)=>(Af n p).bind λ_=>(Pn n p (ak,af,(ae,al,am,()),())).bind λan=>Zo (Ae p 1) an
else
j12 f a b n
def Wm:Nat->Int-> (List (Int×Int32×(Int×LX×LX×Unit)×Unit))->Cr
|0,_,_=>none
|z+1,c,d=>JY JN (Wm z) l6 Bhp Bhq Bic c d
def Wo f a b o:=Wm f a b o Ay
def Yt(j10:LU->Int->Int->LX->Int-> (List (Int×Int32×(Int×LX×LX×Unit)×Unit))->Cr)(a b:Int)(o:LX)(f:LU):Cr:=j10 f a b o 0 (List.replicate 6 ((0:Int),(0:Int32),((0:Int),(List.replicate 16 (0:Int32)),(List.replicate 16 (0:Int32)),()),()))
def Xw:=Yt Wo
def Hs:Bkv:=(Fv z d).bind λc=>if(Bg c 0)then
some (([]:LX),c)
else
if(Cx A 1)then
some (([]:LX),2)
else(Gi (Bg z 0)).bind λ_=>if(Eg A (Ej 4000 z))then
some (([]:LX),2)
else(BN R).bind λ(e,i)=>if(Bg i 0)then
some (([]:LX),i)
else(w_ e).bind λ(j,B,C)=>if(Bg C 0)then
some (([]:LX),C)
else(DP z A j B).bind λ(D,E,F)=>if(Bg F 0)then
some (([]:LX),F)
else
if(Ha (Ap B E) 8)then
some (([]:LX),12)
else(DA j B E (Ap B E)).bind λ(G,I)=>if((Bg I 0)||(Bg G 0))then
some (([]:LX),12)
else(Xw z d l D).bind λ(J,L)=>some (J,L)
abbrev qD:=Option (Int×Int)
def Aug:qD:=(Cb c (Ap (Ad c) 32) (Ad c)).bind λz=>(KZ z 0).bind λ(d,e,i)=>if i then
if(Cx (Ap (Ad c) 32) d)then
some (0,24)
else
some ((Ae d 32),0)
else(Cb c (Ap (Ad c) 32) (Ad c)).bind λj=>(KZ j 2147483648).bind λ(l,A,B)=>if(!B)then
some (0,12)
else
if(Cx (Ad c) (Ae l 64))then
some (0,24)
else(Cb c (Ap (Ad c) (Ae l 64)) (Ae (Ap (Ad c) (Ae l 64)) 32)).bind λC=>(lV l A 2684354560).bind λD=>(Ij C D).bind λE=>if(!E)then
some (0,12)
else
some ((Ae l 64),0)
def Auh:=Aug
def Auc(j2:LB->qD)(a:LB):qD:=if(Cx (Ap (Ad a) 32) 0)then
some (0,6)
else(Cb a (Ap (Ad a) 32) (Ad a)).bind λv=>(Km v ([(65:UInt8),(80:UInt8),(69:UInt8),(84:UInt8),(65:UInt8),(71:UInt8),(69:UInt8),(88:UInt8)]:LB)).bind λw=>if(!w)then
some (0,6)
else
j2 a
def tN:=Auc Auh
abbrev Fs:=Option (Int×Int)
def Bg4:Fs:=some (z,0)
def Ad6:=Bg4
abbrev Blf:=Int->LB->Fs
def Acx(bk8:Blf)(a:Int)(g:LB):Fs:=bk8 (Ae a 1) g
def Abb bk8:=Acx bk8
def Ac0(j12:Blf)(a f:Int)(b:LB):Fs:=if(geq f 0)then
some (0,38)
else(Cb b 0 (Ap (Ad b) f)).bind λg=>j12 a g
def FM bk8:=Ac0 (Abb bk8)
def HM(j11:Int->Int->LB->Fs)(j14:Int->Fs)(a:Int)(b:LB):Fs:=if(Eg (Ad b) 0)then(tN b).bind λ(f,k)=>j11 a f b
else
j14 a
def Sj:Nat->Int->LB->Fs
|0,_,_=>none
|q+1,a,b=>HM (FM (Sj q)) Ad6 a b
def Bhc:=Sj Ay
def IK(j8:Blf)(h:LB):Fs:=if(Eg (Ad h) 4000)then
some (0,38)
else
j8 0 h
def Rn:=IK Bhc
abbrev Ce:=Option (Int×Int×Int×LX×Int)
def Alg:Ce:=(Cb c z (Ad c)).bind λe=>(Rn e).bind λ(i,A)=>if(Bg A 0)then
some (0,0,0,([]:LX),38)
else
some (d,j,C,l,0)
def NZ:=Alg
def Afo(UQ:Int->Int->LX->Ce)(a:LB)(w:LI)(m f g h o p n b ab ae:Int)(ac:LX)(k:LI)(y aj ak aa:Int)(an ad:LX):Ce:=if(Bg ak 0)then
some (0,0,0,([]:LX),ak)
else(Bf ad an).bind λau=>UQ (Ae y aj) (Ae aa 1) au
def QC UQ:=Afo UQ
def DT(j24:Jz4 (LX->LX->Ce))(j26:LB->Jz4 (LX->Ce))(a:LB)(w:LI)(m f g h o p n b ab ae:Int)(ac:LX)(k:LI)(y aa:Int)(ad:LX):Ce:=if(Cx aa (Ad w))then(Af w aa).bind λ_=>(Af w aa).bind λaj=>if(Cx (Ad a) (Ae y aj))then
some (0,0,0,([]:LX),24)
else(Af k aa).bind λ_=>(Cb a y (Ae y aj)).bind λav=>(Af k aa).bind λaw=>(Hs f g ac aw av).bind λ(an,ak)=>j24 y aj ak aa an ad
else
j26 a y f g h ad
def Pw:Nat->Int->Int->LX->Ce
|0,_,_,_=>none
|e+1,i,A,D=>DT (QC (Pw e) c B z d j C E O y5 Bht Bhu Bhv l Bhw) NZ c B z d j C E O y5 Bht Bhu Bhv l Bhw i A D
def Aj3 a w m f g h o p n b ab ae ac k:=Pw a w m f g h o p n b ab ae ac k Ay
def Up(j21:LB->LI->Jz10 (LX->LI->Int->Int->LX->Ce))(a u:LB)(m f g h o p n b:Int)(k:LI)(ao ab ae:Int)(w:LI):Ce:=if(Bg ao 0)then
some (0,0,0,([]:LX),ao)
else(Mv u).bind λ(ac,bc)=>j21 a w m f g h o p n b ab ae ac k ab 0 ([]:LX)
def DU:=Up Aj3
abbrev Bjj:=LB->LB->Jz8 (LI->Int->Int->Int->LI->Ce)
def PR(j20:Bjj)(a u:LB)(v:LI)(m f g h o p n b af:Int)(k:LI):Ce:=j20 a u m f g h o p n b k 0 (Ae (Ae b (Cm 4 (Ad v))) 4) af v
def PC:=PR DU
def CF(j19:LB->LB->LI->Jz9 (LI->Ce))(xO:Int->Int->Ce)(v:LI)(a u:LB)(m f g h o p n b:Int)(k:LI)(ag af:Int):Ce:=if(Cx ag (Ad v))then(Af v ag).bind λ_=>(Af v ag).bind λax=>xO (Ae ag 1) (Ae af ax)
else
j19 a u v m f g h o p n b af k
def Pq:Nat->Int->Int->Ce
|0,_,_=>none
|z+1,c,d=>CF PC (Pq z) B i l9 A V o9 Bh4 Bh5 Bh6 I p8 Bih c d
def Axq v a u m f g h o p n b k:=Pq v a u m f g h o p n b k Ay
def PU(j20:Bjj)(j17:LI->LB->LB->Jz8 (LI->Int->Int->Ce))(al:Int)(a u:LB)(m f g h o p n b ah ai:Int)(v k:LI):Ce:=if(Bg al 0)then
j20 a u m f g h o p n b k al ah ai ([]:LI)
else
j17 v a u m f g h o p n b k 0 (Ae (Ae b (Cm 4 (Ad v))) 4)
def Ajf:=PU DU Axq
def OE(j20:Bjj)(j16:Int->LB->LB->Jz10 (LI->LI->Ce))(a u:LB)(m f g h o p n b ah ai:Int)(k:LI):Ce:=if(Cx (Ad a) b)then
j20 a u m f g h o p n b k 24 ah ai ([]:LI)
else(Cb a b (Ad a)).bind λay=>(Yu ay (Ad k)).bind λ(v,al)=>j16 al a u m f g h o p n b ah ai v k
def CU:=OE DU Ajf
def MB(j15:LB->LB->Jz10 (LI->Ce))(a u:LB)(m f g h o p n b ah ai:Int)(k:LI)(am:Int):Ce:=if(Bg am 0)then
some (0,0,0,([]:LX),am)
else
j15 a u m f g h o p n b ah ai k
def CK:=MB CU
def UK(j14:LB->LB->Jz10 (LI->Int->Ce))(a u:LB):Ce:=if(Eg (Ad u) 64)then
some (0,0,0,([]:LX),2)
else(gY a).bind λ(m,f,g,h,o,p,n,b,ah,ai,k,ap)=>if(Bg ap 0)then
some (0,0,0,([]:LX),ap)
else
if((u==([]:LB)) !=(geq m 1))then
j14 a u m f g h o p n b ah ai k 26
else
if(geq m 1)then
j14 a u m f g h o p n b ah ai k 0
else
if(Cx (Ad a) b)then
j14 a u m f g h o p n b ah ai k 24
else(Cb a n b).bind λaz=>(Rq az u).bind λ(ba,bd)=>if(!ba)then
j14 a u m f g h o p n b ah ai k 26
else
j14 a u m f g h o p n b ah ai k 0
def OQ:=UK CK
def gP:Bi2:=(OQ c e).bind λ(z,d,i,j,l)=>some l
def Apx(a n:LB)(b:Int):Option UInt8:=if(Eg (Ad a) 100000)then
some 0
else(Hf a).bind λ(f,g)=>if(Bg g 0)then
some 1
else(Cb a f (Ad a)).bind λh=>(Jt h).bind λ(k,o,p,u,v,m)=>if(Bg m 0)then
some 2
else
if(geq b 26)then
if(geq b 26)then
some 3
else
some 4
else
if((geq k 2)&&(Cx (Ap (Ad a) f) 30))then
some 3
else
some 4
abbrev Gw:=Option (LI×Int)
def Bev:Gw:=some (B,0)
def QU:=Bev
def Aaz(bk6:Int->Int->LI->Gw)(a:LI)(b g h:Int)(k:LI):Gw:=bk6 (Ae b 1) (Ae g h) k
def ER bk6:=Aaz bk6
def Vj(j8:Jz3 (LI->Gw))(j10:LI->Gw)(a:LI)(b g:Int)(f:LI):Gw:=if(Cx b (Ad a))then(Af a b).bind λh=>(Bf f ([(Ae g h)]:LI)).bind λk=>j8 b g h k
else
j10 f
def Lp:Nat->Int->Int->LI->Gw
|0,_,_,_=>none
|z+1,c,d,e=>Vj (ER (Lp z) B) QU B c d e
def Bfw a:=Lp a Ay
def FF(j6:LI->Int->Int->LI->Gw)(a:LI):Gw:=(Jq a).bind λm=>if(Bg m 0)then
some (([]:LI),m)
else
j6 a 0 0 ([(0:Int)]:LI)
def Wx:=FF Bfw
abbrev Du:=Option (LB×Int)
def Axj:Du:=some (c,0)
def Aen:=Axj
abbrev Bk1:=Int->LB->Du
def Aep(He:Bk1)(b:Int)(a:LX)(f:Int)(h:LB):Du:=He (Ae f 1) h
def JA He:=Aep He
def Xz(j28:Bk1)(Bbq:Bk1)(b:Int)(a:LX)(k:Int32)(f m:Int)(h:LB):Du:=if(Cx m (Ej b 8))then(Gi (Ha (Cm 8 m) 0)).bind λ_=>(Bf h ([(Ah (Cl k (GI.toZ (Cm 8 m)).toNat):UInt8)]:LB)).bind λp=>Bbq (Ae m 1) p
else
j28 f h
def Il(He:Bk1)(b:Int)(a:LX)(k:Int32)(f:Int):Nat->Int->LB->Du
|0,_,_=>none
|q+1,m,h=>Xz (JA He b a) (Il He b a k f q) b a k f m h
def IE He b a k f:=Il He b a k f Ay
def HL(j26:Int32->Int->Int->LB->Du)(b:Int)(a:LX)(f:Int)(g:LB)(k:Int32):Du:=j26 k f 0 g
def Mt He b a:=HL (IE He b a) b a
def Xx(j25:Int->LB->Int32->Du)(j30:LB->Du)(b:Int)(a:LX)(f:Int)(g:LB):Du:=if(Cx f (Ad a))then(Af a f).bind λn=>if(geq b 8)then
j25 f g (Ae n 128)
else
j25 f g n
else
j30 g
def Ft:Nat->Int->LB->Du
|0,_,_=>none
|c+1,d,e=>Xx (Mt (Ft c) z l) Aen z l d e
def Axe b a:=Ft b a Ay
def NG(j16:Int->LX->Int->LB->Du)(b:Int)(a:LX):Du:=(Ni b a).bind λo=>if(Bg o 0)then
some (([]:LB),o)
else
j16 b a 0 ([]:LB)
def Ik:=NG Axe
abbrev Er:=Option (LB×Int)
def Axk:Er:=if(Bg d 0)then
some (([]:LB),d)
else
if((Cx z 0)||(Ha z 0))then
some (([]:LB),2)
else
none
def Bhg:=Axk
def Bge:Er:=some (i,z)
def Adt:=Bge
def Bgs(j10:Int->LB->Er)(w a m g:Int)(aa:LX)(n o p h:Int)(k:LB)(u:LX)(v b f:LI):Er:=if(Bg w 0)then
j10 w ([]:LB)
else(Ik g aa).bind λ(ak,al)=>j10 al ak
def Ax3:=Bgs Adt
def Aw5(j10:Int->LB->Er)(j9:Jz4 (LX->Int->Int->Int->Int->LB->LX->LI->LI->LI->Er))(a h ab y:Int)(k:LB)(m g:Int)(u:LX)(n o p:Int)(f v b:LI):Er:=if(Eg (Ae h y) (Ad k))then
j10 24 ([]:LB)
else(Af f a).bind λ_=>(Cb k (Ae h ab) (Ae h y)).bind λam=>(Af f a).bind λan=>(Hs m g u an am).bind λ(aa,w)=>j9 w a m g aa n o p h k u v b f
def Bhh:=Aw5 Adt Ax3
def Awc(j8:Jz4 (LB->Int->Int->LX->Int->Int->Int->LI->LI->LI->Er))(a:Int)(f:LI)(n m g o p h:Int)(k:LB)(u:LX)(v b:LI):Er:=if(Bg (0:Int) (0:Int))then
some (([]:LB),0)
else
if((Cx a 0)||(Ha a (Ad f)))then
some (([]:LB),2)
else(Af b a).bind λ_=>(Af b (Ae a 1)).bind λ_=>(Af b a).bind λab=>(Af b (Ae a 1)).bind λy=>j8 a h ab y k m g u n o p f v b
def Bhb:=Awc Bhh
def Axi(j6:Int->Int->Er)(j7:Int->LI->Jz6 (LB->LX->LI->LI->Er))(k ad:LB)(a:Int):Er:=(Nh k ad).bind λ(n,m,g,o,p,h,v,ae)=>if(Bg ae 0)then
j6 a ae
else(Dq n m g o p).bind λ(f,af)=>if(Bg af 0)then
j6 a af
else(Wx v).bind λ(b,ag)=>if(Bg ag 0)then
j6 a ag
else(Mv ad).bind λ(u,ah)=>if(Bg ah 0)then
j6 a ah
else(Af b (Ad f)).bind λ_=>(Af b (Ad f)).bind λao=>j7 a f n m g o p h k u v b
def BH:=Axi Bhg Bhb
abbrev Oa:=Option (Int×Int)
def Aj5(n f a b g h:Int):Oa:=some ((Ej (Cm (Cm n a) b) 8),0)
def LZ:=Aj5
def BM(j6:Jz6 Oa)(HJ:Int->Int->Oa)(m f a b g h:Int)(k:LI)(n o:Int):Oa:=if(Cx o m)then(Af k o).bind λ_=>(Af k o).bind λp=>HJ (Ae n p) (Ae o 1)
else
j6 n f a b g h
def Pe:Nat->Int->Int->Oa
|0,_,_=>none
|c+1,e,i=>BM LZ (Pe c) z d j C E O L e i
def Ayg m f a b g h k:=Pe m f a b g h k Ay
def PW(j4:Jz6 (LI->Int->Int->Oa))(f a b g h m:Int):Oa:=(Dq f a b g h).bind λ(k,u)=>if((Bg u 0)||(Eg m (Ad k)))then
some (0,8)
else
j4 m f a b g h k 0 0
def SC:=PW Ayg
abbrev Jo:=Option (Int×UInt8×Int×Int×Int)
def Agd(b f g h k m o:Int)(a:LI)(y:Int)(aa:UInt8)(ab:Int):Jo:=(SC f g h k m y).bind λ(ac,ad)=>some (b,aa,ab,ac,ad)
def MI:=Agd
def MJ(j8:Jz7 (LI->Int->UInt8->Int->Jo))(bk6:Int->Jo)(p n:LB)(a:LI)(b:Int)(u:UInt8)(f g h k m o v:Int):Jo:=if(Cx v (Ad a))then
if(geq b 0)then
j8 b f g h k m o a (Ad a) u 0
else(BH p n v).bind λ(ag,ae)=>if(Bg ae 0)then
j8 b f g h k m o a v 5 v
else
bk6 (Ae v 1)
else
j8 b f g h k m o a (Ad a) u 0
def AW:Nat->Int->Jo
|0,_=>none
|d+1,i=>MJ MI (AW d) c e B z G J P Bii Bij Bik Bil i
def Afr p n a b u f g h k m o:=AW p n a b u f g h k m o Ay
def NQ(j6:LB->LB->LI->Int->UInt8->Jz7 Jo)(p n:LB)(b f g h k m o:Int)(a:LI)(u:UInt8):Jo:=j6 p n a b u f g h k m o 0
def Afm:=NQ Afr
def QA(j5:LB->LB->Jz7 (LI->UInt8->Jo))(p n:LB):Jo:=if(Eg (Ad n) 64)then
some (0,0,0,0,2)
else(gP p n).bind λb=>(Nh p n).bind λ(f,g,h,k,m,o,a,w)=>if(Bg w 0)then(Apx p n w).bind λaf=>some (b,af,0,0,0)
else
if(Bg b 0)then
j5 p n b f g h k m o a 6
else
j5 p n b f g h k m o a 0
def Uo:=QA Afm
def J3:Option (Int×Int×Int×Int×Int×Int×LI×Int×UInt8×Int×Int×Int):=(Nh c e).bind λ(z,d,i,j,l,A,B,C)=>if(Bg C 0)then
some (0,0,0,0,0,0,([]:LI),0,0,0,0,C)
else(Uo c e).bind λ(D,E,F,G,I)=>if(Bg I 0)then
some (0,0,0,0,0,0,([]:LI),0,0,0,0,I)
else
some (z,d,i,j,l,A,B,D,E,F,G,0)
def Azm:Bi2:=if Bhx then
some 8
else
if(Cx z 0)then
if(Cx z 0)then
some 8
else
some 0
else
if(Eg z 99)then
if(Eg z 99)then
some 8
else
some 0
else
if(Eg G 6)then
if(Eg G 6)then
some 8
else
some 0
else
if(Cx J 0)then
if(Cx J 0)then
some 8
else
some 0
else
if(Ha J (Ad B))then
if(Ha J (Ad B))then
some 8
else
some 0
else
if(Cx P 0)then
if(Cx P 0)then
some 8
else
some 0
else
if(Eg P 12000)then
some 8
else
some 0
def Aym:=Azm
def Bb4(j4:LI->Int->UInt8->Int->Int->Bool->Option Int)(n o p u v k:Int)(m:LI)(a:Int)(h:UInt8)(b g:Int)(f:LI)(ab:Bool):Bi2:=if ab then
some 8
else
if(Cx k 22)then
j4 f a h b g (Cx k 22)
else
j4 f a h b g (Eg k 100000)
def Az0:=Bb4 Aym
def Azq(j3:Jz6 (LI->Int->UInt8->Int->Int->LI->Bool->Option Int))(n o p u v k:Int)(m:LI)(a:Int)(h:UInt8)(b g:Int):Bi2:=(Dq n o p u v).bind λ(f,w)=>if(Bg w 0)then
j3 n o p u v k m a h b g f (Bg w 0)
else(Jq m).bind λy=>if(Bg y 0)then
j3 n o p u v k m a h b g f (Bg y 0)
else
j3 n o p u v k m a h b g f (Bg (Ad f) (Ad m))
def jN:=Azq Az0
abbrev Al:=Option (LB×Int)
def Azl:Al:=(Bf c ([10]:LB)).bind λz=>(Gi (decide (Ad z<=17179869184))).bind λ_=>some (z,0)
def Agc:=Azl
abbrev Bj9:=Int->LB->Al
def Afv(j50:LB->Al)(Bbr:Bj9)(a:Int)(b:UInt8)(f g w:Int)(v:LB):Al:=if(Cx w (Ad ([a,(Ah b:Int),f,g]:LI)))then(Af ([a,(Ah b:Int),f,g]:LI) w).bind λ_=>(Af ([a,(Ah b:Int),f,g]:LI) w).bind λbf=>(strconv_Itoa bf).bind λaq=>(Bf ([32]:LB) aq).bind λbg=>(Bf v bg).bind λbh=>Bbr (Ae w 1) bh
else
j50 v
def PN:Nat->Int->LB->Al
|0,_,_=>none
|c+1,d,e=>Afv Agc (PN c) z G J P d e
def Ala a b f g:=PN a b f g Ay
def Afx(j48:Int->UInt8->Jz3 (LB->Al))(a:Int)(b:UInt8)(f g:Int)(y:LB):Al:=(Bf y ([10,102,111,117,110,100]:LB)).bind λar=>j48 a b f g 0 ar
def Axr:=Afx Ala
def Aim(j47:Int->UInt8->Int->Int->LB->Al)(Bbs:Bj9)(h:LI)(a:Int)(b:UInt8)(f g ak:Int)(y:LB):Al:=if(Cx ak (Ad h))then(Af h ak).bind λbi=>(strconv_Itoa bi).bind λau=>(Bf ([32]:LB) au).bind λaq=>(Bf y aq).bind λbj=>Bbs (Ae ak 1) bj
else
j47 a b f g y
def NT:Nat->Int->LB->Al
|0,_,_=>none
|c+1,d,e=>Aim Axr (NT c) B z G J P d e
def Agi h a b f g:=NT h a b f g Ay
def Ain(j45:LI->Int->UInt8->Jz3 (LB->Al))(k m n o p u:Int)(h:LI)(a:Int)(b:UInt8)(f g:Int)(aa:LB):Al:=(Bf aa ([58]:LB)).bind λav=>j45 h a b f g 0 av
def Azr:=Ain Agi
abbrev Bjb:=Jz6 (LI->Int->UInt8->Int->Int->LB->Al)
def Afj(j44:Bjb)(Bbt:Bj9)(u k m n o p:Int)(h:LI)(a:Int)(b:UInt8)(f g ab:Int)(aa:LB):Al:=if(Cx ab (Ad ([u]:LI)))then(Af ([u]:LI) ab).bind λ_=>(Af ([u]:LI) ab).bind λbk=>(strconv_Itoa bk).bind λaw=>(Bf ([32]:LB) aw).bind λau=>(Bf aa au).bind λbl=>Bbt (Ae ab 1) bl
else
j44 k m n o p u h a b f g aa
def NA:Nat->Int->LB->Al
|0,_,_=>none
|c+1,e,i=>Afj Azr (NA c) z d j C E O L A G J P e i
def Agf u k m n o p h a b f g:=NA u k m n o p h a b f g Ay
abbrev Bi9:=Jz6 (LI->Int->UInt8->Int->Int->Int->LB->Al)
def Agg(j42:Bi9)(k m n o p u:Int)(h:LI)(a:Int)(b:UInt8)(f g:Int)(ac:LB):Al:=(Bf ac ([10,102,114,97,109,101,115]:LB)).bind λax=>j42 u k m n o p h a b f g 0 ax
def Azg:=Agg Agf
def Afs(j41:Bjb)(Bbu:Bj9)(p k m n o u:Int)(h:LI)(a:Int)(b:UInt8)(f g ad:Int)(ac:LB):Al:=if(Cx ad (Ad ([p]:LI)))then(Af ([p]:LI) ad).bind λ_=>(Af ([p]:LI) ad).bind λbm=>(strconv_Itoa bm).bind λay=>(Bf ([32]:LB) ay).bind λaw=>(Bf ac aw).bind λap=>Bbu (Ae ad 1) ap
else
j41 k m n o p u h a b f g ac
def MT:Nat->Int->LB->Al
|0,_,_=>none
|c+1,e,i=>Afs Azg (MT c) z d j C E O L A G J P e i
def Afu p k m n o u h a b f g:=MT p k m n o u h a b f g Ay
def Ah3(j39:Bi9)(k m n o p u:Int)(h:LI)(a:Int)(b:UInt8)(f g:Int)(ae:LB):Al:=(Bf ae ([32,99,111,117,110,116]:LB)).bind λaz=>j39 p k m n o u h a b f g 0 az
def Az5:=Ah3 Afu
def Age(j38:Bjb)(Bbv:Bj9)(o k m n p u:Int)(h:LI)(a:Int)(b:UInt8)(f g af:Int)(ae:LB):Al:=if(Cx af (Ad ([o]:LI)))then(Af ([o]:LI) af).bind λ_=>(Af ([o]:LI) af).bind λbn=>(strconv_Itoa bn).bind λba=>(Bf ([32]:LB) ba).bind λay=>(Bf ae ay).bind λar=>Bbv (Ae af 1) ar
else
j38 k m n o p u h a b f g ae
def MN:Nat->Int->LB->Al
|0,_,_=>none
|c+1,e,i=>Age Az5 (MN c) z d j C E O L A G J P e i
def Afl o k m n p u h a b f g:=MN o k m n p u h a b f g Ay
def Aj4(j36:Bi9)(k m n o p u:Int)(h:LI)(a:Int)(b:UInt8)(f g:Int)(ag:LB):Al:=(Bf ag ([32,114,97,116,101]:LB)).bind λbp=>j36 o k m n p u h a b f g 0 bp
def Axw:=Aj4 Afl
def Akj(j35:Bjb)(Bbw:Bj9)(n k m o p u:Int)(h:LI)(a:Int)(b:UInt8)(f g ah:Int)(ag:LB):Al:=if(Cx ah (Ad ([n]:LI)))then(Af ([n]:LI) ah).bind λ_=>(Af ([n]:LI) ah).bind λbq=>(strconv_Itoa bq).bind λbb=>(Bf ([32]:LB) bb).bind λba=>(Bf ag ba).bind λav=>Bbw (Ae ah 1) av
else
j35 k m n o p u h a b f g ag
def PZ:Nat->Int->LB->Al
|0,_,_=>none
|c+1,e,i=>Akj Axw (PZ c) z d j C E O L A G J P e i
def Aj9 n k m o p u h a b f g:=PZ n k m o p u h a b f g Ay
def Alj(j33:Bi9)(k m n o p u:Int)(h:LI)(a:Int)(b:UInt8)(f g:Int)(ai:LB):Al:=(Bf ai ([32,98,105,116,115]:LB)).bind λbr=>j33 n k m o p u h a b f g 0 br
def Bau:=Alj Aj9
def Aj8(j32:Bjb)(Bbx:Bj9)(m k n o p u:Int)(h:LI)(a:Int)(b:UInt8)(f g aj:Int)(ai:LB):Al:=if(Cx aj (Ad ([m]:LI)))then(Af ([m]:LI) aj).bind λ_=>(Af ([m]:LI) aj).bind λbs=>(strconv_Itoa bs).bind λbc=>(Bf ([32]:LB) bc).bind λbb=>(Bf ai bb).bind λax=>Bbx (Ae aj 1) ax
else
j32 k m n o p u h a b f g ai
def MK:Nat->Int->LB->Al
|0,_,_=>none
|c+1,e,i=>Aj8 Bau (MK c) z d j C E O L A G J P e i
def Ak7 m k n o p u h a b f g:=MK m k n o p u h a b f g Ay
def Akh(j30:Bi9)(k m n o p u:Int)(h:LI)(a:Int)(b:UInt8)(f g:Int)(al:LB):Al:=(Bf al ([32,99,104,97,110,110,101,108,115]:LB)).bind λbt=>j30 m k n o p u h a b f g 0 bt
def Azv:=Akh Ak7
def Ak9(j29:Bjb)(UR:Bj9)(k m n o p u:Int)(h:LI)(a:Int)(b:UInt8)(f g am:Int)(al:LB):Al:=if(Cx am (Ad ([k]:LI)))then(Af ([k]:LI) am).bind λ_=>(Af ([k]:LI) am).bind λbu=>(strconv_Itoa bu).bind λbv=>(Bf ([32]:LB) bv).bind λbc=>(Bf al bc).bind λaz=>UR (Ae am 1) az
else
j29 k m n o p u h a b f g al
def NV:Nat->Int->LB->Al
|0,_,_=>none
|c+1,e,i=>Ak9 Azv (NV c) z d j C E O L A G J P e i
def Azy k m n o p u h a b f g:=NV k m n o p u h a b f g Ay
def Akt(j27:Bi9)(k m n o p u:Int)(h:LI)(a:Int)(b:UInt8)(f g:Int):Al:=(Bf ([]:LB) ([102,111,114,109,97,116]:LB)).bind λbw=>j27 k m n o p u h a b f g 0 bw
def Ale:=Akt Azy
def TW(j26:Jz6 (LI->Int->UInt8->Int->Int->Al))(k m n o p u:Int)(h:LI)(a:Int)(b:UInt8)(f g:Int):Al:=(jN k m n o p u h a b f g).bind λan=>if(Bg an 0)then
some (([]:LB),an)
else(
(
(
j26 k m n o p u h a b f g)))
def G0:=TW Ale
def Io:Bi8:=(Ei c e).bind λz=>if z then(Cb c 0 (Ap (Ad c) (Ad e))).bind λd=>some d
else
some c
def Iz:Bi8:=(Io c e).bind λz=>some z
def Auo(s:LB):Option (Int32×Int):=none
def Be8:Bi8:=(Cb c z (Ad c)).bind λd=>(Bf i d).bind λe=>(Gi (decide (Ad e<=17179869184))).bind λ_=>some e
def Om:=Be8
abbrev Bkr:=Int->Int->LB->Option (LB)
def PF(j12:Bke)(bk8:Bkr)(a g b:LB)(f h m:Int)(n:LB):Bi8:=if(Cx m f)then(Cb a h (Ad a)).bind λae=>(strings_Index ae g).bind λaa=>(Cb a h (Ae h aa)).bind λaf=>(Bf n af).bind λag=>(Bf ag b).bind λah=>bk8 (Ae (Ae h aa) (Ad g)) (Ae m 1) ah
else
j12 a h n
def Yv:Nat->Int->Int->LB->Option (LB)
|0,_,_,_=>none
|z+1,d,j,l=>PF Om (Yv z) c e i A d j l
def Bep a g b f:=Yv a g b f Ay
def JW(j12:Bke)(Zo:Bkr)(a b:LB)(f k o:Int)(p:LB):Bi8:=if(Cx o (Ap f 1))then(Cb a k (Ad a)).bind λv=>(Auo v).bind λ(am,ab)=>(Cb a k (Ae k ab)).bind λai=>(Bf p ai).bind λaj=>(Bf aj b).bind λak=>Zo (Ae k ab) (Ae o 1) ak
else
j12 a k p
def Wn:Nat->Int->Int->LB->Option (LB)
|0,_,_,_=>none
|d+1,i,j,l=>JW Om (Wn d) c e z i j l
def Bef a b f:=Wn a b f Ay
def OA(j8:LB->LB->LB->Jz3 (LB->Option (LB)))(j10:LB->LB->Jz3 (LB->Option (LB)))(a g b:LB)(f:Int):Bi8:=Option.bind (Gi (decide (0<= (Ae (Ad a) (Cm f (Ap (Ad b) (Ad g))))/\ (Ae (Ad a) (Cm f (Ap (Ad b) (Ad g))))<=281474976710656))) λ_=>if(Eg (Ad g) 0)then
j8 a g b f 0 0 ([]:LB)
else(Bf ([]:LB) b).bind λal=>j10 a b f 0 0 al
def Bei:=OA Bep Bef
def MG(j7:LB->LB->LB->Int->Option (LB))(a g b:LB)(u:Int):Bi8:=if((g==b)||(geq u 0))then
some a
else(strings_Count a g).bind λw=>if(geq w 0)then
some a
else
if((Cx u 0)||(Cx w u))then
j7 a g b w
else
j7 a g b u
def Aew:=MG Bei
def NB:Bi8:=(Aew c e i (-1:Int)).bind λz=>some z
def Abz:Bi8:=(Gi (decide (Ad c<=17179869184))).bind λ_=>some c
def EH:=Abz
def EO:Bi8:=if(Cx x9 (Ad Bhz))then(Af Bhz x9).bind λz=>(Bf y9 l7).bind λc=>(Bf c z).bind λd=>Bhn (Ae x9 1) d
else
Bhm y9
def Pz:Nat->Int->LB->Option (LB)
|0,_,_=>none
|z+1,d,e=>EO EH (Pz z) c N d e
def Ab0 a f:=Pz a f Ay
def FJ(j14:LB-> (List LB)->Int->LB->Option (LB))(b:Bi3)(a:LB)(g:Int):Bi8:=(Gi (decide (0<=g/\g<=281474976710656))).bind λ_=>(Af b 0).bind λn=>(Bf ([]:LB) n).bind λv=>(Cb b 1 (Ad b)).bind λf=>j14 a f 0 v
def Vp:=FJ Ab0
abbrev Bj7:=(List LB)->LB->Int->Option (LB)
abbrev Bk5:=Int->Int->Option (LB)
def EM(j13:Bj7)(XR:Bk5)(b:Bi3)(a:LB)(g m:Int):Bi8:=if(Cx m (Ad b))then(Af b m).bind λn=>if(Eg (Ad n) (Ap 9223372036854775807 g))then
none
else
XR (Ae g (Ad n)) (Ae m 1)
else
j13 b a g
def Qa:Nat->Int->Int->Option (LB)
|0,_,_=>none
|z+1,c,d=>EM Vp (Qa z) N U c d
def Bg0 b a:=Qa b a Ay
def EU(j11:(List LB)->LB->Int->Int->Option (LB))(b:Bi3)(a:LB)(w:Int):Bi8:=j11 b a w 0
def Acm:=EU Bg0
def JE(j10:Bj7)(b:Bi3)(a:LB):Bi8:=j10 b a (Ae 0 (Cm (Ad a) (Ap (Ad b) 1)))
def Af4:=JE Acm
abbrev Bkp:=(List LB)->LB->Option (LB)
def IF(j9:Bkp)(j10:Bj7)(b:Bi3)(a:LB):Bi8:=if(geq (Ad b) 0)then
some ([]:LB)
else
if(geq (Ad b) 1)then(Af b 0).bind λn=>some n
else
if(Eg (Ad a) 0)then(Gi (Bg (Ap (Ad b) 1) 0)).bind λ_=>if(Ha (Ad a) (Ej 9223372036854775807 (Ap (Ad b) 1)))then
none
else
j9 b a
else
j10 b a 0
def Qw:=IF Af4 Acm
def Aeh:Bi8:=(Qw N ([32]:LB)).bind λz=>some z
def IP:=Aeh
abbrev Bkm:=Int-> (List LB)->Option (LB)
def JI(j6:(List LB)->Option (LB))(HJ:Bkm)(a:LI)(f:Int)(b:Bi3):Bi8:=if(Cx f (Ad a))then(Af a f).bind λk=>(strconv_Itoa k).bind λm=>(Bf b ([m]:Bi3)).bind λn=>HJ (Ae f 1) n
else
j6 b
def Sa:Nat->Int-> (List LB)->Option (LB)
|0,_,_=>none
|z+1,c,d=>JI IP (Sa z) B c d
def Bgx a:=Sa a Ay
def IL(j4:LI->Int-> (List LB)->Option (LB))(a:LI)(h:Int):Bi8:=if(Bg h 0)then(Ao h).bind λg=>some g
else
j4 a 0 ([]:Bi3)
def Fc:=IL Bgx
abbrev Bje:=Option (LB×LB×Int×Int×Int×Int×Int×LI×Int×LB×Bool×Int×Int)
def RU:Bje:=if(Eg (Ad c) 64)then
some (([]:LB),([]:LB),0,0,0,0,0,([]:LI),0,([]:LB),false,0,2)
else
some (c,([]:LB),0,0,0,0,0,([]:LI),0,([]:LB),false,0,0)
def Nb:Bi8:=(
(Bf ([]:LB) c).bind λz=>some z)
def Jv:Bjn:=(
(Bf ([]:LI) B).bind λz=>some z)
def Fb:Option (LB×LB×Int×Int×Int×Int×Int×LI×Int×LB×Bool×Int):=(Nb e).bind λi=>(Nb R).bind λl=>(Jv L).bind λB=>some (c,i,z,d,j,C,E,B,A,l,F,I)
def Pm(a f g h k:Int)(b:LB):Bi2:=if((b==([]:LB)) !=(geq a 1))then
some 26
else
some 0
def Aej(y:Int)(o p:LB)(h b f k m:Int)(g:LI)(a:Int)(n:LB)(u:Bool)(v:Int):Bi4:=some (MQ (Ad n) y)
def HK:=Aej
def Xv(j8:Int->LB->LB->Jz5 (LI->Int->LB->Bool->Int->Option Bool))(bk6:Int->Int->Option Bool)(w:LI)(o p:LB)(h b f k m:Int)(g:LI)(a:Int)(n:LB)(u:Bool)(v y aa:Int):Bi4:=if(Cx aa (Ad w))then(Af w aa).bind λac=>bk6 (Ae y (Ej (Cm (Cm ac b) f) 8)) (Ae aa 1)
else
j8 y o p h b f k m g a n u v
def Ms:Nat->Int->Int->Option Bool
|0,_,_=>none
|z+1,c,d=>Xv HK (Ms z) B i l9 A V o9 Bh4 Bh5 Bh1 Bh6 R F I c d
def Afe w o p h b f k m g a n u v:=Ms w o p h b f k m g a n u v Ay
def IX(j6:LI->LB->LB->Jz5 (LI->Int->LB->Bool->Int->Int->Int->Option Bool))(o p:LB)(h b f k m:Int)(g:LI)(a:Int)(n:LB)(u:Bool)(v:Int)(ab:LI):Bi4:=if(geq (Ad g) 0)then
some ((geq a 0)&&(geq (Ad n) 0))
else(Jq g).bind λad=>if((((Bg ad 0)||(Bg (Ad g) (Ad ab)))||(Cx a 0))||(Eg a (Ad ab)))then
some false
else(Cb ab 0 a).bind λw=>j6 w o p h b f k m g a n u v 0 0
def Aff:=IX Afe
def HT(j5:LB->LB->Jz5 (LI->Int->LB->Bool->Int->LI->Option Bool))(o p:LB)(h b f k m:Int)(g:LI)(a:Int)(n:LB)(u:Bool)(v:Int):Bi4:=if((geq h 0)&&((geq b 0)&&((geq f 0)&&((geq k 0)&&((geq m 0)&&true)))))then
some (((geq (Ad g) 0)&&(geq a 0))&&(geq (Ad n) 0))
else(Dq h b f k m).bind λ(ab,ae)=>if(Bg ae 0)then
some false
else(Pm h b f k m o).bind λaf=>if(Bg af 0)then
some false
else
j5 o p h b f k m g a n u v ab
def DQ:=HT Aff
def As:Option (Bool×Int):=some (false,z)
def Bgz:Bi4:=some false
def Aev:=Bgz
abbrev Bkx:=Int->Option Bool
def Sg(j6:Bi4)(HJ:Bkx)(a:LB)(b:Int):Bi4:=if(Cx b 2)then(Af ([([73,68,51]:LB),([65,80,69,84,65,71,69,88]:LB)]:Bi3) b).bind λf=>if(Cx (Ad a) (Ad f))then(Na f a).bind λg=>if g then
some true
else
HJ (Ae b 1)
else
HJ (Ae b 1)
else
j6
def My:Nat->Int->Option Bool
|0,_=>none
|z+1,d=>Sg Aev (My z) c d
def Afc a:=My a Ay
abbrev Bk6:=LB->Int->Option Bool
def II(j4:Bk6)(a:LB):Bi4:=j4 a 0
def Rl:=II Afc
def FY(f a b g h:Int):Bjg:=some (a,b)
def Bb3:Bi2:=some (-1:Int)
def Lj:=Bb3
def Lg(j6:Bi2)(HJ:Bkb)(a:LI)(b f:Int):Bi2:=if(Cx f (Ad a))then(Af a f).bind λg=>if(geq b g)then
some f
else
HJ (Ae f 1)
else
j6
def Gq:Nat->Int->Option Int
|0,_=>none
|c+1,d=>Lg Lj (Gq c) B z d
def Bc7 a b:=Gq a b Ay
def Lf(j4:Bku)(a:LI)(b:Int):Bi2:=j4 a b 0
def Nc:=Lf Bc7
def Ll:Bi4:=(Nc B z).bind λc=>some (Ha c 0)
def Wu:Bi4:=(Ll ([(4:Int),(12:Int),(16:Int),(22:Int),(24:Int),(26:Int),(38:Int)]:LI) z).bind λc=>some c
def Bet:Bi2:=if(!F)then
some 8
else
some 0
def Jy:=Bet
def Bfe:Bi2:=o8 ((true==true)&&((geq (0:Int) (0:Int))&&true))
def Aac:=Bfe Jy
def Bf4:Bi2:=o8 ((Bhr==true)&&((geq Bh0 0)&&true))
def DN:=Bf4 Jy
abbrev Bjo:=Bool->Int->Option Int
def Bey(j13:Bjo)(g ax:LB)(ay az ab ba af b:Int)(n:Bool)(o:Int)(f:LI)(k:LB):Bi2:=(Pm ay az ab ba af g).bind λdi=>(As di).bind λ(dj,ai)=>j13 dj ai
def Aad:=Bey DN
def Bfb:Bi2:=o8 ((Bhr==true)&&((geq Bh0 0)&&true))
def Tr:=Bfb Jy
def Bf6(j25:Bjo)(g a:LB)(h p m u v b:Int)(n:Bool)(o:Int)(f:LI)(k:LB)(de:Int):Bi2:=(Dq h p m u v).bind λ(dm,be)=>if(Bg be 0)then(As be).bind λ(aj,bg)=>j25 aj bg
else(Cb a de (Ad a)).bind λdn=>(Yu dn (Ad dm)).bind λ(dp,ab)=>if(geq ab 24)then
j25 true 0
else
if(Bg ab 0)then(As ab).bind λ(dq,af)=>j25 dq af
else(Cb a (Ae (Ae de (Cm 4 (Ad dp))) 4) (Ad a)).bind λfc=>j25 false 0
def CY:=Bf6 Tr
abbrev Bjp:=LB->LB->Jz6 (Bool->Int->LI->LB->Int->Option Int)
def Bf7(j25:Bjo)(j24:Bjp)(bh:Bool)(bf:Int)(g a:LB)(h p m u v b:Int)(n:Bool)(o:Int)(f:LI)(k:LB):Bi2:=if(Bg bf 0)then(As bf).bind λ(dr,be)=>j25 dr be
else
if(!bh)then(As 26).bind λ(aj,bg)=>j25 aj bg
else
j24 g a h p m u v b n o f k 8
def Bfc:=Bf7 Tr CY
def Bf9(j15:Bool->Int->LB->LB->Jz6 (Bool->Int->LI->LB->Option Int))(g a:LB)(h p m u v b:Int)(n:Bool)(o:Int)(f:LI)(k:LB):Bi2:=(Cb a 0 8).bind λds=>(Rq ds g).bind λ(bh,bf)=>j15 bh bf g a h p m u v b n o f k
def QR:=Bf9 Bfc
def Bfr:Bi2:=o8 ((Bhr==true)&&((geq Bh0 0)&&true))
def Tv:=Bfr Jy
def DJ(j28:Bjo)(y ac:Int)(g a:LB)(h p m u v b:Int)(n:Bool)(o:Int)(ak:LX)(f:LI)(k:LB):Bi2:=if(Bg ac 0)then(As ac).bind λ(bi,bj)=>j28 bi bj
else(Ik m ak).bind λ(bk,bb)=>if(Bg bb 0)then(As bb).bind λ(bl,bm)=>j28 bl bm
else(Bf k bk).bind λdv=>(
(Cb a y (Ad a)).bind λdw=>j28 false 0)
def QQ:=DJ Tv
def RW(j27:Int->Int->LB->LB->Jz6 (Bool->Int->LX->LI->LB->Option Int))(y:Int)(g a:LB)(h p m u v b:Int)(n:Bool)(o:Int)(bc:LX)(ag f:LI)(k:LB):Bi2:=(Af ag b).bind λ_=>(Cb a 0 y).bind λdx=>(Af ag b).bind λdy=>(FY h p m u v).bind λ(dz,bd)=>(Hs dz bd bc dy dx).bind λ(ak,ac)=>j27 y ac g a h p m u v b n o ak f k
def Bft:=RW QQ
abbrev Bjs:=LB->LB->Jz6 (Bool->Int->LI->LB->Option Int)
def Pk(j13:Bjo)(j12:Bjs)(j25:Bjo)(j23:Bjs)(j24:Bjp)(j28:Bjo)(j26:Int->LB->LB->Jz6 (Bool->Int->LX->LI->LI->LB->Option Int))(j22:Bks)(j21:Bi2)(al am:LB)(an ao ap aq ar:Int)(au:LI)(ad:Int)(ae:LB)(aa:Bool)(w:Int):Bi2:=if(Eg (Ad al) 64)then
some 8
else
if((geq w 0)&&(!aa))then(Fb al am an ao ap aq ar au ad ae aa w).bind λ(g,a,h,p,m,u,v,f,b,k,n,o)=>(DQ al am an ao ap aq ar au ad ae aa w).bind λbn=>if bn then
if(geq h 0)then(Hf a).bind λ(ah,av)=>if(geq av 24)then
j13 true 0
else
if(Bg av 0)then(As av).bind λ(bp,bq)=>j13 bp bq
else(Cb a ah (Ad a)).bind λbr=>(Rl br).bind λaj=>if aj then
j13 true 0
else(Cb a ah (Ad a)).bind λbs=>(Jt bs).bind λ(ay,az,ab,ba,af,aw)=>if(geq aw 24)then
j13 true 0
else
if(Bg aw 0)then(As aw).bind λ(bt,bu)=>j13 bt bu
else(
(Cb a (Ae ah 22) (Ad a)).bind λax=>(
j12 g ax ay az ab ba af b n o f k))
else
if(geq (Ad f) 0)then
if(geq h 2)then
if(Cx (Ad a) 8)then
j25 true 0
else
j23 g a h p m u v b n o f k
else
j24 g a h p m u v b n o f k 0
else
if(Cx b (Ad f))then(Af f b).bind λ_=>(Af f b).bind λy=>if(Cx (Ad a) y)then
j28 true 0
else(Mv g).bind λ(bc,ai)=>if(Bg ai 0)then(As ai).bind λ(bv,bw)=>j28 bv bw
else(Dq h p m u v).bind λ(ag,bx)=>if((Bg bx 0)||(Ha b (Ad ag)))then(As 8).bind λ(bz,da)=>j28 bz da
else
j26 y g a h p m u v b n o bc ag f k
else
if(Eg (Ad a) 4000)then(As 38).bind λ(db,bd)=>j22 ((db==true)&&((geq bd 0)&&true))
else
j21
else
j22 false
else
if((geq (Ad am) 0)&&(geq (Ad au) 0))then
if((((geq an 0)&&((geq ao 0)&&((geq ap 0)&&((geq aq 0)&&((geq ar 0)&&true)))))&&(geq ad 0))&&(MQ (Ad ae) 12000))then
if(geq w 0)then
j22 true
else
if(!aa)then(Wu w).bind λdc=>j22 dc
else
j22 false
else
j22 false
else
if((false&&(geq ad 0))&&(MQ (Ad ae) 12000))then
if(geq w 0)then
j22 true
else
if(!aa)then(Wu w).bind λdd=>j22 dd
else
j22 false
else
j22 false
def Lh:=Pk DN Aad Tr QR CY Tv Bft Jy Aac
def Nu:Bje:=(Lh c e z d j C E L A R F I).bind λi=>if(Bg i 0)then
some (([]:LB),([]:LB),0,0,0,0,0,([]:LI),0,([]:LB),false,0,i)
else
if(Bg I 0)then(
(
(Fb c e z d j C E L A R F I).bind λ(l,B,D,G,J,M,N,O,P,T,U,V)=>(
some (l,B,D,G,J,M,N,O,P,T,U,V,I))))
else
if F then(Fb c e z d j C E L A R F I).bind λ(X,Y,Z,l5,l6,l7,l9,o7,o8,o9,p8,p9)=>some (X,Y,Z,l5,l6,l7,l9,o7,o8,o9,p8,p9,36)
else(Fb c e z d j C E L A R F I).bind λ(q9,r9,w9,x9,y5,y7,y8,y9,Bhl,Bhm,Bhn,Bho)=>some (q9,r9,w9,x9,y5,y7,y8,y9,Bhl,Bhm,Bhn,Bho,0)
def bH(b g:LB)(h k m n o:Int)(p:LI)(u:Int)(f:LB)(v:Bool)(w a:Int):Bje:=some (b,([]:LB),0,0,0,0,0,([]:LI),0,f,false,a,a)
abbrev Ar:=Option (LB×LB×Int×Int×Int×Int×Int×LI×Int×LB×Bool×Int×Int)
abbrev Bjk:=LB->Jz6 (LI->LB->Ar)
def FG(KW:Bjk)(a:LB)(b:Bool)(f:Int)(av:LB)(aw ax ay az ba bb:Int)(dy:Bool)(dk:Int)(bc:LI)(bd:LB):Ar:=if dy then(Fb a av aw ax ay az ba bc bb bd b f).bind λ(dz,fa,fb,ap,be,ae,fc,fd,fe,ff,fg,af)=>some (dz,fa,fb,ap,be,ae,fc,fd,fe,ff,fg,af,0)
else
if(Bg dk 0)then(bH a av aw ax ay az ba bc bb bd b f dk).bind λ(fh,fi,fj,fk,fl,fm,fn,fo,fp,fq,fs,ft,fu)=>some (fh,fi,fj,fk,fl,fm,fn,fo,fp,fq,fs,ft,fu)
else
KW av aw ax ay az ba bb bc bd
def Fz KW:=FG KW
abbrev Bjf:=LB->Jz6 (Bool->Int->LI->LB->Ar)
def Adj(j71:Bjf)(a:LB)(b:Bool)(f:Int)(g:LB)(m o n p u h:Int)(k:LI)(v:LB):Ar:=j71 g m o n p u h true 0 k v
def FO KW a b f:=Adj (Fz KW a b f) a b f
def Acj(j71:Bjf)(a:LB)(b:Bool)(f h:Int)(k:LI)(v:LB)(fv:Bool)(fw:Int)(fx:LB)(fy fz ga gb gc:Int):Ar:=j71 fx fy fz ga gb gc h fv fw k v
def Vi KW a b f:=Acj (Fz KW a b f) a b f
abbrev Bj0:=Int->LI->LB->Bool->Int->LB->Jz5 Ar
def Ad7(j62:Bj0)(a:LB)(b:Bool)(f:Int)(ag:LB)(ah ai y aj aa h:Int)(k:LI)(v:LB):Ar:=(Pm ah ai y aj aa a).bind λgd=>(As gd).bind λ(ge,ak)=>j62 h k v ge ak ag ah ai y aj aa
def EY KW a b f:=Ad7 (Vi KW a b f) a b f
def Adk(j71:Bjf)(a:LB)(b:Bool)(f m o n p u h:Int)(v:LB)(bf:Bool)(bg:Int)(bh:LB)(bi:LI):Ar:=j71 bh m o n p u h bf bg bi v
def Pr KW a b f:=Adk (Fz KW a b f) a b f
abbrev Bjm:=Jz6 (LB->Bool->Int->LB->LI->Ar)
def Vn(j75:Bjm)(a:LB)(b:Bool)(f:Int)(g:LB)(m o n p u h:Int)(k:LI)(v:LB)(dl:Int):Ar:=(Dq m o n p u).bind λ(gf,ar)=>if(Bg ar 0)then(As ar).bind λ(al,bj)=>j75 m o n p u h v al bj g k
else(Cb g dl (Ad g)).bind λgg=>(Yu gg (Ad gf)).bind λ(dm,y)=>if(geq y 24)then
j75 m o n p u h v true 0 g k
else
if(Bg y 0)then(As y).bind λ(gh,aa)=>j75 m o n p u h v gh aa g k
else(Cb g (Ae (Ae dl (Cm 4 (Ad dm))) 4) (Ad g)).bind λgi=>j75 m o n p u h v false 0 gi dm
def Vl KW a b f:=Vn (Pr KW a b f) a b f
abbrev Bj5:=LB->Jz6 (LI->LB->Int->Ar)
def FA(j75:Bjm)(j74:Bj5)(a:LB)(b:Bool)(f:Int)(bk:Bool)(au:Int)(g:LB)(m o n p u h:Int)(k:LI)(v:LB):Ar:=if(Bg au 0)then(As au).bind λ(gj,ar)=>j75 m o n p u h v gj ar g k
else
if(!bk)then(As 26).bind λ(al,bj)=>j75 m o n p u h v al bj g k
else
j74 g m o n p u h k v 8
def Ads KW a b f:=FA (Pr KW a b f) (Vl KW a b f) a b f
def FT(j64:Bool->Int->LB->Jz6 (LI->LB->Ar))(a:LB)(b:Bool)(f:Int)(g:LB)(m o n p u h:Int)(k:LI)(v:LB):Ar:=(Cb g 0 8).bind λgk=>(Rq gk a).bind λ(bk,au)=>j64 bk au g m o n p u h k v
def Adu KW a b f:=FT (Ads KW a b f) a b f
def Abd(j71:Bjf)(a:LB)(b:Bool)(f m o n p u:Int)(k:LI)(bl:Bool)(bm:Int)(bn:LB)(bp:Int)(bq:LB):Ar:=j71 bn m o n p u bp bl bm k bq
def Vk KW a b f:=Abd (Fz KW a b f) a b f
abbrev Bj1:=Jz5 (LI->Bool->Int->LB->Int->LB->Ar)
def Vv(j78:Bj1)(a:LB)(b:Bool)(f w ab:Int)(g:LB)(m o n p u h:Int)(am:LX)(k:LI)(v:LB):Ar:=if(Bg ab 0)then(As ab).bind λ(br,bs)=>j78 m o n p u k br bs g h v
else(Ik n am).bind λ(bt,af)=>if(Bg af 0)then(As af).bind λ(bu,bv)=>j78 m o n p u k bu bv g h v
else(Bf v bt).bind λbw=>(
(Cb g w (Ad g)).bind λbx=>j78 m o n p u k false 0 bx (Ae h 1) bw)
def EN KW a b f:=Vv (Vk KW a b f) a b f
def FD(j77:Int->Int->LB->Jz6 (LX->LI->LB->Ar))(a:LB)(b:Bool)(f w:Int)(g:LB)(m o n p u h:Int)(aq:LX)(ac k:LI)(v:LB):Ar:=(Af ac h).bind λ_=>(Cb g 0 w).bind λgl=>(Af ac h).bind λgm=>(FY m o n p u).bind λ(be,ae)=>(Hs be ae aq gm gl).bind λ(am,ab)=>j77 w ab g m o n p u h am k v
def Ado KW a b f:=FD (EN KW a b f) a b f
def Jb(j62:Bj0)(j61:Bjk)(j75:Bjm)(j73:Bjk)(j74:Bj5)(j78:Bj1)(j76:Int->LB->Jz6 (LX->LI->LI->LB->Ar))(j71:Bjf)(j70:Bjk)(a:LB)(b:Bool)(f:Int)(g:LB)(m o n p u h:Int)(k:LI)(v:LB):Ar:=if(geq m 0)then(Hf g).bind λ(ad,an)=>if(geq an 24)then
j62 h k v true 0 g m o n p u
else
if(Bg an 0)then(As an).bind λ(bz,da)=>j62 h k v bz da g m o n p u
else(Cb g ad (Ad g)).bind λdb=>(Rl db).bind λal=>if al then
j62 h k v true 0 g m o n p u
else(Cb g ad (Ad g)).bind λdc=>(Jt dc).bind λ(ah,ai,y,aj,aa,ao)=>if(geq ao 24)then
j62 h k v true 0 g m o n p u
else
if(Bg ao 0)then(As ao).bind λ(dd,de)=>j62 h k v dd de g m o n p u
else(
(Cb g (Ae ad 22) (Ad g)).bind λag=>(
j61 ag ah ai y aj aa h k v))
else
if(geq (Ad k) 0)then
if(geq m 2)then
if(Cx (Ad g) 8)then
j75 m o n p u h v true 0 g k
else
j73 g m o n p u h k v
else
j74 g m o n p u h k v 0
else
if(Cx h (Ad k))then(Af k h).bind λ_=>(Af k h).bind λw=>if(Cx (Ad g) w)then
j78 m o n p u k true 0 g h v
else(Mv a).bind λ(aq,ak)=>if(Bg ak 0)then(As ak).bind λ(df,dg)=>j78 m o n p u k df dg g h v
else(Dq m o n p u).bind λ(ac,dh)=>if((Bg dh 0)||(Ha h (Ad ac)))then(As 8).bind λ(di,ap)=>j78 m o n p u k di ap g h v
else
j76 w g m o n p u h aq ac k v
else
if(Eg (Ad g) 4000)then(As 38).bind λ(dj,ae)=>j71 g m o n p u h dj ae k v
else
j70 g m o n p u h k v
def Bh:Nat->LB->Jz6 (LI->LB->Ar)
|0,_,_,_,_,_,_,_,_,_=>none
|z+1,d,e,i,j,l,A,B,C,D=>Jb (Vi (Bh z) c F I) (EY (Bh z) c F I) (Pr (Bh z) c F I) (Adu (Bh z) c F I) (Vl (Bh z) c F I) (Vk (Bh z) c F I) (Ado (Bh z) c F I) (Fz (Bh z) c F I) (FO (Bh z) c F I) c F I d e i j l A B C D
def Adg a b f:=Bh a b f Ay
def JD(j37:LB->Bool->Int->LB->Jz6 (LI->LB->Ar))(gn go:LB)(gp gq gr gs gt:Int)(gu:LI)(gv:Int)(gw:LB)(gx:Bool)(gy:Int)(gz:LB):Ar:=(Nu gn go gp gq gr gs gt gu gv gw gx gy).bind λ(a,dn,dp,dq,dr,ds,dt,du,dv,dw,b,f,dx)=>if(Bg dx 0)then
some (a,dn,dp,dq,dr,ds,dt,du,dv,dw,b,f,dx)
else(Bf dn gz).bind λha=>j37 a b f ha dp dq dr ds dt dv du dw
def Jn:=JD Adg
def OV(p a:LB)(g u v w y:Int)(b:LI)(h:Int)(aa:LB)(ab:Bool)(ac:Int):Bi2:=if(geq g 0)then(Hf a).bind λ(k,f)=>if(Bg f 0)then
some f
else(Cb a k (Ad a)).bind λm=>(Jt m).bind λ(ad,ae,af,ag,ah,n)=>some n
else
if((Cx h (Ad b))||(geq (Ad b) 0))then
some 24
else(Rn a).bind λ(ai,o)=>some o
def Qc:Bje:=(Nu c e z d j C E L A R F I).bind λ(i,l,B,D,G,J,M,N,O,P,T,U,V)=>if(Bg V 0)then
some (i,l,B,D,G,J,M,N,O,P,T,U,V)
else(OV i l B D G J M N O P T U).bind λX=>if(Bg X 0)then(bH i l B D G J M N O P T U X).bind λ(Y,Z,l5,l6,l7,l9,o7,o8,o9,p8,p9,q9,r9)=>some (Y,Z,l5,l6,l7,l9,o7,o8,o9,p8,p9,q9,r9)
else
some (i,([]:LB),0,0,0,0,0,([]:LI),0,P,true,0,0)
abbrev Cw:=Option (LX×Int)
def Bfq:Cw:=some (l,0)
def Aa6:=Bfq
abbrev Bk3:=Int->LX->Cw
def Tp(He:Bk3)(a:Int)(b:LB)(f:Int)(o:LX):Cw:=He (Ae f (Ej a 8)) o
def Hw He:=Tp He
def CT(j28:Bk3)(a:Int)(b:LB)(f:Int)(k:Int32)(g:LX):Cw:=(Gi (Ha (Ap 32 a) 0)).bind λ_=>(Gi (Ha (Ap 32 a) 0)).bind λ_=>(Bf g ([(Cl (Dp k (GI.toZ (Ap 32 a)).toNat) (GI.toZ (Ap 32 a)).toNat)]:LX)).bind λp=>j28 f p
def Tu He a b:=CT (Hw He a b) a b
def Fe(j27:Int->Int32->LX->Cw)(Bby:Int32->Int->Cw)(a:Int)(b:LB)(f:Int)(g:LX)(k:Int32)(h:Int):Cw:=if(Cx h (Ej a 8))then(Af b (Ae f h)).bind λm=>(Gi (Ha (Cm 8 h) 0)).bind λ_=>Bby (pO k (Dp (Ah m:Int32) (GI.toZ (Cm 8 h)).toNat)) (Ae h 1)
else
j27 f k g
def El(He:Bk3)(a:Int)(b:LB)(f:Int)(g:LX):Nat->Int32->Int->Cw
|0,_,_=>none
|q+1,k,h=>Fe (Tu He a b) (El He a b f g q) a b f g k h
def Jz He a b f g:=El He a b f g Ay
def Fg(j28:Bk3)(j25:Int->LX->Int32->Int->Cw)(j30:LX->Cw)(a:Int)(b:LB)(f:Int)(g:LX):Cw:=if(Cx f (Ad b))then
if(geq a 8)then(Af b f).bind λm=>(Bf g ([(Ap (Ah m:Int32) 128)]:LX)).bind λu=>j28 f u
else
j25 f g 0 0
else
j30 g
def Dx:Nat->Int->LX->Cw
|0,_,_=>none
|c+1,d,e=>Fg (Hw (Dx c) z i) (Jz (Dx c) z i) Aa6 z i d e
def RL a b:=Dx a b Ay
def EX(j16:Int->LB->Int->LX->Cw)(a:Int)(b:LB):Cw:=(Qn a).bind λ(v,w,n)=>if(Bg n 0)then
some (([]:LX),n)
else(Gi (Bg (Ej a 8) 0)).bind λ_=>if(Bg (Me (Ad b) (Ej a 8)) 0)then
some (([]:LX),12)
else(Gi (Bg (Ej a 8) 0)).bind λ_=>if(Eg (Ej (Ad b) (Ej a 8)) 4000)then
some (([]:LX),4)
else
j16 a b 0 ([]:LX)
def Od:=EX RL
def Py:Option (Int×Int×Int×LX×Int):=(RU e).bind λ(z,d,i,j,l,A,B,C,D,E,F,G,I)=>if(Bg I 0)then
some (0,0,0,([]:LX),I)
else(Jn z d i j l A B C D E F G c).bind λ(J,L,M,N,O,P,R,T,U,V,X,Y,Z)=>if(Bg Z 0)then
some (0,0,0,([]:LX),Z)
else(Qc J L M N O P R T U V X Y).bind λ(l5,l6,l7,l9,o7,o8,o9,p8,p9,q9,r9,w9,x9)=>if(Bg x9 0)then
some (0,0,0,([]:LX),x9)
else
if((geq M 0)&&((geq N 0)&&((geq O 0)&&((geq P 0)&&((geq R 0)&&true)))))then
some (0,0,0,([]:LX),24)
else(Od O q9).bind λ(y5,y7)=>if(Bg y7 0)then
some (0,0,0,([]:LX),y7)
else
some (N,O,P,y5,0)
def QG:Bi8:=(Fc L z).bind λc=>some c
def Yj:=QG
abbrev Bk7:=Int->LI->Option (LB)
def Yy(j6:Bk7)(HJ:Bk7)(a:Int)(b:LX)(g:Int)(f:LI):Bi8:=if(Cx g (Ad b))then(Af b g).bind λk=>(Bf f ([(Ah k:Int)]:LI)).bind λm=>HJ (Ae g 1) m
else
j6 a f
def Lw:Nat->Int->LI->Option (LB)
|0,_,_=>none
|c+1,d,e=>Yy Yj (Lw c) z l d e
def MZ a b:=Lw a b Ay
def Yk(j4:Int->LX->Int->LI->Option (LB))(n o p:Int)(b:LX)(a:Int):Bi8:=j4 a b 0 ([]:LI)
def Fx:=Yk MZ
def pN(x0:LB)(x1:LB):Bkt:=none
def Amd:Bi2:=(Fv z d).bind λc=>if(Bg c 0)then
some c
else
if(Cx j 1)then
some 2
else(Gi (Bg z 0)).bind λ_=>if(Eg j (Ej 4000 z))then
some 2
else
some 0
def Afa:Bkv:=(Amd z d j).bind λc=>if(Bg c 0)then
some (([]:LX),c)
else(mkI (Cm j z) (0:Int32)).bind λe=>(Gi (geq (Cm j z) (Cm j z))).bind λ_=>some (e,0)
abbrev Bd:=Option (Int×Int×Int×LX×LI×Int)
def DE:Bd:=if(Bg C 0)then
some (0,0,0,([]:LX),([]:LI),C)
else
if(geq (Ad l) 0)then
some (0,0,0,([]:LX),([]:LI),6)
else(
(
some (z,d,j,l,L,0)))
def Nd:=DE
abbrev Bjy:=Jz4 (LI->LX->Bd)
def Aa2(j40:Bjy)(g h:LB)(m p u n v w y k a b f:Int)(aa ad:LI)(ac:LX):Bd:=j40 a b f 0 ad ac
def Bez:=Aa2 Nd
def Bfk(UQ:Int->LI->LX->Bd)(g h:LB)(o:LI)(m k a b f p u n v w y:Int)(aa:LI)(ab:Int)(am:LI)(an:LX):Bd:=UQ (Ae ab 1) am an
def Tq UQ:=Bfk UQ
def Tt(j40:Bjy)(j37:Int->LI->LX->Bd)(g h:LB)(o:LI)(m k a b f p u n v w y:Int)(aa:LI)(ab ao:Int)(am:LI)(an:LX):Bd:=if(Bg ao 0)then
j40 a b f ao am an
else
j37 ab am an
def CX UQ g h o m k a b f p u n v w y aa:=Tt Nd (Tq UQ g h o m k a b f p u n v w y aa) g h o m k a b f p u n v w y aa
abbrev Bkj:=Int->Int->LI->LX->Bd
def QN(j36:Bkj)(g h:LB)(o:LI)(m a b f k p u n v w y:Int)(aa:LI)(ab af ae:Int)(ak aj ac:LX)(al:LI):Bd:=(Bf ac ak).bind λav=>j36 ab 0 al av
def Bfl UQ g h o m a b f k p u n v w y aa:=QN (CX UQ g h o m k a b f p u n v w y aa) g h o m a b f k p u n v w y aa
def RH(j36:Bkj)(g h:LB)(o:LI)(m a b f k p u n v w y:Int)(aa:LI)(ab af ae:Int)(aj ac:LX)(aw:LI):Bd:=(Bf ac aj).bind λak=>j36 ab 0 aw ak
def Bf8 UQ g h o m a b f k p u n v w y aa:=RH (CX UQ g h o m k a b f p u n v w y aa) g h o m a b f k p u n v w y aa
def RB(j36:Bkj)(j34:Jz3 (LX->LX->LX->LI->Bd))(j35:Jz3 (LX->LX->LI->Bd))(g h:LB)(o:LI)(m k a b f p u n v w y:Int)(aa:LI)(ab af ae:Int)(ad:LI)(ac aj:LX):Bd:=if(!(geq ae 0))then(Bf ad ([ab]:LI)).bind λal=>if(geq k 2)then(Afa a b af).bind λ(ak,ap)=>if(Bg ap 0)then
j36 ab ap al ac
else
j34 ab af ae ak aj ac al
else
j35 ab af ae aj ac al
else
j35 ab af ae aj ac ad
def Bfp UQ g h o m k a b f p u n v w y aa:=RB (CX UQ g h o m k a b f p u n v w y aa) (Bfl UQ g h o m a b f k p u n v w y aa) (Bf8 UQ g h o m a b f k p u n v w y aa) g h o m k a b f p u n v w y aa
def RA(j40:Bjy)(j33:Jz3 (LI->LX->LX->Bd))(j39:LB->LB->Jz11 (LI->LI->LX->Bd))(g h:LB)(o:LI)(m k a b f p u n v w y:Int)(aa:LI)(ab:Int)(ad:LI)(ac:LX):Bd:=if(Cx ab (Ad o))then(Af o ab).bind λ_=>(Af o ab).bind λaf=>(BH g h ab).bind λ(ax,ae)=>if(geq ae 0)then(Od n ax).bind λ(ay,aq)=>if(Bg aq 0)then
j40 a b f aq ad ac
else
j33 ab af ae ad ac ay
else
j33 ab af ae ad ac ([]:LX)
else
j39 g h m p u n v w y k a b f aa ad ac
def CI:Nat->Int->LI->LX->Bd
|0,_,_,_=>none
|i+1,l,A,D=>RA Nd (Bfp (CI i) c e B z d j C E O y5 Bht Bhu Bhv Bie L) Bez c e B z d j C E O y5 Bht Bhu Bhv Bie L l A D
def Bf1 g h o m k a b f p u n v w y aa:=CI g h o m k a b f p u n v w y aa Ay
def Ad5(j40:Bjy)(j21:LB->LB->LI->Jz11 (LI->Int->LI->LX->Bd))(g h:LB)(k:Int):Bd:=if((Cx k 0)||(Eg k 2))then
some (0,0,0,([]:LX),([]:LI),2)
else
if(geq k 0)then(OQ g h).bind λ(az,ba,bb,bc,bd)=>some (az,ba,bb,bc,([]:LI),bd)
else(Nh g h).bind λ(be,a,b,f,bf,bg,bh,m)=>if(Bg m 0)then
some (0,0,0,([]:LX),([]:LI),m)
else(Nh g h).bind λ(p,u,n,v,w,y,aa,ar)=>if(Bg ar 0)then
j40 a b f ar ([]:LI) ([]:LX)
else(Dq p u n v w).bind λ(o,au)=>if(Bg au 0)then
j40 a b f au ([]:LI) ([]:LX)
else
j21 g h o m k a b f p u n v w y aa 0 ([]:LI) ([]:LX)
def Xg:=Ad5 Nd Bf1
def UF(x0:LB)(x1:LB):Bju:=none
def UJ(x0:LB):Option (LB×Bool):=none
def Ayd:Bi8:=some c
def Aap:=Ayd
def Dm:Bi8:=if(Cx x9 (Ad Bhz))then(Af Bhz x9).bind λz=>(Bf y9 z).bind λc=>Bhn (Ae x9 1) c
else
Bhm y9
def Ch:Nat->Int->LB->Option (LB)
|0,_,_=>none
|z+1,c,d=>Dm Aap (Ch z) N c d
def Hk a:=Ch a Ay
def Hm(j14:(List LB)->Int->LB->Option (LB))(a:Bi3)(p:LB):Bi8:=j14 a 0 p
def Fi:=Hm Hk
def Hn(j13:Bkp)(b:Int)(a:Bi3):Bi8:=if(Eg (Ap b (Ap (0:Int) (0:Int))) 0)then(ZW 0 0 0).bind λ_=>(mkI (Ap b (Ap (0:Int) (0:Int))) (0:UInt8)).bind λu=>(Bf ([]:LB) u).bind λk=>(ZW (Ad k) 0 0).bind λ_=>j13 a (QL k 0 ((0:Int)-(0:Int)))
else
j13 a ([]:LB)
def Kx:=Hn Fi
def Hl(j12:Bkm)(a:Bi3)(b:Int):Bi8:=if(Cx b 0)then
none
else
j12 b a
def Fh:=Hl Kx
def Ds(j11:(List LB)->Int->Option (LB))(bk9:Bk5)(a:Bi3)(b h:Int):Bi8:=if(Cx h (Ad a))then(Af a h).bind λm=>if(Cx (Ae b (Ad m)) 0)then
none
else
bk9 (Ae b (Ad m)) (Ae h 1)
else
j11 a b
def Cq:Nat->Int->Int->Option (LB)
|0,_,_=>none
|z+1,c,d=>Ds Fh (Cq z) N c d
def Ab2 a:=Cq a Ay
def Md(j9:(List LB)->Int->Int->Option (LB))(a:Bi3):Bi8:=j9 a 0 0
def Dj:=Md Ab2
def Hu(s:LB):Option (Int×Bool):=if s.length<=281474976710656 then
  match Lib.atoiAll s with
  | .ok n=>Option.bind (strconv_Itoa n) λt=>some (n,t==s&&(Ha n (-999999999)&&MQ n 999999999))
  | .range=>some (Lib.atoiSat s,false)
  |_=>some (0,false)
  else none
abbrev Kj:=Option ((List (UInt8×Int×Unit))×Bool)
def Bgd:Kj:=some (r9,true)
def Acp:=Bgd
def Ack(j6:(List (UInt8×Int×Unit))->Kj)(HJ:Int-> (List (UInt8×Int×Unit))->Kj)(a:Bi3)(f:Int)(b:Bja):Kj:=if(Cx f (Ad a))then(Af a f).bind λg=>if(g !=([101]:LB))then(Af g 0).bind λm=>(Nf ([32,102,100]:LB) m).bind λh=>(Cb g 1 (Ad g)).bind λn=>(Hu n).bind λ(k,o)=>if(((Cx h 1)||(!o))||(Cx k 0))then
some (([]:Bja),false)
else(Bf b ([((Ah h:UInt8),k,())]:Bja)).bind λp=>HJ (Ae f 1) p
else(Bf b ([((3:UInt8),(0:Int),())]:Bja)).bind λu=>HJ (Ae f 1) u
else
j6 b
def EP:Nat->Int-> (List (UInt8×Int×Unit))->Kj
|0,_,_=>none
|z+1,c,d=>Ack Acp (EP z) N c d
def Bgl a:=EP a Ay
def Adr(j4:(List LB)->Int-> (List (UInt8×Int×Unit))->Kj)(a:Bi3):Kj:=j4 a 0 ([]:Bja)
def TN:=Adr Bgl
def iI(x0:LB)(x1:LB)(x2:Bja):Option (Int×Int×Int):=none
def Aw7:Bi4:=if Bhx then
some ((Ha J 0)&&(MQ J 100000))
else
if(geq G 3)then
some (geq J 0)
else
some false
def Axg:=Aw7
def Bgr(j2:UInt8->Int->Bool->Option Bool)(a:UInt8)(b:Int):Bi4:=if(geq a 1)then
j2 a b (geq a 1)
else
j2 a b (geq a 2)
def Atj:=Bgr Axg
def Afw:Bi4:=(Atj G J).bind λz=>some (!z)
def Bga:Bi2:=some 0
def Bgn:=Bga
def Bgj:Bi2:=if Bi1 then
some 2
else
Bi0
def Bg9:=Bgj Bgn
def Bg6:Bi2:=o8 Bhr
def Ad3:=Bg6 Bg9
def Bgf:Bi2:=o8 (Ha (-1:Int) (0:Int))
def Adq:=Bgf Ad3
def Bfu(XR:Bkb)(a:Bja)(b:Int):Bi2:=XR (Ae b 1)
def Bgg XR:=Bfu XR
def Bg8(j18:Bks)(j15:Bkb)(a:Bja)(b:Int)(g:Bool):Bi2:=if g then
j18 (Ha b 0)
else
j15 b
def Aco XR a:=Bg8 Ad3 (Bgg XR a) a
def Ab8(j14:Int->Bool->Option Int)(j17:Bi2)(a:Bja)(b:Int):Bi2:=if(Cx b (Ad a))then(Af a b).bind λh=>(Afw h.1 h.2.1).bind λg=>j14 b g
else
j17
def FH:Nat->Int->Option Int
|0,_=>none
|z+1,c=>Ab8 (Aco (FH z) r9) Adq r9 c
def Bgc a:=FH a Ay
def Aez(j11:(List (UInt8×Int×Unit))->Int->Option Int)(a:Bja):Bi2:=if(Eg (Ad a) 200)then
some 4
else
j11 a 0
def Atk:=Aez Bgc
def UM:Option (LB×LB×Int×Int×Int×Int×Int×LI×Int×LB×Bool×Int×LB×Int):=(Lh c e z d j C E L A R F I).bind λi=>if(Bg i 0)then
some (([]:LB),([]:LB),0,0,0,0,0,([]:LI),0,([]:LB),false,0,([]:LB),i)
else
if(Cx p8 0)then
some (([]:LB),([]:LB),0,0,0,0,0,([]:LI),0,([]:LB),false,0,([]:LB),2)
else(Fb c e z d j C E L A R F I).bind λ(l,B,D,G,J,M,N,O,P,T,U,V)=>(Cb T 0 (Fy p8 (Ad T))).bind λX=>(Nb X).bind λY=>(Cb T (Fy p8 (Ad T)) (Ad T)).bind λZ=>some (l,B,D,G,J,M,N,O,P,Z,U,V,Y,0)
abbrev Bu:=Option (LB×LB×Int×Int×Int×Int×Int×LI×Int×LB×Bool×Int×(List (Int×LB×Unit))×Int)
abbrev Bjc:=List (Int×LB×Unit)
def Bf3(f:LB)(g h k m n o:Int)(p:LB)(u:Bool)(v:Int)(a:LB)(aa:Bjc)(w:LB)(y:LI):Bu:=some (f,w,g,h,k,m,n,y,o,p,u,v,aa,0)
def Bf0:=Bf3
def Bfm(j32:LB->Jz6 (LB->Bool->Int->LB-> (List (Int×LB×Unit))->LB->LI->Bu))(aa:Bjc)(f:LB)(g h k m n o:Int)(p:LB)(u:Bool)(v:Int)(a w:LB)(y:LI):Bu:=j32 f g h k m n o p u v a aa w y
def RT:=Bfm Bf0
abbrev Bi7:=Int->LB->Jz6 (LB->Bool->Int->LB-> (List (Int×LB×Unit))->LB->LI->Bu)
def Bfd(xO:Bi7)(b:Bja)(ab:Int)(dm:LB)(dn dp dq dr ds dt:Int)(du:LB)(dv:Bool)(dw:Int)(dx:LB)(dy:Bjc)(dz:LB)(fa:LI):Bu:=xO (Ae ab 1) dm dn dp dq dr ds dt du dv dw dx dy dz fa
def Kf xO:=Bfd xO
def BP(j29:Bi7)(b:Bja)(ac:UInt8×Int×Unit)(a:LB)(ad ab:Int)(f w:LB)(g h k m n:Int)(y:LI)(o:Int)(p:LB)(u:Bool)(v:Int)(ae:LB)(af ag ah ai aj ak:Int)(al:LB)(am:Bool)(an:Int)(aa:Bjc)(ao:LB)(ap:LI):Bu:=(
(Cb a (Fy ac.2.1 (Ad a)) (Ad a)).bind λbv=>(Bf aa ([(ad,([]:LB),())]:Bjc)).bind λar=>j29 ab ae af ag ah ai aj ak al am an bv ar ao ap)
def Aa9 xO b:=BP (Kf xO b) b
def Bfj(j29:Bi7)(b:Bja)(au ab:Int)(f w:LB)(g h k m n:Int)(y:LI)(o:Int)(p:LB)(u:Bool)(v:Int)(a av:LB)(aw ax ay az ba bb:Int)(bc:LB)(bd:Bool)(be:Int)(bf:LB)(aa:Bjc)(ar:LB)(bg:LI):Bu:=(Bf aa ([(au,bf,())]:Bjc)).bind λfb=>j29 ab av aw ax ay az ba bb bc bd be a fb ar bg
def RX xO b:=Bfj (Kf xO b) b
def Bex(j29:Bi7)(b:Bja)(bh ab:Int)(f w:LB)(g h k m n:Int)(y:LI)(o:Int)(p:LB)(u:Bool)(v:Int)(a bi:LB)(bj bk bl bm bn bp:Int)(bq:LB)(br:Bool)(bs:Int)(aa:Bjc)(bt:LB)(bu:LI):Bu:=(Bf aa ([(bh,([]:LB),())]:Bjc)).bind λfc=>j29 ab bi bj bk bl bm bn bp bq br bs a fc bt bu
def QM xO b:=Bex (Kf xO b) b
def DL(j26:(UInt8×Int×Unit)->LB->Int->Int->LB->LB->Jz5 (LI->Int->LB->Bool->Int->LB->Int->Int->Int->Int->Int->Int->LB->Bool->Int-> (List (Int×LB×Unit))->LB->LI->Bu))(j33:Int->Int->LB->LB->Jz5 (LI->Int->LB->Bool->Int->LB->LB->Int->Int->Int->Int->Int->Int->LB->Bool->Int->LB-> (List (Int×LB×Unit))->LB->LI->Bu))(j34:Int->Int->LB->LB->Jz5 (LI->Int->LB->Bool->Int->LB->LB->Int->Int->Int->Int->Int->Int->LB->Bool->Int-> (List (Int×LB×Unit))->LB->LI->Bu))(j29:Bi7)(j31:(List (Int×LB×Unit))->LB->Jz6 (LB->Bool->Int->LB->LB->LI->Bu))(b:Bja)(ab:Int)(f:LB)(g h k m n o:Int)(p:LB)(u:Bool)(v:Int)(a:LB)(aa:Bjc)(w:LB)(y:LI):Bu:=if(Cx ab (Ad b))then(Af b ab).bind λac=>if(geq ac.1 1)then(
(
(
(Cb a 0 (Fy ac.2.1 (Ad a))).bind λaq=>(
(Jn f w g h k m n y o p u v aq).bind λ(ae,ao,af,ag,ah,ai,aj,ap,ak,al,am,an,ad)=>j26 ac a ad ab f w g h k m n y o p u v ae af ag ah ai aj ak al am an aa ao ap))))
else
if(geq ac.1 2)then(
(
(
(UM f w g h k m n y o p u v ac.2.1).bind λ(av,ar,aw,ax,ay,az,ba,bg,bb,bc,bd,be,bf,au)=>j33 au ab f w g h k m n y o p u v a av aw ax ay az ba bb bc bd be bf aa ar bg)))
else
if(geq ac.1 3)then(
(
(
(Qc f w g h k m n y o p u v).bind λ(bi,bt,bj,bk,bl,bm,bn,bu,bp,bq,br,bs,bh)=>j34 bh ab f w g h k m n y o p u v a bi bj bk bl bm bn bp bq br bs aa bt bu)))
else
j29 ab f g h k m n o p u v a aa w y
else
j31 aa f g h k m n o p u v a w y
def Ke:Nat->Int->LB->Jz6 (LB->Bool->Int->LB-> (List (Int×LB×Unit))->LB->LI->Bu)
|0,_,_,_,_,_,_,_,_,_,_,_,_,_,_,_=>none
|z+1,c,d,e,i,j,l,A,B,C,D,E,F,G,I,J=>DL (Aa9 (Ke z) r9) (RX (Ke z) r9) (QM (Ke z) r9) (Kf (Ke z) r9) RT r9 c d e i j l A B C D E F G I J
def Bfs b:=Ke b Ay
def Abg(j17:(List (UInt8×Int×Unit))->Int->LB->Jz6 (LB->Bool->Int->LB-> (List (Int×LB×Unit))->LB->LI->Bu))(fd fe:LB)(b:Bja):Bu:=(Atk b).bind λbx=>if(Bg bx 0)then
some (([]:LB),([]:LB),0,0,0,0,0,([]:LI),0,([]:LB),false,0,([]:Bjc),bx)
else(RU fd).bind λ(ff,fg,fh,fi,fj,fk,fl,fm,fn,fo,fp,fq,bz)=>if(Bg bz 0)then
some (([]:LB),([]:LB),0,0,0,0,0,([]:LI),0,([]:LB),false,0,([]:Bjc),bz)
else
j17 b 0 ff fh fi fj fk fl fn fo fp fq fe ([]:Bjc) fg fm
def TS:=Abg Bfs
def Ru(x0:LB)(x1:LB)(x2:Int):Option (Int×UInt8×Int×Int×Int):=none
abbrev Bp:=Option (LB×Int)
def Axd:Bp:=(Cb c 0 (Ad c)).bind λz=>(Rn z).bind λ(d,e)=>if(Bg e 0)then
some (([]:LB),38)
else
some (([]:LB),0)
def Aek:=Axd
def Aei(j21:LB->Bp)(a:LB)(y:Int):Bp:=if(Cx y 0)then
none
else
j21 a
def Af5:Nat->Bp
|0=>none
|d+1=>Aei Aek c z
def Axl a y:=Af5 a y Ay
def Af3(j19:LB->Int->Bp)(a:LB)(y ah:Int):Bp:=if(Bg ah 0)then
some (([]:LB),ah)
else
if((Cx y 0)||(Ha y 0))then
some (([]:LB),2)
else
j19 a y
def Bgw:=Af3 Axl
def Afi:Bp:=(Cb c (Ae z d) (Ad c)).bind λe=>(Rn e).bind λ(j,l)=>if(Bg l 0)then
some (([]:LB),38)
else
some (i,0)
def HY:=Afi
def Af1(nK:Int->LB->Bp)(a:LB)(f:LI)(b k n m h o p:Int)(u:LX)(v g:LI)(w:Int)(ad:LB):Bp:=nK (Ae w 1) ad
def Af8 nK:=Af1 nK
def Afb(j30:Int->LB->Bp)(a:LB)(f:LI)(b k n m h o p:Int)(u:LX)(v g:LI)(w:Int)(aa:LB)(ai:Int)(ar:LB):Bp:=if(Bg ai 0)then
some (([]:LB),ai)
else(Bf aa ar).bind λad=>j30 w ad
def HW nK a f b k n m h o p u v g:=Afb (Af8 nK a f b k n m h o p u v g) a f b k n m h o p u v g
abbrev Bk8:=Int->LB->Int->LB->Bp
def Aey(j29:Bk8)(a:LB)(f:LI)(b k m h n o p:Int)(u:LX)(v g:LI)(ab w:Int)(ae:LX)(aa:LB):Bp:=if(Bg ab 0)then
j29 w aa ab ([]:LB)
else(Ik h ae).bind λ(au,av)=>j29 w aa av au
def Afd nK a f b k m h n o p u v g:=Aey (HW nK a f b k n m h o p u v g) a f b k m h n o p u v g
def Ael(j29:Bk8)(j28:Int->Int->LX->LB->Bp)(b:Int)(a:LB)(f:LI)(k m h:Int)(u:LX)(n o p:Int)(v g:LI)(w af ac:Int)(aa:LB):Bp:=if(Eg (Ae b ac) (Ad a))then
j29 w aa 24 ([]:LB)
else(Af f w).bind λ_=>(Cb a (Ae b af) (Ae b ac)).bind λaw=>(Af f w).bind λax=>(Hs m h u ax aw).bind λ(ae,ab)=>j28 ab w ae aa
def IW nK b a f k m h u n o p v g:=Ael (HW nK a f b k n m h o p u v g) (Afd nK a f b k m h n o p u v g) b a f k m h u n o p v g
def Xr(j27:Jz3 (LB->Bp))(j32:LB->Int->Int->LB->Bp)(a:LB)(f:LI)(b k n m h o p:Int)(u:LX)(v g:LI)(w:Int)(aa:LB):Bp:=if(Cx w (Ad f))then(Af g w).bind λ_=>(Af g (Ae w 1)).bind λ_=>(Af g w).bind λaf=>(Af g (Ae w 1)).bind λac=>j27 w af ac aa
else
j32 a b k aa
def Mz:Nat->Int->LB->Bp
|0,_,_=>none
|e+1,i,A=>Xr (IW (Mz e) z c B d C E l j O y5 Bhw Bh1) HY c B z d j C E O y5 l Bhw Bh1 i A
def Bgt a f b k n m h o p u v g:=Mz a f b k n m h o p u v g Ay
def IA(j22:LB->LI->Jz7 (LX->LI->LI->Int->LB->Bp))(a:LB)(y:Int)(f:LI)(b k n m h o p:Int)(u:LX)(v g:LI):Bp:=if(Bg (0:Int) (0:Int))then
some (([]:LB),0)
else
if((Cx y 0)||(Ha y (Ad f)))then
some (([]:LB),2)
else
j22 a f b k n m h o p u v g y ([]:LB)
def Af6:=IA Bgt
def MY(j17:LB->Int->Int->Bp)(j18:LB->Int->LI->Jz7 (LX->LI->LI->Bp))(a aj:LB)(y:Int):Bp:=(Nh a aj).bind λ(n,m,h,o,p,b,v,ak)=>if(Bg ak 0)then
j17 a y ak
else(Dq n m h o p).bind λ(f,al)=>if(Bg al 0)then
j17 a y al
else(Wx v).bind λ(g,am)=>if(Bg am 0)then
j17 a y am
else(Mv aj).bind λ(u,an)=>if(Bg an 0)then
j17 a y an
else(Af g (Ad f)).bind λ_=>(Af g (Ad f)).bind λk=>j18 a y f b k n m h o p u v g
def Ug:=MY Bgw Af6
def vD(x0:LB)(x1:LB)(x2:Int):Bju:=none
def Au9:Bju:=if(((Cx z 0)||(Ha z (Ad c)))||(geq G 0))then
some (([]:LB),2)
else(Nb c).bind λd=>(Af d z).bind λ_=>(Af d z).bind λe=>(Af d z).bind λ_=>(Pn d z (Wr e G)).bind λi=>some (i,0)
def aO(x0:LB)(x1:Int)(x2:UInt32):Bju:=none
def kK(x0:LB)(x1:LB)(x2:Int)(x3:Int):Bjg:=none
def OR(a b f:Int)(g:LX):Bjg:=some (a,b)
def FN:Bi2:=(OR z d j l).bind λ(c,e)=>(Fv c e).bind λi=>if((Bg i 0)||(Cx A 1))then
some 8
else(Gi (Bg z 0)).bind λ_=>if(Eg A (Ej 4000 z))then
some 8
else(Hr j A).bind λ(B,C)=>if(Bg C 0)then
some 8
else
some 0
def Fa:Bi2:=if(Cx z 1)then
some 8
else(Gi (Bg z 0)).bind λ_=>if(Bg (Me (Ad l) z) 0)then
some 8
else(Gi (Bg z 0)).bind λ_=>(FN z d j l (Ej (Ad l) z)).bind λc=>if(Bg c 0)then
some c
else(Ni d l).bind λe=>if(Bg e 0)then
some 8
else
some 0
def Xk:Option (Int×Bool):=(Lc j).bind λ(c,e)=>(Fv z d).bind λl=>some (c,(((geq l 0)&&(geq e 0))&&(MQ (Ad i) 64)))
abbrev Bjt:=Option (Int×Int×Int×LB×LB×LX×(List LB)×LB×Bool×Int×Int)
def SB:Bjt:=(Xk z d j i).bind λ(c,e)=>if(!e)then
some (0,0,0,([]:LB),([]:LB),([]:LX),([]:Bi3),([]:LB),false,0,2)
else
some (z,d,j,i,([]:LB),([]:LX),([]:Bi3),([]:LB),false,0,0)
def DD:Bi2:=some (Ej (Cm z d) 8)
def Sp(a h k:Int)(m n:LB)(b:LX)(f:Bi3)(o:LB)(p:Bool)(u g:Int):Bi2:=(Gi (Bg a 0)).bind λ_=>some (Ae (Cm (Ad f) g) (Ej (Ad b) a))
def Ro(a g h:Int)(k m:LB)(n:LX)(o:Bi3)(p:LB)(u:Bool)(v b f:Int):Bi4:=some ((MQ b 1000)&&(MQ (Cm f a) 4000))
def Be6:Bi4:=some (!F)
def Bec:=Be6
abbrev Bkq:=Bool->Option Bool
def Bed(j24:Bkq)(y:Bool):Bi4:=j24 y
def JQ:=Bed Bec
def Be7(j23:Bkq):Bi4:=j23 (Ha (-1:Int) (0:Int))
def JM:=Be7 JQ
def JZ(He:Bkx)(b:Bi3)(f a h:Int):Bi4:=He (Ae h 1)
def JX He:=JZ He
def JO(j23:Bkq)(j20:Bkx)(b:Bi3)(f a h:Int)(w:LB):Bi4:=if((Cx (Ad w) 5)||(Eg (Ad w) (Ae (Ej (Ae (Cm (Cm 81 f) a) 7) 8) 4)))then
j23 (Ha h 0)
else
j20 h
def Wi He b f a:=JO JQ (JX He b f a) b f a
def Oj(j19:Int->LB->Option Bool)(j22:Bi4)(b:Bi3)(f a h:Int):Bi4:=if(Cx h (Ad b))then(Af b h).bind λw=>j19 h w
else
j22
def If:Nat->Int->Option Bool
|0,_=>none
|z+1,c=>Oj (Wi (If z) N o7 Bhs) JM N o7 Bhs c
def Wf b f a:=If b f a Ay
def Ok(j16:(List LB)->Jz3 (Option Bool))(f a k o:Int)(p m:LB)(g:LX)(b:Bi3)(n:LB)(u:Bool)(v:Int):Bi4:=j16 b f a 0
def Wc:=Ok Wf
abbrev Bjr:=Jz4 (LB->LB->LX-> (List LB)->LB->Bool->Int->Option Bool)
def Oq(j15:Bjr)(f a k o:Int)(p m:LB)(g:LX)(b:Bi3)(n:LB)(u:Bool)(v aa:Int):Bi4:=(Sp a k o p m g b n u v f).bind λab=>(Ro a k o p m g b n u v aa ab).bind λac=>if(!ac)then
some false
else
j15 f a k o p m g b n u v
def Wl:=Oq Wc
def Wp(j14:Jz4 (LB->LB->LX-> (List LB)->LB->Bool->Int->Int->Option Bool))(f a k o:Int)(p m:LB)(g:LX)(b:Bi3)(n:LB)(u:Bool)(v:Int):Bi4:=(Ni k g).bind λad=>if(Bg ad 0)then
some false
else
if(Eg (Ad g) 0)then
j14 f a k o p m g b n u v (Ae (Ad b) 1)
else
j14 f a k o p m g b n u v (Ad b)
def Wd:=Wp Wl
def Yq(j13:Bjr)(a k o:Int)(p m:LB)(g:LX)(b:Bi3)(n:LB)(u:Bool)(v f:Int):Bi4:=if(Eg (Ad n) 0)then
if true then
if true then
if(true||(Eg (Ad b) 1000))then
some false
else
j13 f a k o p m g b n u v
else(Gi (Bg a 0)).bind λ_=>if((Ha (Ej (Ad g) a) f)||(Eg (Ad b) 1000))then
some false
else
j13 f a k o p m g b n u v
else(Gi (Bg a 0)).bind λ_=>if(Bg (Me (Ad g) a) 0)then
if(true||(Eg (Ad b) 1000))then
some false
else
j13 f a k o p m g b n u v
else(Gi (Bg a 0)).bind λ_=>if((Ha (Ej (Ad g) a) f)||(Eg (Ad b) 1000))then
some false
else
j13 f a k o p m g b n u v
else(DD a k).bind λae=>if(Ha (Ad m) ae)then
if true then
if(true||(Eg (Ad b) 1000))then
some false
else
j13 f a k o p m g b n u v
else(Gi (Bg a 0)).bind λ_=>if((Ha (Ej (Ad g) a) f)||(Eg (Ad b) 1000))then
some false
else
j13 f a k o p m g b n u v
else(Gi (Bg a 0)).bind λ_=>if(Bg (Me (Ad g) a) 0)then
if(true||(Eg (Ad b) 1000))then
some false
else
j13 f a k o p m g b n u v
else(Gi (Bg a 0)).bind λ_=>if((Ha (Ej (Ad g) a) f)||(Eg (Ad b) 1000))then
some false
else
j13 f a k o p m g b n u v
def Yd:=Yq Wd
def GJ:Bi2:=(Xk z d j i).bind λ(c,e)=>if(!e)then
some 8
else
if(Bg o7 0)then
if(!(((((geq o7 18)||(geq o7 24))&&(!Bhl))&&(geq (Ae (Ae (Ad l9) (Ad T)) (Ad N)) 0))&&(geq (Ad U) 0)))then
some 8
else
some 0
else
if Bhl then
if(!((geq (Ae (Ae (Ad l9) (Ad T)) (Ad N)) 0)&&(MQ (Ad U) 100000)))then
some 8
else
some 0
else(Yd z d j i l9 T N U Bhl o7 c).bind λl=>if(!l)then
some 8
else
some 0
abbrev Hz:=Option (Int×Int×Int×LB×LB×LX×(List LB)×LB×Bool×Int)
def Axc(b f g:Int)(h:LB)(a:Bi3)(k:Bool)(m:Int)(u:Bi3)(n:LB)(o:LX)(p:LB):Hz:=some (b,f,g,h,n,o,u,p,k,m)
def Aeq:=Axc
def Xu(j8:Jz3 (LB-> (List LB)->Bool->Int-> (List LB)->LB->LX->LB->Hz))(bk6:Int-> (List LB)->Hz)(w a:Bi3)(b f g:Int)(h:LB)(k:Bool)(m:Int)(n:LB)(o:LX)(p:LB)(v:Int)(u:Bi3):Hz:=if(Cx v (Ad (JT w a)))then(Af u v).bind λ_=>(Af u v).bind λy=>(Bm y).bind λaa=>(Af u v).bind λ_=>(Pn u v aa).bind λab=>bk6 (Ae v 1) ab
else
j8 b f g h a k m u n o p
def Mw:Nat->Int-> (List LB)->Hz
|0,_,_=>none
|z+1,c,d=>Xu Aeq (Mw z) N Bim Bio Bip Biq Y Bhx Bh7 Bh8 y7 Bh9 c d
def Bgu w a b f g h k m n o p:=Mw w a b f g h k m n o p Ay
def HV(j6:(List LB)-> (List LB)->Jz3 (LB->Bool->Int->LB->LX->LB->Int-> (List LB)->Hz))(b f g:Int)(h:LB)(a:Bi3)(k:Bool)(m:Int)(n:LB)(o:LX)(p:LB):Hz:=(mkI (Ad a) ([]:LB)).bind λw=>(Gi (geq (Ad a) (Ad a))).bind λ_=>j6 w a b f g h k m n o p 0 (JT w a)
def Aeo:=HV Bgu
def ID(j5:Jz3 (LB-> (List LB)->Bool->Int->LB->LX->LB->Hz))(b f g:Int)(h ac:LB)(ad:LX)(a:Bi3)(ae:LB)(k:Bool)(m:Int):Hz:=(Bm ac).bind λn=>(Db ad).bind λo=>(Bm ae).bind λp=>j5 b f g h a k m n o p
def KB:=ID Aeo
abbrev HU:=Option (Int×Int×Int×LB×LB×LX×(List LB)×LB×Bool×Int×Int×Int)
def Aec:HU:=(KB d j C i l9 T N U Bhl o7).bind λ(c,e,l,A,B,D,E,F,G,I)=>some (c,e,l,A,B,D,E,F,G,I,z,Bhs)
def Acw:=Aec
def Ab9(j2:Jz4 (LB->LB->LX-> (List LB)->LB->Bool->Int->Int->HU))(g h b:Int)(k m:LB)(n:LX)(o:Bi3)(p:LB)(f:Bool)(a:Int):HU:=(GJ g h b k m n o p f a).bind λv=>if(Bg v 0)then
some (0,0,0,([]:LB),([]:LB),([]:LX),([]:Bi3),([]:LB),false,0,0,v)
else(Lc b).bind λ(u,aj)=>if(Bg a 0)then
j2 u g h b k m n o p f a a
else
if f then
j2 u g h b k m n o p f a 36
else
j2 u g h b k m n o p f a aj
def Xe:=Ab9 Acw
def GC:Bi2:=(Fv z d).bind λc=>if(Bg c 0)then
some c
else(Ni d l).bind λe=>if(Bg e 0)then
some e
else
if(geq (Ad l) 0)then
some 2
else(Gi (Bg z 0)).bind λ_=>if(Bg (Me (Ad l) z) 0)then
some 2
else
some 0
abbrev Ih:=Option (LX×Int)
def Bfx:Ih:=some (l,0)
def Auj:=Bfx
abbrev Bko:=Int->LX->Ih
def iA(US:Bko)(b a:Int)(u:LX):Ih:=US (Ae a b) u
def iU US:=iA US
def Aw3(j20:Bko)(b a:Int)(g:LX):Ih:=if(Eg (Ap ((Ae a b)-a) 1) 0)then(Gi (decide (0<= (Ap ((Ae a b)-a) 1)/\ (Ap ((Ae a b)-a) 1)<((Ae a b)-a)))).bind λ_=>Option.bind (Gi (decide (0<= (Ap (Ap ((Ae a b)-a) 1) 1)/\ (Ap (Ap ((Ae a b)-a) 1) 1)<((Ae a b)-a)))) λ_=>(Af g (a+(Ap ((Ae a b)-a) 1))).bind λk=>(Af g (a+(Ap (Ap ((Ae a b)-a) 1) 1))).bind λm=>(Gi (decide (0<= (Ap ((Ae a b)-a) 1)/\ (Ap ((Ae a b)-a) 1)<((Ae a b)-a)))).bind λ_=>(Pn g (a+(Ap ((Ae a b)-a) 1)) (Ap k (Ej m 2))).bind λn=>j20 a n
else
j20 a g
def lE US b:=Aw3 (iU US b) b
def RF(j19:Bko)(xO:Bko)(b a f:Int)(g:LX):Ih:=if(Cx f (Ap ((Ae a b)-a) 1))then(Gi (decide (0<= (Ae f 1)/\ (Ae f 1)<((Ae a b)-a)))).bind λ_=>(Gi (decide (0<=f/\f<((Ae a b)-a)))).bind λ_=>(Af g (a+(Ae f 1))).bind λk=>(Af g (a+f)).bind λm=>(Gi (decide (0<=f/\f<((Ae a b)-a)))).bind λ_=>(Pn g (a+f) (Ap k m)).bind λn=>xO (Ae f 1) n
else
j19 a g
def AN(US:Bko)(b a:Int):Nat->Int->LX->Ih
|0,_,_=>none
|q+1,f,g=>RF (lE US b) (AN US b a q) b a f g
def Auw US b a:=AN US b a Ay
def kU(j17:Int->Int->LX->Ih)(j22:LX->Ih)(b a:Int)(h:LX):Ih:=if(Cx a (Ad h))then(ZW (Ad h) a (Ae a b)).bind λ_=>j17 a 0 h
else
j22 h
def AG:Nat->Int->LX->Ih
|0,_,_=>none
|c+1,d,e=>kU (Auw (AG c) z) Auj z d e
def Avh b:=AG b Ay
def pP(j12:Int->Int->LX->Ih)(b:Int)(o:LX):Ih:=(WS b o).bind λp=>if(Bg p 0)then
some (([]:LX),p)
else(Db o).bind λv=>j12 b 0 v
def D8:=pP Avh
def RQ:Bkh:=(NH z l T).bind λ(c,d)=>if(Bg d 0)then
some (0,0,(List.replicate 16 (0:Int32)),(List.replicate 16 (0:Int32)),d)
else(PD z l T M (Ap M c)).bind λ(e,i,j)=>some ((Ap M c),e,i,j,0)
def Ta:Bj8:=(Us z M Bho w9 q9).bind λc=>if(Bg c 0)then
some (0,0,0,0,(List.replicate 16 (0:Int32)),(List.replicate 16 (0:Int32)),c)
else(Uw z M).bind λ(d,e)=>(RQ Bho w9 q9 (Ap y8 d)).bind λ(i,j,l,A,B)=>(
some (i,z,y8,j,l,A,B))
def mN:Option UInt32:=some (Wr (Dp (Ah M:UInt32) (GI.toZ (1:UInt64)).toNat) (Ah (Cl M (GI.toZ (31:UInt64)).toNat):UInt32))
abbrev Dr:=Option (LU×Int)
def Bes:Dr:=some (l6,0)
def QD:=Bes
def Rb(j12:LU->Dr)(Zo:Int-> (List (Int×Int32×(Int×LX×LX×Unit)×Unit))->LU->Dr)(b:LX)(a f g:Int)(k:Bjd)(h:LU):Dr:=if(Cx g (Ad b))then(Af b g).bind λ_=>(Af b g).bind λac=>(Gi (Bg a 0)).bind λ_=>(Af k (Me g a)).bind λ_=>(Af k (Me g a)).bind λp=>(Ta p.1 p.2.1 p.2.2.1.1 p.2.2.1.2.1 p.2.2.1.2.2.1 ac).bind λ(u,ad,ae,v,af,ag,w)=>if(Bg w 0)then
some (([]:LU),w)
else(Pn k (Me g a) (ad,ae,(v,af,ag,()),())).bind λah=>(mN u).bind λai=>(Bf h ([ai]:LU)).bind λaj=>Zo (Ae g 1) ah aj
else
j12 h
def It:Nat->Int-> (List (Int×Int32×(Int×LX×LX×Unit)×Unit))->LU->Dr
|0,_,_,_=>none
|z+1,c,d,e=>Rb QD (It z) l A V c d e
def NN b a f:=It b a f Ay
def RG(j10:LX->Jz3 ( (List (Int×Int32×(Int×LX×LX×Unit)×Unit))->LU->Dr))(a f:Int)(b:LX)(m:Bjd):Dr:=j10 b a f 0 m ([]:LU)
def QS:=RG NN
def Aa5(j9:Int->Int->LX-> (List (Int×Int32×(Int×LX×LX×Unit)×Unit))->Dr)(bk7:Int-> (List (Int×Int32×(Int×LX×LX×Unit)×Unit))->Dr)(a f:Int)(n b:LX)(o:Int)(m:Bjd):Dr:=if(Cx o 6)then(wS f n).bind λ(ak,al,u,am,an,v)=>(Af m o).bind λ_=>(Pn m o (ak,al,(u,am,an,()),())).bind λao=>bk7 (Ae o 1) ao
else
j9 a f b m
def CR:Nat->Int-> (List (Int×Int32×(Int×LX×LX×Unit)×Unit))->Dr
|0,_,_=>none
|c+1,e,i=>Aa5 QS (CR c) z d l T e i
def BE a f n b:=CR a f n b Ay
def DB(j7:Int->Int->LX->LX->Int-> (List (Int×Int32×(Int×LX×LX×Unit)×Unit))->Dr)(a f:Int)(n y:LX):Dr:=(GC a f y).bind λaa=>if(Bg aa 0)then
some (([]:LU),aa)
else(D8 a y).bind λ(b,ab)=>if(Bg ab 0)then
some (([]:LU),ab)
else
j7 a f n b 0 (List.replicate 6 ((0:Int),(0:Int32),((0:Int),(List.replicate 16 (0:Int32)),(List.replicate 16 (0:Int32)),()),()))
def BJ:=DB BE
abbrev Iv:=Option ((List (Int×Int×UInt64×UInt64×Unit)))
def Bew(a:Bi5):Iv:=some a
def QV:=Bew
abbrev Bj6:=Int-> (List (Int×Int×UInt64×UInt64×Unit))->Iv
def RM(j6:(List (Int×Int×UInt64×UInt64×Unit))->Iv)(HJ:Bj6)(b:Int)(a:Bi5):Iv:=if(Cx b 6)then(pA).bind λ(f,g,h,k)=>(Af a b).bind λ_=>(Pn a b (f,g,h,k,())).bind λm=>HJ (Ae b 1) m
else
j6 a
def DR:Nat->Int-> (List (Int×Int×UInt64×UInt64×Unit))->Iv
|0,_,_=>none
|q+1,b,a=>RM QV (DR q) b a
def QY:=DR Ay
def BU(j4:Bj6):Iv:=j4 0 (List.replicate 6 ((0:Int),(0:Int),(0:UInt64),(0:UInt64),()))
def DC:=BU QY
def VO:Bju:=(Bm c).bind λd=>some (d,z)
abbrev Dz:=Option (LB×Int×Int)
def At2:Dz:=some (i,z,0)
def aQ:=At2
abbrev Bjq:=UInt64->Int->Int->LB->Dz
def Anr(Zq:Bjq)(b:UInt64)(a:Int)(m:UInt64)(h f:Int)(w:LB):Dz:=(Gi (Ha (Fy h (Ap 8 (Ed f 7))) 0)).bind λ_=>Zq (Cl m (GI.toZ (Fy h (Ap 8 (Ed f 7)))).toNat) (Ap h (Fy h (Ap 8 (Ed f 7)))) (Ae f (Fy h (Ap 8 (Ed f 7)))) w
def At3 Zq:=Anr Zq
def Atm(j19:Bjq)(b:UInt64)(a:Int)(m:UInt64)(h f:Int)(u:LB):Dz:=(Af u (Ap (Ad u) 1)).bind λ_=>(Gi (Ha (Fy h (Ap 8 (Ed f 7))) 0)).bind λ_=>(Gi (Ha (Ed f 7) 0)).bind λ_=>(Af u (Ap (Ad u) 1)).bind λad=>(Af u (Ap (Ad u) 1)).bind λ_=>Option.bind (Pn u (Ap (Ad u) 1) (pO ad (Dp (Ah (Ed m (Ap (Dp (1:UInt64) (GI.toZ (Fy h (Ap 8 (Ed f 7)))).toNat) 1)):UInt8) (GI.toZ (Ed f 7)).toNat))) λw=>j19 m h f w
def KS Zq b a:=Atm (At3 Zq b a) b a
def KG(j18:Bjq)(j21:Int->LB->Dz)(b:UInt64)(a:Int)(m:UInt64)(h f:Int)(o:LB):Dz:=if(Eg h 0)then
if(geq (Ed f 7) 0)then(Bf o ([(0:UInt8)]:LB)).bind λaa=>j18 m h f aa
else
j18 m h f o
else
j21 f o
def Np:Nat->UInt64->Int->Int->LB->Dz
|0,_,_,_,_=>none
|z+1,c,d,e,i=>KG (KS (Np z) D Z) aQ D Z c d e i
def Be3 b a:=Np b a Ay
def Be9:Dz:=some (i,z,0)
def Atl:=Be9
def Axp(nK:Bjq)(b:UInt64)(a:Int)(n:UInt64)(k g:Int)(ab:LB):Dz:=(Gi (Ha (Fy k (Ap 8 (Ed g 7))) 0)).bind λ_=>nK (Cl n (GI.toZ (Fy k (Ap 8 (Ed g 7)))).toNat) (Ap k (Fy k (Ap 8 (Ed g 7)))) (Ae g (Fy k (Ap 8 (Ed g 7)))) ab
def Bdn nK:=Axp nK
def Bfn(j26:Bjq)(b:UInt64)(a:Int)(n:UInt64)(k g:Int)(v:LB):Dz:=(Af v (Ap (Ad v) 1)).bind λ_=>(Gi (Ha (Fy k (Ap 8 (Ed g 7))) 0)).bind λ_=>(Gi (Ha (Ed g 7) 0)).bind λ_=>(Af v (Ap (Ad v) 1)).bind λae=>(Af v (Ap (Ad v) 1)).bind λ_=>Option.bind (Pn v (Ap (Ad v) 1) (pO ae (Dp (Ah (Ed n (Ap (Dp (1:UInt64) (GI.toZ (Fy k (Ap 8 (Ed g 7)))).toNat) 1)):UInt8) (GI.toZ (Ed g 7)).toNat))) λab=>j26 n k g ab
def Anw nK b a:=Bfn (Bdn nK b a) b a
def Ar1(j25:Bjq)(j28:Int->LB->Dz)(b:UInt64)(a:Int)(n:UInt64)(k g:Int)(p:LB):Dz:=if(Eg k 0)then
if(geq (Ed g 7) 0)then(Bf p ([(0:UInt8)]:LB)).bind λw=>j25 n k g w
else
j25 n k g p
else
j28 g p
def cE:Nat->UInt64->Int->Int->LB->Dz
|0,_,_,_,_=>none
|z+1,c,d,e,i=>Ar1 (Anw (cE z) D Z) Atl D Z c d e i
def Axh b a:=cE b a Ay
abbrev Bkc:=UInt64->Int->UInt64->Int->Int->LB->Dz
def gA(j15:Bkc)(j22:Bkc)(ac:LB)(y:Int)(b:UInt64)(a:Int):Dz:=(Ib ac y).bind λaf=>if(Bg af 0)then
some (([]:LB),0,8)
else
if((Cx a 0)||(Eg a 64))then
some (([]:LB),0,2)
else
if(Cx a 64)then(Gi (Ha a 0)).bind λ_=>if(Bg (Cl b (GI.toZ a).toNat) 0)then
some (([]:LB),0,16)
else
if(Eg (Ae y a) 330000)then
some (([]:LB),0,18)
else(VO ac y).bind λ(ag,ah)=>j15 b a b a ah ag
else
if(Eg (Ae y a) 330000)then
some (([]:LB),0,18)
else(VO ac y).bind λ(aa,ai)=>j22 b a b a ai aa
def OO:=gA Be3 Axh
def cW:Bjg:=if((Cx z 0)||(Eg z 48))then
some (0,2)
else
some ((Fy (Ae z 1) 48),0)
def RC:Bk4:=(Ib c z).bind λe=>if(Bg e 0)then
some (([]:LB),0,e)
else(cW d).bind λ(i,j)=>if(Bg j 0)then
some (([]:LB),0,j)
else(Gi (Ha d 0)).bind λ_=>(OO c z (Ap (Dp (1:UInt64) (GI.toZ d).toNat) 1) i).bind λ(l,A,B)=>some (l,A,B)
abbrev dD:=Option (LB×Int×Int)
def UO:dD:=(RC c z d).bind λ(e,i,j)=>if(Bg j 0)then
some (([]:LB),0,j)
else(OO e i (Ah X:UInt64) p9).bind λ(l,A,B)=>some (l,A,B)
def TQ:=UO
def An2(j2:LB->Int->Int->UInt32->Int->dD)(b:LB)(f:Int)(g:UInt32)(a:Int):dD:=(Ib b f).bind λk=>if(Bg k 0)then
some (([]:LB),0,k)
else
if((Cx a 0)||(Eg a 24))then
some (([]:LB),0,2)
else(Gi (Ha a 0)).bind λ_=>(Gi (Ha a 0)).bind λ_=>(Vh g a).bind λaa=>if aa then
j2 b f 48 g 32
else
j2 b f (Ah (Cl g (GI.toZ a).toNat):Int) (Ed g (Ap (Dp (1:UInt32) (GI.toZ a).toNat) 1)) a
def aI:=An2 TQ
abbrev Hy:=Option (LB×Int×Int×Int×UInt64×UInt64×Int)
def DO:Hy:=(
(
some (Bh3,z,d,j,(Ae D (Ap (Ah X:UInt64) (Cl D (GI.toZ (4:UInt64)).toNat))),l5,0)))
def PL:=DO
def TE(j10:Jz3 (UInt64->UInt32->UInt64->LB->Hy))(b:UInt32)(k n:Int)(a o:UInt64)(m:LB)(u:Int):Hy:=j10 k u n a b o m
def An3:=TE PL
def TP(j9:UInt32->Int->Int->UInt64->UInt64->LB->Int->Hy)(b:UInt32)(f:Int)(a:UInt64)(k:Int)(m:LB)(n:Int)(o:UInt64):Hy:=if(Eg f 0)then(Gi (Ha f 0)).bind λ_=>if(Cx (Ae a (Ap (Ah b:UInt64) (Cl a (GI.toZ (4:UInt64)).toNat))) (Dp (16:UInt64) (GI.toZ f).toNat))then
j9 b k n a o m (Ap f 1)
else
if(Cx f 24)then(Gi (Ha f 0)).bind λ_=>if(Eg (Ae a (Ap (Ah b:UInt64) (Cl a (GI.toZ (4:UInt64)).toNat))) (Dp (32:UInt64) (GI.toZ f).toNat))then
j9 b k n a o m (Ae f 1)
else
j9 b k n a o m f
else
j9 b k n a o m f
else
if(Cx f 24)then(Gi (Ha f 0)).bind λ_=>if(Eg (Ae a (Ap (Ah b:UInt64) (Cl a (GI.toZ (4:UInt64)).toNat))) (Dp (32:UInt64) (GI.toZ f).toNat))then
j9 b k n a o m (Ae f 1)
else
j9 b k n a o m f
else
j9 b k n a o m f
def Xj:=TP An3
def TV(j8:UInt32->Int->UInt64->Int->LB->Int->UInt64->Hy)(b:UInt32)(f h:Int)(a g:UInt64)(ac k:Int)(m:LB):Hy:=if(Bg ac 0)then
some (([]:LB),0,0,0,0,0,ac)
else(FL f h a g b).bind λ(ag,p)=>if(geq ag 1)then
if(Eg h 0)then(Gi (Ha h 0)).bind λ_=>if(Cx (Ae g (Ap (Ah p:UInt64) (Cl g (GI.toZ (4:UInt64)).toNat))) (Dp (16:UInt64) (GI.toZ h).toNat))then
j8 b f a k m (Ap h 1) (Ae g (Ap (Ah p:UInt64) (Cl g (GI.toZ (4:UInt64)).toNat)))
else
if(Cx h 24)then(Gi (Ha h 0)).bind λ_=>if(Eg (Ae g (Ap (Ah p:UInt64) (Cl g (GI.toZ (4:UInt64)).toNat))) (Dp (32:UInt64) (GI.toZ h).toNat))then
j8 b f a k m (Ae h 1) (Ae g (Ap (Ah p:UInt64) (Cl g (GI.toZ (4:UInt64)).toNat)))
else
j8 b f a k m h (Ae g (Ap (Ah p:UInt64) (Cl g (GI.toZ (4:UInt64)).toNat)))
else
j8 b f a k m h (Ae g (Ap (Ah p:UInt64) (Cl g (GI.toZ (4:UInt64)).toNat)))
else
if(Cx h 24)then(Gi (Ha h 0)).bind λ_=>if(Eg (Ae g (Ap (Ah p:UInt64) (Cl g (GI.toZ (4:UInt64)).toNat))) (Dp (32:UInt64) (GI.toZ h).toNat))then
j8 b f a k m (Ae h 1) (Ae g (Ap (Ah p:UInt64) (Cl g (GI.toZ (4:UInt64)).toNat)))
else
j8 b f a k m h (Ae g (Ap (Ah p:UInt64) (Cl g (GI.toZ (4:UInt64)).toNat)))
else
j8 b f a k m h (Ae g (Ap (Ah p:UInt64) (Cl g (GI.toZ (4:UInt64)).toNat)))
else
j8 b f a k m h g
def UP:=TV Xj
def TL(j7:UInt32->Int->Int->UInt64->UInt64->Int->Int->LB->Hy)(b:UInt32)(v:LB)(w f h:Int)(a g:UInt64):Hy:=(FL f h a g b).bind λ(ad,ae)=>(OO v w (Ah ad:UInt64) 1).bind λ(y,aa,ab)=>if((geq ab 0)&&(geq ad 0))then(OO y aa (Ah ae:UInt64) f).bind λ(ah,ai,aj)=>j7 b f h a g aj ai ah
else
if(geq ab 0)then(aI y aa ae h).bind λ(ak,al,am)=>j7 b f h a g am al ak
else
j7 b f h a g ab aa y
def Amn:=TL UP
def UG(j6:UInt32->LB->Jz3 (UInt64->UInt64->Hy))(v:LB)(w f h:Int)(a g:UInt64)(b:UInt32):Hy:=(Ib v w).bind λan=>if(Bg an 0)then
some (([]:LB),0,0,0,0,0,8)
else(MP f h a g).bind λao=>if(Bg ao 0)then
some (([]:LB),0,0,0,0,0,8)
else
j6 b v w f h a g
def cV:=UG Amn
abbrev Br:=Option (LB×Int)
def OW(v:Int)(p:LB):Br:=(Vw p).bind λ(af,ac)=>if(Bg ac 0)then
some (([]:LB),ac)
else(Xb (Ah af:UInt64) 4).bind λ(m,h)=>if(Bg h 0)then
some (([]:LB),h)
else(Dj ([p,m]:Bi3)).bind λag=>some (ag,0)
def Yo:=OW
abbrev Bjl:=Int-> (List (Int×Int×UInt64×UInt64×Unit))->Int->LB->Br
def NU(UR:Bjl)(b:LU)(a g f:Int)(n:Bi5)(k:Int)(w:LB):Br:=UR (Ae f 1) n k w
def Zf UR:=NU UR
abbrev Bky:=Int->Int->LB->Br
def PB(X8:Bky)(h:Int)(b:LU)(f a g:Int)(n:Bi5)(m:LB)(o k:Int)(ab:LB):Br:=X8 (Ae o 1) (Ae k 1) ab
def PK X8:=PB X8
def LJ(j48:Bky)(h:Int)(b:LU)(f a g:Int)(n:Bi5)(m:LB)(o k:Int)(y:LB):Br:=(Af m (Ej o 8)).bind λ_=>(Af m (Ej o 8)).bind λah=>(Gi (Ha (Me o 8) 0)).bind λ_=>(Af y (Ej k 8)).bind λ_=>(Gi (Ha (Me k 8) 0)).bind λ_=>(Af y (Ej k 8)).bind λai=>(Af y (Ej k 8)).bind λ_=>Option.bind (Pn y (Ej k 8) (pO ai (Dp (Ed (Cl ah (GI.toZ (Me o 8)).toNat) 1) (GI.toZ (Me k 8)).toNat))) λab=>j48 o k ab
def Rr X8 h b f a g n m:=LJ (PK X8 h b f a g n m) h b f a g n m
def Rc(j47:Bky)(j50:Bjl)(b:LU)(a g h f:Int)(n:Bi5)(m:LB)(o k:Int)(w:LB):Br:=if(Cx o h)then
if(geq (Me k 8) 0)then(Bf w ([(0:UInt8)]:LB)).bind λaj=>j47 o k aj
else
j47 o k w
else
j50 f n k w
def Fm(UR:Bjl)(b:LU)(a g h f:Int)(n:Bi5)(m:LB):Nat->Int->Int->LB->Br
|0,_,_,_=>none
|q+1,o,k,w=>Rc (Rr (Fm UR b a g h f n m q) h b f a g n m) (Zf UR b a g) b a g h f n m o k w
def OJ UR b a g h f n m:=Fm UR b a g h f n m Ay
def Rp(j44:Int->Int-> (List (Int×Int×UInt64×UInt64×Unit))->LB->Int->Int->LB->Br)(j52:Int->LB->Br)(b:LU)(a g f:Int)(u:Bi5)(v:Int)(p:LB):Br:=if(Cx f (Ad b))then(Af b f).bind λ_=>(Af b f).bind λak=>(Gi (Bg a 0)).bind λ_=>(Af u (Me f a)).bind λ_=>(Af u (Me f a)).bind λaa=>(cV ([]:LB) 0 aa.1 aa.2.1 aa.2.2.1 aa.2.2.2.1 ak).bind λ(m,h,al,am,an,ao,ad)=>if(Bg ad 0)then
some (([]:LB),ad)
else(Gi (Bg a 0)).bind λ_=>(Af u (Me f a)).bind λ_=>(Pn u (Me f a) (al,am,an,ao,())).bind λn=>j44 h f n m 0 v p
else
j52 v p
def Gz:Nat->Int-> (List (Int×Int×UInt64×UInt64×Unit))->Int->LB->Br
|0,_,_,_,_=>none
|z+1,c,d,e,i=>Rp (OJ (Gz z) l6 Bhp Bhq) Yo l6 Bhp Bhq c d e i
def MX b a g:=Gz b a g Ay
def CA(j27:LU->Jz3 ( (List (Int×Int×UInt64×UInt64×Unit))->Int->LB->Br))(a g:Int)(ap aq:LX):Br:=(BJ a g ap aq).bind λ(b,ae)=>if(Bg ae 0)then
some (([]:LB),ae)
else(DC).bind λar=>j27 b a g 0 ar 0 ([]:LB)
def Uh:=CA MX
def Qt(b f g:Int)(h k:LB)(m:LX)(n:Bi3)(o:LB)(p:Bool)(u a:Int):Bjt:=some (b,f,g,h,([]:LB),([]:LX),([]:Bi3),([]:LB),false,a,a)
abbrev Bz:=Option (Int×Int×Int×LB×LB×LX×(List LB)×LB×Bool×Int×Int)
def Abc:Bz:=some (z,d,j,i,U,y7,Bh2,Biu,F,I,0)
def EZ:=Abc
abbrev Bj2:=Int->LB->LX-> (List LB)->Bz
def Uz(dL:Bj2)(p:Int)(n:LB)(a b g:Int)(f:LB)(h:Bool)(k o:Int)(m:LB)(u:Int)(ao:LB)(ap:LX)(aq:Bi3):Bz:=dL (Ae u 1) ao ap aq
def Ln dL:=Uz dL
def Vr(j24:Bj2)(p:Int)(n:LB)(a b g:Int)(f:LB)(h:Bool)(k o:Int)(m:LB)(u ad:Int)(ae:LB)(af:LX)(ag:Bi3):Bz:=if(Bg ad 0)then(Qt a b g f ae af ag m h k ad).bind λ(ar,au,av,aw,ax,ay,az,ba,bb,bc,bd)=>some (ar,au,av,aw,ax,ay,az,ba,bb,bc,bd)
else
j24 u ae af ag
def Hj dL p n a b g f h k o m:=Vr (Ln dL p n a b g f h k o m) p n a b g f h k o m
abbrev Bjv:=Int->Int->LB->LX-> (List LB)->Bz
def Bg7(j23:Bjv)(p:Int)(n:LB)(a b g:Int)(f:LB)(h:Bool)(k o:Int)(m:LB)(u:Int)(ab:LX)(v:Bi3)(be:Int):Bz:=j23 u be ([]:LB) ab v
def Bg1 dL p n a b g f h k o m:=Bg7 (Hj dL p n a b g f h k o m) p n a b g f h k o m
def Ad4(j23:Bjv)(p:Int)(n:LB)(a b g:Int)(f:LB)(h:Bool)(k o:Int)(m:LB)(u:Int)(ac:Bi3):Bz:=j23 u 0 ([]:LB) ([]:LX) ac
def Adp dL p n a b g f h k o m:=Ad4 (Hj dL p n a b g f h k o m) p n a b g f h k o m
def Abe(j23:Bjv)(j21:Int->LX-> (List LB)->Int->Bz)(j22:Int-> (List LB)->Bz)(p:Int)(n:LB)(a b g:Int)(f:LB)(h:Bool)(k o:Int)(m:LB)(u:Int)(aa:LB)(w:LX)(v:Bi3):Bz:=(Od b aa).bind λ(bf,ah)=>if(Bg ah 0)then
j23 u ah aa w v
else(Bf w bf).bind λab=>if(Cx (Ad ab) (Cm o a))then
j23 u 0 ([]:LB) ab v
else(Mv f).bind λ(bg,ai)=>if(Bg ai 0)then
j21 u ab v ai
else(Uh a b bg ab).bind λ(bh,aj)=>if(Bg aj 0)then
j21 u ab v aj
else(Bf v ([bh]:Bi3)).bind λac=>j22 u ac
def EJ dL p n a b g f h k o m:=Abe (Hj dL p n a b g f h k o m) (Bg1 dL p n a b g f h k o m) (Adp dL p n a b g f h k o m) p n a b g f h k o m
def Vo(j24:Bj2)(j23:Bjv)(j20:Bj2)(j26:Jz3 (LB->Bool->Int->LB->LX-> (List LB)->LB->Bz))(p:Int)(n:LB)(a b g:Int)(f:LB)(h:Bool)(k o:Int)(m:LB)(u:Int)(y:LB)(w:LX)(v:Bi3):Bz:=if(Cx u (Ad n))then(Af n u).bind λbi=>(Bf y ([bi]:LB)).bind λaa=>if(Cx (Ad aa) p)then
j24 u aa w v
else(Sp a b g f aa w v m h k o).bind λbj=>(Ro a b g f aa w v m h k (Ae (Ad v) 1) (Ae bj 1)).bind λbk=>if(!bk)then
j23 u 18 aa w v
else
j20 u aa w v
else
j26 a b g f h k y w v m
def Hh:Nat->Int->LB->LX-> (List LB)->Bz
|0,_,_,_,_=>none
|c+1,d,e,j,l=>Vo (Ln (Hh c) z i A V o9 R F I p8 U) (Hj (Hh c) z i A V o9 R F I p8 U) (EJ (Hh c) z i A V o9 R F I p8 U) EZ z i A V o9 R F I p8 U d e j l
def Abf p n a b g f h k o m:=Hh p n a b g f h k o m Ay
def IY(j14:Int->LB->Jz3 (LB->Bool->Int->Int->LB->Int->LB->LX-> (List LB)->Bz))(bl bm bn:Int)(bp bq:LB)(br:LX)(bs:Bi3)(bt:LB)(bu:Bool)(bv:Int)(n:LB):Bz:=(Xe bl bm bn bp bq br bs bt bu bv).bind λ(a,b,g,f,ak,al,am,m,h,k,o,an)=>if(Bg an 0)then
some (a,b,g,f,ak,al,am,m,h,k,an)
else(DD a b).bind λp=>j14 p n a b g f h k o m 0 ak al am
def KJ:=IY Abf
def GF:Bjg:=if(Eg (Ad c) 64)then
some (0,2)
else
if(geq (Ad c) 0)then
some (1,0)
else
some (2,0)
abbrev Mc:=Option (LB×Int)
def Aer:Mc:=(Vw c).bind λ(z,d)=>(Xb (Ah z:UInt64) 4).bind λ(e,i)=>(Bf c e).bind λj=>some (j,0)
def Yg:=Aer
def Yc(j6:LB->Mc)(HJ:Int->LB->Mc)(b f g h k m:Int)(a:LB):Mc:=if(Cx m 5)then(Af ([b,f,g,h,k]:LI) m).bind λw=>(Af ([(2:Int),(2:Int),(2:Int),(4:Int),(4:Int)]:LI) m).bind λy=>(Xb (Ah w:UInt64) y).bind λ(n,v)=>(Bf a n).bind λo=>HJ (Ae m 1) o
else
j6 a
def Kl:Nat->Int->LB->Mc
|0,_,_=>none
|c+1,e,i=>Yc Yg (Kl c) z d j C E e i
def Aem b f g h k:=Kl b f g h k Ay
def HR(j4:Jz6 (LB->Mc))(b f g h k:Int):Mc:=(Qu b f g h k).bind λp=>if(Bg p 0)then
some (([]:LB),p)
else
j4 b f g h k 0 ([(84:UInt8),(84:UInt8),(65:UInt8),(49:UInt8)]:LB)
def KL:=HR Aem
abbrev Gv:=Option (LB×Int)
def Bgv:Gv:=some (c,0)
def Awt:=Bgv
def Af0(j14:LB->Gv)(b:LB):Gv:=(Vw b).bind λ(m,u)=>(Xb (Ah m:UInt64) 4).bind λ(n,v)=>(Bf b n).bind λg=>j14 g
def IC:=Af0 Awt
def Af7(bk8:Int->LB->Gv)(a:LI)(f:Int)(h:LB):Gv:=bk8 (Ae f 1) h
def JH bk8:=Af7 bk8
def DG(j11:Int->LB->Gv)(j13:LB->Gv)(a:LI)(f:Int)(b:LB):Gv:=if(Cx f (Ad a))then(Af a f).bind λo=>(Xb (Ah o:UInt64) 4).bind λ(p,w)=>(Bf b p).bind λh=>j11 f h
else
j13 b
def Pp:Nat->Int->LB->Gv
|0,_,_=>none
|z+1,c,d=>DG (JH (Pp z) B) IC B c d
def Ay4 a:=Pp a Ay
def OP(j8:LI->Int->LB->Gv)(a:LI):Gv:=(Jq a).bind λk=>if(Bg k 0)then
some (([]:LB),k)
else
j8 a 0 ([]:LB)
def HB:=OP Ay4
abbrev Ia:=Option (LB×Int)
def Xy(f g h:Int)(b k:LB)(m:LX)(a:Bi3)(n:LB)(o:Bool)(p:Int)(u:LB)(v:LI):Ia:=(HB v).bind λ(aa,y)=>if(Bg y 0)then
some (([]:LB),y)
else(
(Bf u aa).bind λab=>(Dj a).bind λac=>(Bf ab ac).bind λad=>some (ad,0))
def Se:=Xy
def Xt(j8:Jz3 (LB->LB->LX-> (List LB)->LB->Bool->Int->LB->LI->Ia))(bk6:Int->LI->Ia)(a:Bi3)(f g h:Int)(b k:LB)(m:LX)(n:LB)(o:Bool)(p:Int)(u:LB)(w:Int)(v:LI):Ia:=if(Cx w (Ad a))then(Af a w).bind λai=>(Bf v ([(Ad ai)]:LI)).bind λaj=>bk6 (Ae w 1) aj
else
j8 f g h b k m a n o p u v
def Mx:Nat->Int->LI->Ia
|0,_,_=>none
|z+1,c,d=>Xt Se (Mx z) N o7 Bhs J Y Bh8 y7 Bh9 Bir Bia Bis c d
def Bhd a f g h b k m n o p u:=Mx a f g h b k m n o p u Ay
def Xs(j6:(List LB)->Jz3 (LB->LB->LX->LB->Bool->Int->LB->Int->LI->Ia))(f g h:Int)(b k:LB)(m:LX)(a:Bi3)(n:LB)(o:Bool)(p:Int)(u:LB):Ia:=j6 a f g h b k m n o p u 0 ([]:LI)
def JJ:=Xs Bhd
def JC(j5:Jz3 (LB->LB->LX-> (List LB)->LB->Bool->Int->LB->Ia))(f g h:Int)(b k:LB)(m:LX)(a:Bi3)(n:LB)(o:Bool)(p ak:Int):Ia:=(GF b).bind λ(al,ae)=>if(Bg ae 0)then
some (([]:LB),ae)
else(KL al f g h ak).bind λ(af,ag)=>if(Bg ag 0)then
some (([]:LB),ag)
else
if(b !=([]:LB))then(BL b).bind λ(am,ah)=>if(Bg ah 0)then
some (([]:LB),ah)
else(Bf af am).bind λan=>j5 f g h b k m a n o p an
else
j5 f g h b k m a n o p af
def KD:=JC JJ
abbrev Lq:=Option (Int×Int×Int×LB×LB×LX×(List LB)×LB×Bool×Int×Int)
def BQ:Lq:=(KD d j C i U y7 Bh2 Y F I z).bind λ(c,e)=>if(Bg e 0)then(Qt d j C i U y7 Bh2 Y F I e).bind λ(l,A,B,D,E,G,J,L,M,N,O)=>some (l,A,B,D,E,G,J,L,M,N,O)
else
some (d,j,C,i,([]:LB),([]:LX),([]:Bi3),c,true,0,0)
def Tw:=BQ
abbrev Bjw:=Jz4 (LB->Bool->Int->LB->LB->LX-> (List LB)->Lq)
def Aaa(j4:Bjw)(o a b g:Int)(f:LB)(k:Bool)(m:Int)(h n:LB)(ad:Int)(ae:LX)(af:Bi3):Lq:=if(Bg ad 0)then(Qt a b g f h ae af n k m ad).bind λ(au,v,w,av,aw,ax,y,aa,ay,az,ba)=>some (au,v,w,av,aw,ax,y,aa,ay,az,ba)
else
j4 o a b g f k m h n ae af
def RD:=Aaa Tw
def Aa3(j3:Jz4 (LB->Bool->Int->LB->LB->Int->LX-> (List LB)->Lq))(j4:Bjw)(bb bc bd:Int)(be bf:LB)(bg:LX)(bh:Bi3)(bi:LB)(bj:Bool)(bk:Int):Lq:=(Xe bb bc bd be bf bg bh bi bj bk).bind λ(a,b,g,f,h,p,u,n,k,m,bl,ag)=>if(Bg ag 0)then
some (a,b,g,f,h,p,u,n,k,m,ag)
else(Sp a b g f h p u n k m bl).bind λo=>if((Eg (Ad h) 0)||(geq o 0))then(Qt a b g f h p u n k m 24).bind λ(bm,bn,bp,bq,br,bs,bt,bu,bv,bw,bx)=>some (bm,bn,bp,bq,br,bs,bt,bu,bv,bw,bx)
else
if(Eg (Ad p) 0)then(Mv f).bind λ(bz,ah)=>if(Bg ah 0)then
j3 o a b g f k m h n ah p u
else(Uh a b bz p).bind λ(da,ai)=>if(Bg ai 0)then
j3 o a b g f k m h n ai p u
else(Bf u ([da]:Bi3)).bind λdb=>j3 o a b g f k m h n 0 ([]:LX) db
else
j4 o a b g f k m h n p u
def BZ:=Aa3 RD Tw
abbrev Hi:=Option (LB×Int)
def Aab(aw bf bg bh:Int)(bi:LB)(bj:Bool)(bk:Int)(bl:LB)(bm:LX)(bn:Bi3)(bc:LB):Hi:=if(Bg aw 0)then
some (([]:LB),aw)
else
some (bc,0)
def CW:=Aab
abbrev Bjx:=Jz4 (LB->Bool->Int->LB->LX-> (List LB)->LB->Hi)
def Aa7(j6:Bjx)(w a y aa ab:Int)(ac:LB)(ad:Bool)(ae b f g:Int)(h k:LB)(m:LX)(n:Bi3)(o:LB)(p:Bool)(u:Int)(af:LB)(ag:LX)(ah:Bi3)(ai:LB):Hi:=j6 w y aa ab ac ad ae af ag ah ai
def RZ:=Aa7 CW
abbrev Bji:=Jz5 (LB->Bool->Int->Int->Int->Int->LB->LB->LX-> (List LB)->LB->Bool->Int->LB->LX-> (List LB)->LB->Hi)
def QP(j6:Bjx)(j5:Bji)(v a aj ak al:Int)(am:LB)(an:Bool)(ao b f g:Int)(h k:LB)(m:LX)(n:Bi3)(o:LB)(p:Bool)(u:Int)(ap:LB)(aq:LX)(ar:Bi3)(au:LB):Hi:=if(Bg v 0)then
j6 v 0 0 0 ([]:LB) false 0 ([]:LB) ([]:LX) ([]:Bi3) ([]:LB)
else(BZ aj ak al am ap aq ar au an ao).bind λ(y,aa,ab,ac,af,ag,ah,ai,ad,ae,w)=>j5 w a y aa ab ac ad ae b f g h k m n o p u af ag ah ai
def Aaf:=QP CW RZ
def CC(j4:Bji)(ax av ay:Int)(az:LX)(bd:LB):Hi:=(Fa ax av ay az).bind λba=>if(Bg ba 0)then
some (([]:LB),ba)
else(Ik av az).bind λ(be,bb)=>if(Bg bb 0)then
some (([]:LB),bb)
else(SB ax av ay bd).bind λ(b,f,g,h,k,m,n,o,p,u,a)=>if(Bg a 0)then
some (([]:LB),a)
else(KJ b f g h k m n o p u be).bind λ(aj,ak,al,am,ap,aq,ar,au,an,ao,v)=>j4 v a aj ak al am an ao b f g h k m n o p u ap aq ar au
def Uf:=CC Aaf
abbrev Ac:=Option (LB×LB×LB)
def Bcp:Ac:=some (([119,104,97,116]:LB),c,e)
def Ae4:=Bcp
def Bay:Ac:=some (i,c,e)
def Qm:=Bay
def Baz:Ac:=some (c,i,e)
def Bci:=Baz
abbrev Bi6:=LB->LB->LB->Ac
def Bd7(j100:Bi6)(g a hr:LB):Ac:=j100 g a hr
def Bd9:=Bd7 Qm
def Bdb(j101:Bi6)(ag a al:LB):Ac:=j101 ag a al
def Bdl:=Bdb Bci
def Bde(j98:Bi6)(j99:Bi6)(g a:LB)(k:LI):Ac:=(Af k 0).bind λ_=>(Af k 0).bind λhs=>(Cb g 0 hs).bind λht=>(Bm ht).bind λal=>if(Bg (0:Int) (0:Int))then(Ao 0).bind λdr=>j98 g a dr
else
if(Eg (Ad al) 100000)then(Ao 4).bind λds=>j98 g a ds
else(strconv_Itoa (Ad al)).bind λag=>j99 ag a al
def BA:=Bde Bd9 Bdl
def Bcn:Ac:=some (c,e,i)
def Bd2:=Bcn
def Bco(j128:Bi6)(aa aj:Int)(ah:UInt8)(ab ai:Int)(g a:LB):Ac:=(Fc ([(Ah ah:Int),ab,ai]:LI) aa).bind λdt=>j128 dt g a
def AB:=Bco Bd2
def Bbc:Ac:=some (c,e,i)
def Ae3:=Bbc
def Bc2:Ac:=some (c,e,i)
def Ae0:=Bc2
def Bcr:Ac:=some (c,e,i)
def Ae6:=Bcr
def Bcx:Ac:=some (i,c,e)
def Po:=Bcx
def Bcj:Ac:=some (c,i,e)
def Bb8:=Bcj
def Bc0(j135:Bi6)(g a hv:LB):Ac:=j135 g a hv
def Bb5:=Bc0 Po
def Bad(j136:Bi6)(br a ax:LB):Ac:=j136 br a ax
def Baa:=Bad Bb8
def Bc6(j133:Bi6)(j134:Bi6)(g a:LB)(k:LI):Ac:=(Af k 0).bind λ_=>(Af k 1).bind λ_=>(Af k 0).bind λhw=>(Af k 1).bind λbs=>(Au9 g hw (Ah bs:UInt8)).bind λ(ax,gs)=>if(Bg gs 0)then(Ao gs).bind λhx=>j133 g a hx
else
if(Eg (Ad ax) 100000)then(Ao 4).bind λhy=>j133 g a hy
else(strconv_Itoa (Ad ax)).bind λbr=>j134 br a ax
def Adz:=Bc6 Bb5 Baa
def Baw:Ac:=some (i,c,e)
def Qe:=Baw
def Bag:Ac:=some (c,i,e)
def Bck:=Bag
def Bae(j139:Bi6)(g a ka:LB):Ac:=j139 g a ka
def AI:=Bae Qe
def Bd5(j140:Bi6)(ay a am:LB):Ac:=j140 ay a am
def AE:=Bd5 Bck
def Bcz:Ac:=some (c,e,i)
def Bcw:=Bcz
def Bcv(j142:Bi6)(bt bu:Int)(g a:LB):Ac:=(Fc ([bt]:LI) bu).bind λdu=>j142 du g a
def Ae2:=Bcv Bcw
def Bao:Ac:=some (c,e,i)
def Bb1:=Bao
def Bah:Ac:=some (c,i,e)
def Bd1:=Bah
def Bb2(j149:Bi6)(g a dv:LB):Ac:=j149 dv g a
def Bcm:=Bb2 Bb1
def Bd3(j150:Bi6)(bv a az:LB):Ac:=j150 bv a az
def Baf:=Bd3 Bd1
def Pj(j147:Bi6)(j148:Bi6)(g a:LB)(p u v:Int)(ac:LX):Ac:=(Uf p u v ac a).bind λ(az,gt)=>if(Bg gt 0)then(Ao gt).bind λkb=>j147 g a kb
else
if(Eg (Ad az) 100000)then(Ao 4).bind λkc=>j147 g a kc
else(strconv_Itoa (Ad az)).bind λbv=>j148 bv a az
def Dk:=Pj Bcm Baf
def Qg(j146:LB->LB->Jz3 (LX->Ac))(Az2:Int->LX->Ac)(w:LI)(g a:LB)(p u v af:Int)(ac:LX):Ac:=if(Cx af (Ad w))then(Af w af).bind λkd=>(Bf ac ([(Ah kd:Int32)]:LX)).bind λke=>Az2 (Ae af 1) ke
else
j146 g a p u v ac
def Hg:Nat->Int->LX->Ac
|0,_,_=>none
|z+1,c,d=>Qg Dk (Hg z) B i l9 A V o9 c d
def Ae1 w g a p u v:=Hg w g a p u v Ay
def Pu(j144:LI->LB->LB->Jz4 (LX->Ac))(g a:LB)(k:LI)(p u v:Int):Ac:=(Cb k 3 (Ad k)).bind λw=>j144 w g a p u v 0 ([]:LX)
def AO:=Pu Ae1
abbrev Bk9:=LB->LB->Ac
abbrev Bkd:=Int->Int->UInt8->Int->Int->LB->LB->Ac
def Ld(j100:Bi6)(j97:LB->LB->LI->Ac)(j126:Bk9)(j127:Bkd)(j129:Bi6)(j130:Bi6)(j131:Bi6)(j135:Bi6)(j132:LB->LB->LI->Ac)(j139:Bi6)(j137:Bi6)(j138:Bi6)(j141:Int->Int->LB->LB->Ac)(j143:LB->LB->LI->Jz3 Ac)(h g a:LB)(k:LI):Ac:=if(h==[99,117,116])then
if((true&&(Ha (Ad k) 1))&&(MQ (Ad k) 1))then(Af k 0).bind λ_=>(Af k 0).bind λbw=>if(Cx bw 0)then(Ao 2).bind λaq=>j100 g a aq
else(Af k 0).bind λ_=>(Af k 0).bind λdw=>if(Eg dw (Ad g))then(Ao 2).bind λdx=>j100 g a dx
else
j97 g a k
else
j126 g a
else
if(h==[112,108,97,99,101])then
if((true&&(Ha (Ad k) 1))&&(MQ (Ad k) 1))then(Af k 0).bind λ_=>(
(
(
(Af k 0).bind λan=>(
(Ru g a an).bind λ(aj,ah,ab,ai,aa)=>j127 aa aj ah ab ai g a))))
else
j126 g a
else
if(h==[102,114,97,109,101])then
if((true&&(Ha (Ad k) 1))&&(MQ (Ad k) 1))then(Af k 0).bind λ_=>(Af k 0).bind λdy=>(BH g a dy).bind λ(dz,fa)=>(Gl dz fa).bind λbn=>j129 bn g a
else
j126 g a
else
if(h==[102,114,111,109])then
if((true&&(Ha (Ad k) 1))&&(MQ (Ad k) 1))then(Af k 0).bind λ_=>(Af k 0).bind λfb=>(Ug g a fb).bind λ(fc,fd)=>(Gl fc fd).bind λbp=>j130 bp g a
else
j126 g a
else
if(h==[97,116])then
if((true&&(Ha (Ad k) 1))&&(MQ (Ad k) 1))then(Af k 0).bind λ_=>(Af k 0).bind λfe=>(vD g a fe).bind λ(ff,fg)=>(Gl ff fg).bind λbq=>j131 bq g a
else
j126 g a
else
if(h==[102,108,105,112])then
if((true&&(Ha (Ad k) 2))&&(MQ (Ad k) 2))then(Af k 1).bind λ_=>(Af k 1).bind λfh=>if(Cx fh 0)then(Ao 2).bind λfi=>j135 g a fi
else(Af k 1).bind λ_=>(Af k 1).bind λfj=>if(Eg fj 255)then(Ao 2).bind λfk=>j135 g a fk
else
j132 g a k
else
j126 g a
else
if(h==[98,117,114,115,116])then
if((true&&(Ha (Ad k) 2))&&(MQ (Ad k) 2))then(Af k 1).bind λ_=>(Af k 1).bind λbs=>if(Cx bs 0)then(Ao 2).bind λfl=>j139 g a fl
else(Af k 0).bind λ_=>(Af k 1).bind λ_=>(Af k 0).bind λfm=>(Af k 1).bind λfn=>(aO g fm (Ah fn:UInt32)).bind λ(am,bx)=>if(Bg bx 0)then(Ao bx).bind λfo=>j137 g a fo
else
if(Eg (Ad am) 100000)then(Ao 4).bind λfp=>j137 g a fp
else(strconv_Itoa (Ad am)).bind λay=>j138 ay a am
else
j126 g a
else
if(h==[119,97,121,115])then
if((true&&(Ha (Ad k) 2))&&(MQ (Ad k) 2))then(Af k 0).bind λ_=>(Af k 1).bind λ_=>(Af k 0).bind λfq=>(Af k 1).bind λfs=>(kK a g fq fs).bind λ(bt,bu)=>j141 bt bu g a
else
j126 g a
else
if(h==[99,108,105,112])then
if((true&&(Ha (Ad k) 3))&&(MQ (Ad k) 3000))then(Af k 0).bind λ_=>(Af k 1).bind λ_=>(Af k 2).bind λ_=>(Af k 0).bind λp=>(Af k 1).bind λu=>(Af k 2).bind λv=>(
j143 g a k p u v)
else
j126 g a
else
if((false&&(Ha (Ad k) 0))&&(MQ (Ad k) 0))then
none
else
j126 g a
def Ky:=Ld Qm BA Ae4 AB Ae3 Ae0 Ae6 Po Adz Qe AI AE Ae2 AO
def Qz(j96:LB->LB->LB->LI->Ac)(Bbz:Int->LI->Ac)(h:LB)(m:Bi3)(g a:LB)(y:Int)(k:LI):Ac:=if(Cx y (Ad m))then(Af m y).bind λbw=>(Hu bw).bind λ(kf,kg)=>if(!kg)then
some (([119,104,97,116]:LB),g,a)
else(Bf k ([kf]:LI)).bind λn=>Bbz (Ae y 1) n
else
j96 h g a k
def Ic:Nat->Int->LI->Ac
|0,_,_=>none
|z+1,d,e=>Qz Ky (Ic z) c N U Y d e
def Qy h m g a:=Ic h m g a Ay
def Dc(j94:LB-> (List LB)->LB->LB->Int->LI->Ac)(h:LB)(m:Bi3)(g a:LB):Ac:=j94 h m g a 0 ([]:LI)
def AY:=Dc Qy
abbrev Bj3:=LB-> (List LB)->LB->LB->Ac
def Dd(j93:Bj3)(h:LB)(m:Bi3)(kh:LB)(ki:Bool)(g a:LB):Ac:=if ki then
some (kh,g,a)
else
j93 h m g a
def Dw:=Dd AY
abbrev Bjh:=LB-> (List LB)->LB->Bool->LB->LB->Ac
def Rw(j92:Bjh)(h:LB)(m:Bi3)(f b:LB):Ac:=j92 h m ([]:LB) false f b
def BO:=Rw Dw
def DK(j92:Bjh)(h:LB)(m:Bi3)(f b kj:LB):Ac:=j92 h m kj true f b
def Bd8:=DK Dw
def CB(j92:Bjh)(bz h:LB)(m:Bi3)(b ar:LB):Ac:=j92 h m bz true ar b
def Bdm:=CB Dw
def Ae9(j92:Bjh)(h:LB)(m:Bi3)(f b kk:LB):Ac:=j92 h m kk true f b
def Bc1:=Ae9 Dw
def AQ(j92:Bjh)(da h:LB)(m:Bi3)(b ao:LB):Ac:=j92 h m da true ao b
def Bas:=AQ Dw
def Pd(j92:Bjh)(db h:LB)(m:Bi3)(f b:LB):Ac:=j92 h m db true f b
def AM:=Pd Dw
abbrev Bjz:=LB->LB-> (List LB)->LB->LB->Ac
def Aea(j157:Bjz)(h:LB)(m ad:Bi3)(f b:LB):Ac:=(Qw ad ([32]:LB)).bind λdb=>j157 db h m f b
def Bd4:=Aea AM
def Ae8(j156:LB-> (List LB)-> (List LB)->LB->LB->Ac)(Az3:Int-> (List LB)->Ac)(n:Bjc)(h:LB)(m:Bi3)(f b:LB)(ae:Int)(ad:Bi3):Ac:=if(Cx ae (Ad n))then(Af n ae).bind λ_=>(Af n ae).bind λgu=>(strconv_Itoa gu.1).bind λdr=>(Bf dr ([58]:LB)).bind λds=>(strconv_Itoa (Ad gu.2.1)).bind λag=>(Bf ds ag).bind λkl=>(Bf ad ([kl]:Bi3)).bind λkm=>Az3 (Ae ae 1) km
else
j156 h m ad f b
def Qb(n:Bjc)(h:LB)(m:Bi3)(f b:LB):Nat->Int-> (List LB)->Ac
|0,_,_=>none
|q+1,ae,ad=>Ae8 Bd4 (Qb n h m f b q) n h m f b ae ad
def Bcq n h m f b:=Qb n h m f b Ay
def Adw(j157:Bjz)(j154:(List (Int×LB×Unit))->LB-> (List LB)->LB->LB->Int-> (List LB)->Ac)(ap:Int)(h:LB)(m:Bi3)(n:Bjc)(f b:LB):Ac:=if(Bg ap 0)then(Ao ap).bind λdb=>j157 db h m f b
else
j154 n h m f b 0 ([]:Bi3)
def Bar:=Adw AM Bcq
abbrev Bkk:=LB-> (List LB)->LB->LB->LB->Ac
def Ku(j92:Bjh)(j82:Bkk)(j83:Bjz)(j151:Bkk)(j152:Bjz)(j153:Int->LB-> (List LB)-> (List (Int×LB×Unit))->LB->LB->Ac)(j91:Bj3)(h:LB)(m:Bi3)(f b:LB):Ac:=if((h==([112,97,115,115,119,111,114,100]:LB))&&(geq (Ad m) 1))then(Af m 0).bind λft=>if(Eg (Ad ft) 64)then(Ao 2).bind λba=>j92 h m ba true f b
else(Af m 0).bind λfu=>j92 h m ([111,107]:LB) true f fu
else
if(((h==([102,105,108,101]:LB))||(h==([97,100,100]:LB)))&&(geq (Ad m) 1))then(Af m 0).bind λfv=>(UJ fv).bind λ(ao,fw)=>if(!fw)then
j92 h m ([119,104,97,116]:LB) true f b
else
if(h==([97,100,100]:LB))then(Dj ([f,ao]:Bi3)).bind λar=>if(Bg (0:Int) (0:Int))then(Ao 0).bind λfx=>j82 h m f b fx
else
if(Eg (Ad ar) 100000)then(Ao 4).bind λfy=>j82 h m f b fy
else(strconv_Itoa (Ad ar)).bind λbz=>j83 bz h m b ar
else
if(Bg (0:Int) (0:Int))then(Ao 0).bind λfz=>j151 h m f b fz
else
if(Eg (Ad ao) 100000)then(Ao 4).bind λga=>j151 h m f b ga
else(strconv_Itoa (Ad ao)).bind λda=>j152 da h m b ao
else
if((h==([115,99,114,105,112,116]:LB))||(h==([112,101,97,107]:LB)))then(TN m).bind λ(dc,gb)=>if(!gb)then
j92 h m ([119,104,97,116]:LB) true f b
else
if(h==([112,101,97,107]:LB))then(iI b f dc).bind λ(ak,au,av)=>(Fc ([ak,au]:LI) av).bind λgc=>j92 h m gc true f b
else(
(
(
(TS b f dc).bind λ(gd,kn,dd,de,df,ko,dg,kp,kq,kr,ks,dh,n,ap)=>j153 ap h m n f b)))
else
j91 h m f b
def Rh:=Ku Dw Bd8 Bdm Bc1 Bas Bar BO
def Bdh:Ac:=some (([119,104,97,116]:LB),c,e)
def BY:=Bdh
def Bdg:Ac:=some (([111,107]:LB),c,([]:LB))
def BK:=Bdg
def Bdi:Ac:=some (c,e,i)
def Bdk:=Bdi
def Bdq:Ac:=some (c,([]:LB),e)
def Bda:=Bdq
def Bdj(j68:Bi6)(f b ge:LB):Ac:=j68 ge f b
def BB:=Bdj Bdk
def Bdf(j69:Bk9)(bb b:LB):Ac:=j69 bb b
def CH:=Bdf Bda
def Bch:Ac:=some (c,e,i)
def AA:=Bch
def Bbl:Ac:=some (i,c,e)
def Bab:=Bbl
def Bc5(j160:Bi6)(ak bc bd be bf bg bh bi:Int)(bj:UInt8)(bk bl:Int)(f b:LB)(bm:LI):Ac:=if(Bg ak 0)then(Ao ak).bind λku=>j160 f b ku
else(G0 bc bd be bf bg bh bm bi bj bk bl).bind λ(kv,aw)=>if(Bg aw 0)then(Ao aw).bind λgd=>j160 f b gd
else(Iz kv ([10]:LB)).bind λkw=>(NB kw ([10]:LB) ([32,47,32]:LB)).bind λdj=>j160 f b dj
def AD:=Bc5 Bab
def Bc4:Ac:=some (c,e,i)
def Bcy:=Bc4
def Bac(j162:Bi6)(dk au:Int)(av:UInt8)(aw dl:Int)(f b:LB):Ac:=(Fc ([au,(Ah av:Int),aw,dl]:LI) dk).bind λdj=>j162 dj f b
def AJ:=Bac Bcy
def Bc3:Ac:=some (c,e,i)
def AS:=Bc3
def Bd6:Ac:=some (c,e,i)
def Ae5:=Bd6
def Bd0:Ac:=some (c,e,i)
def Ae7:=Bd0
def Ba8:Ac:=some (c,e,i)
def AK:=Ba8
def Bai:Ac:=some (c,e,i)
def AF:=Bai
def La(j65:LB->Ac)(j66:Bi6)(j67:Bk9)(j158:Bi6)(j159:Jz8 (UInt8->Int->Int->LB->LB->LI->Ac))(j161:Bkd)(j163:Bi6)(j164:Bi6)(j165:Bi6)(j166:Bi6)(j167:Bi6)(j80:Bk9)(j81:Bj3)(h:LB)(m:Bi3)(f b:LB):Ac:=if(geq (Ad m) 0)then
if(h==[112,97,115,115,119,111,114,100])then
j65 f
else
if(h==[102,105,108,101])then
if(Bg (0:Int) (0:Int))then(Ao 0).bind λgf=>j66 f b gf
else
if(Eg (0:Int) (100000:Int))then(Ao 4).bind λba=>j66 f b ba
else(strconv_Itoa 0).bind λbb=>j67 bb b
else
if(h==[104,101,120])then(Gl f 0).bind λdi=>j158 di f b
else
if(h==[114,101,112,111,114,116])then(
(
(
(J3 f b).bind λ(bc,bd,be,bf,bg,bh,bm,bi,bj,bk,bl,ak)=>j159 ak bc bd be bf bg bh bi bj bk bl f b bm)))
else
if(h==[116,111,108,100])then(
(
(
(Uo f b).bind λ(au,av,aw,dl,dk)=>j161 dk au av aw dl f b)))
else
if(h==[115,97,109,112,108,101,115])then(Py f b).bind λ(dd,de,df,gg,dg)=>(Fx dd de df gg dg).bind λdm=>j163 dm f b
else
if(h==[98,97,100])then(pN f b).bind λ(gh,gi)=>(Fc gh gi).bind λaq=>j164 aq f b
else
if(h==[115,107,105,112])then(
(
(
(Xg f b 1).bind λ(dh,gj,ap,al,kx,ab)=>(Fx dh gj ap al ab).bind λag=>j165 ag f b)))
else
if(h==[115,105,108,101,110,116])then(
(
(
(Xg f b 2).bind λ(aa,gk,gl,gm,ky,gn)=>(Fx aa gk gl gm gn).bind λdn=>j166 dn f b)))
else
if(h==[119,97,118])then(UF f b).bind λ(go,gp)=>(Gl go gp).bind λdp=>j167 dp f b
else
j80 f b
else
j81 h m f b
def Re:=La BK BB CH AA AD AJ AS Ae5 Ae7 AK AF BY Rh
def Tn(j64:Bj3)(f b:LB)(o:Bi3):Ac:=(Af o 0).bind λh=>(Cb o 1 (Ad o)).bind λm=>j64 h m f b
def Az:=Tn Re
def Fu(f b:LB):List LB->List LB->Option (LB×LB×LB)
|[],o=>Az f b o
|x::xs,o=>if(x==[])=true then some ([119,104,97,116],f,b)else Option.bind (Bf o [x]) λgq=>Fu f b xs gq
def Bq:Option (LB×LB×LB):=Option.bind (wG 32 i) λz=>Fu c e z []
def Nt:List LB->LB->LB->LB->Option (LB×Int)
|[],b,f,a=>(Gi (decide (Ad a<=17179869184))).bind λ_=>some (a,0)
|g::xs,b,f,a=>(Iz g ([10]:LB)).bind λk=>(Bq b f k).bind λ(m,n,o)=>(Bf m ([10]:LB)).bind λp=>(Bf a p).bind λu=>Nt xs n o u
def AR:Bju:=(Sy c).bind λz=>if(Bg z 0)then
some (([]:LB),z)
else(D_ c).bind λd=>Nt d ([]:LB) ([]:LB) ([]:LB)
def QZ:Bi4:=(AR c).bind λ(z,d)=>some ((geq d 0)&&(z==e))
def Rj:Bi4:=(Amf ([99,108,105,112,32,49,32,56,32,49,32,49,32,50,10,115,97,109,112,108,101,115,10,114,101,112,111,114,116,10,102,108,105,112,32,52,53,32,49,10,116,111,108,100,10,115,105,108,101,110,116,10,115,99,114,105,112,116,32,102,52,48,32,100,57,32,102,57,32,101,10,119,104,97,116,10]:LB)).bind λ(a,b)=>if((geq b 0)&&(geq a 8))then(QZ ([99,108,105,112,32,49,32,56,32,49,32,49,32,50,10,115,97,109,112,108,101,115,10,114,101,112,111,114,116,10,102,108,105,112,32,52,53,32,49,10,116,111,108,100,10,115,105,108,101,110,116,10,115,99,114,105,112,116,32,102,52,48,32,100,57,32,102,57,32,101,10,119,104,97,116,10]:LB) ([52,54,10,49,32,50,10,102,111,114,109,97,116,32,49,32,99,104,97,110,110,101,108,115,32,49,32,98,105,116,115,32,56,32,114,97,116,101,32,49,32,99,111,117,110,116,32,50,32,47,32,102,114,97,109,101,115,32,51,52,58,32,54,32,54,32,47,32,102,111,117,110,100,32,48,32,48,32,48,32,50,10,52,54,10,50,50,32,53,32,49,32,49,10,49,32,48,10,48,58,48,32,48,58,49,32,50,50,58,48,32,50,50,58,48,10,119,104,97,116,10]:LB)).bind λf=>some f
else
some false
def Cf:Option LB:=if decide (0<=z/\z<=9223372036854775807)=true then some (jY 20 z.toNat [])else none
abbrev Fq:=Option ((List LB))
def EE:Fq:=some N
def Tm:=EE
def Ir(j6:(List LB)->Fq)(HJ:Int->Int-> (List LB)->Fq)(a:LB)(g b:Int)(f:Bi3):Fq:=if(Cx b (Ad a))then(Af a b).bind λh=>if(geq h 10)then(Cb a g b).bind λk=>(Bf f ([k]:Bi3)).bind λm=>HJ (Ae b 1) (Ae b 1) m
else
HJ g (Ae b 1) f
else
j6 f
def Cz:Nat->Int->Int-> (List LB)->Fq
|0,_,_,_=>none
|z+1,d,e,i=>Ir Tm (Cz z) c d e i
def Bdr a:=Cz a Ay
def EF(j4:LB->Int->Int-> (List LB)->Fq)(a:LB):Fq:=j4 a 0 0 ([]:Bi3)
def Rt:=EF Bdr
def Mb:Option ((List LB)×Bool):=(AR c).bind λ(z,d)=>if(Bg d 0)then
some (([]:Bi3),false)
else
if(Eg (Ad z) 0)then(Af z (Ap (Ad z) 1)).bind λe=>if(Bg e 10)then
some (([]:Bi3),false)
else(Rt z).bind λi=>some (i,true)
else(Rt z).bind λj=>some (j,true)
def Gy(a b f:Int)(g:LX):Bjg:=some (a,b)
def Ka:Bi2:=if(geq z 8)then
some 128
else
if(geq z 16)then
some 32768
else
if(geq z 24)then
some 8388608
else
some 0
def Eo:Bi2:=if((Cx z 1)||(Eg z 6))then
some 2
else(Ka d).bind λc=>if(geq c 0)then
some 2
else
some 0
def Bdw:Bi2:=some 0
def EA:=Bdw
def Dt(j6:Bi2)(HJ:Bkb)(a:LX)(b f:Int):Bi2:=if(Cx f (Ad a))then(Af a f).bind λg=>if(Cx (Ah g:Int) (nC b))then
some 16
else(Af a f).bind λh=>if(Ha (Ah h:Int) b)then
some 16
else
HJ (Ae f 1)
else
j6
def Bl:Nat->Int->Option Int
|0,_=>none
|z+1,c=>Dt EA (Bl z) l A c
def Bds a b:=Bl a b Ay
def Ee(j4:LX->Int->Int->Option Int)(k:Int)(a:LX):Bi2:=(Ka k).bind λb=>if(geq b 0)then
some 2
else
if(Eg (Ad a) 4000)then
some 4
else
j4 a b 0
def Bo:=Ee Bds
def Cn:Bi2:=(Eo z d).bind λc=>if(Bg c 0)then
some 2
else(Bo d l).bind λe=>if(Bg e 0)then(Bo d l).bind λi=>some i
else
if(Cx (Ad l) 1)then
some 2
else(Gi (Bg z 0)).bind λ_=>if(Eg (Me (Ad l) z) 0)then
some 2
else
some 0
def Rs:Bi2:=(Eo z d).bind λc=>if((Bg c 0)||(Cx j 1))then
some 2
else(Gi (Bg z 0)).bind λ_=>if(Eg j (Ej 4000 z))then
some 2
else
some 0
def Nk:Bjg:=if((Cx z 1)||(Eg z 1048576))then
some (0,2)
else
if(geq (Ej (Cm z 256) 245) 0)then
some (1,0)
else
some ((Ej (Cm z 256) 245),0)
abbrev Hc:=Option (LI×Int)
def JV:Hc:=if(Eg (Ad B) 1000)then
some (([]:LI),4)
else
some (B,0)
def Wh:=JV
def Oo(j6:LI->Hc)(HJ:Int->LI->Hc)(b f:Int)(a:LI):Hc:=if(Eg f 0)then(Bf a ([(Fy f b)]:LI)).bind λh=>HJ (Ap f (Fy f b)) h
else
j6 a
def Ie:Nat->Int->LI->Hc
|0,_,_=>none
|c+1,d,e=>Oo Wh (Ie c) z d e
def KA b:=Ie b Ay
def Ot(j4:Int->Int->LI->Hc)(k g:Int):Hc:=(Nk k).bind λ(b,m)=>if(((Bg m 0)||(Cx g 1))||(Eg g 4000))then
some (([]:LI),2)
else
j4 b g ([]:LI)
def Vu:=Ot KA
def Iy:Bjg:=(Vu z d).bind λ(c,e)=>some ((Ad c),e)
def CO:Bi4:=(Gy z d j l).bind λ(c,e)=>(Rs c e A).bind λi=>if(Bg i 0)then
some false
else(Iy j A).bind λ(B,C)=>some (geq C 0)
def Ct:Bi2:=(Gy z d j l).bind λ(c,e)=>(Cn c e l).bind λi=>if(Bg i 0)then
some 8
else(Gi (Bg z 0)).bind λ_=>(CO z d j l (Ej (Ad l) z)).bind λA=>if(!A)then
some 8
else
some 0
def Aah(g:Bool)(m:LB)(h a k:Int)(b:LX)(f:Bi3):Bi4:=if g then(Af f 2).bind λ_=>(Af f 2).bind λv=>(Bf ([32]:LB) v).bind λad=>if(m==ad)then(Af f 3).bind λ_=>(Af f 3).bind λw=>if(geq (Ad w) (Ej (Cm (Cm 2 (Ad b)) a) 8))then(Af f 4).bind λ_=>(Af f 4).bind λy=>(Cf (Ej (Cm (Ad b) a) 8)).bind λae=>(Bf ([48,32,48,32,48,32]:LB) ae).bind λaf=>some (y==af)
else
some false
else
if false then(Af f 4).bind λ_=>(Af f 4).bind λaa=>(Cf (Ej (Cm (Ad b) a) 8)).bind λag=>(Bf ([48,32,48,32,48,32]:LB) ag).bind λah=>some (aa==ah)
else
some false
else
if false then(Af f 3).bind λ_=>(Af f 3).bind λai=>if(geq (Ad ai) (Ej (Cm (Cm 2 (Ad b)) a) 8))then(Af f 4).bind λ_=>(Af f 4).bind λaj=>(Cf (Ej (Cm (Ad b) a) 8)).bind λak=>(Bf ([48,32,48,32,48,32]:LB) ak).bind λal=>some (aj==al)
else
some false
else
if false then(Af f 4).bind λ_=>(Af f 4).bind λam=>(Cf (Ej (Cm (Ad b) a) 8)).bind λan=>(Bf ([48,32,48,32,48,32]:LB) an).bind λao=>some (am==ao)
else
some false
def Aag:=Aah
abbrev Bj4:=Bool->LB->Jz3 (LX-> (List LB)->Option Bool)
def Ko(j14:Bj4)(g:Bool)(m:LB)(h a k:Int)(b:LX)(f:Bi3):Bi4:=(Ct h a k b).bind λap=>if(Bg ap 0)then
if g then(Af f 1).bind λ_=>(Af f 1).bind λv=>if(v==([101,114,114,111,114,32,56]:LB))then(Af f 2).bind λ_=>(Af f 2).bind λaq=>if(aq==([101,114,114,111,114,32,50,52]:LB))then(Af f 3).bind λ_=>(Af f 3).bind λw=>some (w==([101,114,114,111,114,32,50,52]:LB))
else
some false
else
if false then(Af f 3).bind λ_=>(Af f 3).bind λy=>some (y==([101,114,114,111,114,32,50,52]:LB))
else
some false
else
if false then(Af f 2).bind λ_=>(Af f 2).bind λar=>if(ar==([101,114,114,111,114,32,50,52]:LB))then(Af f 3).bind λ_=>(Af f 3).bind λau=>some (au==([101,114,114,111,114,32,50,52]:LB))
else
some false
else
if false then(Af f 3).bind λ_=>(Af f 3).bind λaa=>some (aa==([101,114,114,111,114,32,50,52]:LB))
else
some false
else
j14 g m h a k b f
def Ep:=Ko Aag
def Kn(j13:Bj4)(g:Bool)(n m:LB)(h a k:Int)(b:LX)(av:LB):Bi4:=(Bf av n).bind λaw=>(Bf aw m).bind λab=>(Bf ab ([10,115,97,109,112,108,101,115,10,102,114,111,109,32,48,10,116,111,108,100,10]:LB)).bind λac=>(Mb ac).bind λ(f,ax)=>if((!ax)||(Bg (Ad f) 5))then
some false
else(Af f 0).bind λ_=>(Af f 0).bind λay=>if(ay !=([111,107]:LB))then
some false
else
j13 g m h a k b f
def Axz:=Kn Ep
def Axt(j12:Bool->LB->LB->Jz3 (LX->LB->Option Bool))(o g:Bool)(n m:LB)(h a k:Int)(b:LX):Bi4:=if o then
j12 g n m h a k b ([112,97,115,115,119,111,114,100,32,107,101,121,10]:LB)
else
j12 g n m h a k b ([112,97,115,115,119,111,114,100,10]:LB)
def Cv:=Axt Axz
def Kz(j11:Bool->Bool->LB->LB->Jz3 (LX->Option Bool))(bk9:Bk6)(o g:Bool)(n:LB)(h a k:Int)(b:LX)(m:LB)(p:Int):Bi4:=if(Cx p (Ad b))then(Af b p).bind λu=>if((Cx (Ah u:Int) (-999999999:Int))||(Eg (Ah u:Int) 999999999))then
some g
else
if(Cx (Ah u:Int) 0)then(Cf (nC (Ah u:Int))).bind λab=>(Bf ([32,45]:LB) ab).bind λac=>(Bf m ac).bind λaz=>bk9 az (Ae p 1)
else(Cf (Ah u:Int)).bind λba=>(Bf ([32]:LB) ba).bind λbb=>(Bf m bb).bind λbc=>bk9 bc (Ae p 1)
else
j11 o g n m h a k b
def Dn:Nat->LB->Int->Option Bool
|0,_,_=>none
|z+1,c,d=>Kz Cv (Dn z) F Bhl Y Bh7 Bia Bhy Biv c d
def Aar o g n h a k b:=Dn o g n h a k b Ay
def Le(j9:Bool->Bool->LB->Jz3 (LX->LB->Int->Option Bool))(o g:Bool)(n:LB)(h a k:Int)(b:LX):Bi4:=j9 o g n h a k b ([]:LB) 0
def Aao:=Le Aar
def Kw(j8:Bool->Bool->LB->Jz3 (LX->Option Bool))(h a k:Int)(b:LX)(o:Bool):Bi4:=(Rj).bind λg=>if((((((((Eg (Ad b) 60)||(Cx h 0))||(Eg h 99))||(Cx a 0))||(Eg a 99))||(Cx k 0))||(Eg k 2000000))||(!g))then
some g
else(Cf h).bind λbd=>(Bf ([99,108,105,112,32]:LB) bd).bind λbe=>(Bf be ([32]:LB)).bind λbf=>(Cf a).bind λbg=>(Bf bf bg).bind λbh=>(Bf bh ([32]:LB)).bind λbi=>(Cf k).bind λbj=>(Bf bi bj).bind λn=>j8 o g n h a k b
def Jl:=Kw Aao
end Go.Pl
