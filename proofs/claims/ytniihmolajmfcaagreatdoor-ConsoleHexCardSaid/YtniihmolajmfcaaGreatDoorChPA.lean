/- A part of a proof (see the text that ends in Proof). No conditions. -/
import Derived.Test.YtniihmolajmfcaaGreatDoorChBA
import Derived.Lib.AtoiAllCases
set_option linter.unusedVariables false
namespace Go.Pl
open Go Go.Lv
abbrev Jz3(R:Type):=Int->Int->Int->R
abbrev Jz4(R:Type):=Int->Int->Int->Int->R
abbrev Jz5(R:Type):=Int->Int->Int->Int->Int->R
abbrev Jz6(R:Type):=Int->Int->Int->Int->Int->Int->R
abbrev Jz7(R:Type):=Int->Int->Int->Int->Int->Int->Int->R
abbrev Jz8(R:Type):=Int->Int->Int->Int->Int->Int->Int->Int->R
abbrev Jz9(R:Type):=Int->Int->Int->Int->Int->Int->Int->Int->Int->R
abbrev Jz10(R:Type):=Int->Int->Int->Int->Int->Int->Int->Int->Int->Int->R
abbrev Jz11(R:Type):=Int->Int->Int->Int->Int->Int->Int->Int->Int->Int->Int->R
abbrev LB:=List UInt8
abbrev LI:=List Int
abbrev LX:=List Int32
abbrev LU:=List UInt32
abbrev LQ:=List UInt64
abbrev Bbw:=List LB
abbrev Bd4:=Int->LB->Option (LB)
abbrev Bc2:=Bool->Option Int
abbrev Bbv:=Option Int
abbrev Bcc:=List (LB×LB×Unit)
abbrev Bdl:=List LI
abbrev Bb2:=List (UInt8×Int×Unit)
variable(z e:LB)(A:LI)(c d j D F O Bac Baq Bas Bat Bbc:Int)(J:LI)(C:LX)(Bau:LI)(i o9:LB)(B X l6 Bag Bah:Int)(Ba0:LI)(Bai:Int)(R:LB)(E:Bool)(I o7:Int)(Ba2:LI)(l5:LB)(Bbf:LI)(U:LX)(l:Bbw)(N:LB)(Bav:Bool)(p8 Bao:Int)(L:UInt8)(M V Bbg Bbh Bbi Bbj:Int)(Bbk:Bbw)(Bbl Bbm Bbn:Int)(p9:LB)(Baw:Bool)(Bbo:Int)(Ba3:LB)(Bap:LX)(Ba4:LB)(Bbp:Bool)(Bbq:Int)(Bbr:LB)(Bbd:Bbw)(Baj:LB->Option (LB))(Bak:Bd4)(Ba5 Ba6:Int)(G:UInt64)(w9:Int)(o8:LB)(Y:UInt32)(l7:UInt64)(Ba1:LB)(y5 Bbs Bbt:Int)(Bbe Bbu:UInt64)(P:Int32)(Bal:Int)(y8 y7:LX)(Bae:Int32)(Bax:Bbw)(y9:Int)(Baf:LB)(l8:LU)(Bam Ban:Int)(Ba7:LX)(Ba8:LQ)(Z:Bc2)(q8:Bool)(Bay:Int)(Ba9:Bbv)(Bba:Bool)(q9:Bcc)(Bbb:Bdl)(l9:Bb2)
def strings_Count:Bbv:=match e with
|[c]=>some (Int.ofNat (z.count c))
|_=>none
abbrev Bbx:=Option Bool
def Cy:Bbx:=if(Fu (Aa z) (Aa e))then(Bi z (Ag (Aa z) (Aa e)) (Aa z)).bind λc=>some (c==e)
else
some false
def Ra:Bbx:=(Cy z e).bind λc=>some c
def UJ:Bbv:=if(z !=([]:LB))then(Ra z ([10]:LB)).bind λc=>if(!c)then
some 12
else
some 0
else
some 0
def QX:=UJ
def VV(j2:LB->Option Int)(a:LB):Bbv:=if(Dr (Aa a) 3000)then
some 4
else(strings_Count a ([10]:LB)).bind λf=>if(Dr f 40)then
some 4
else
j2 a
def Qa:=VV QX
abbrev Bcd:=Option (Int×Int)
def lU:Bcd:=(Qa z).bind λc=>if(Bb c 0)then
some (0,c)
else(strings_Count z ([10]:LB)).bind λd=>some (d,0)
def Fe:LB->UInt8->Int
|[],_=> -1
|b::l,c=>if(b==c)=true then 0 else if(Fe l c== -1)=true then -1 else Fe l c+1
def strings_Index:Bbv:=match e with
|[c]=>some (Fe z c)
|_=>none
def stringslite_IndexByte:Bbv:=some (Fe z L)
def Df:Bbv:=(stringslite_IndexByte z L).bind λc=>some c
def Ud:Nat->LB->List LB
|0,_=>[]
|_+1,[]=>[]
|q+1,c::s=>if Bw (Fe (c::s) 10) 0=true then [c::s]else(c::s).take ((Fe (c::s) 10).toNat+1)::Ud q ((c::s).drop ((Fe (c::s) 10).toNat+1))
def Lu:Nat->LB->List LB
|0,_=>[]
|z+1,c=>if Bw (Fe c L) 0=true then [c]else c.take (Fe c L).toNat::Lu z (c.drop ((Fe c L).toNat+1))
def Uj:LB->List LB
|[]=>[]
|[a]=>[[a]]
|a::b::r=>[a,b]::Uj r
abbrev Bdt:=Option (List LB)
def q!:Bdt:=Option.bind (Es (decide (Aa z<=17179869184))) λ_=>some (Ud (z.length+1) z)
def vX:Bdt:=Option.bind (Es (decide (Aa p9<=17179869184))) λ_=>some (Lu L (p9.length+1) p9)
def Y2:Bdt:=Option.bind (Es (decide (Aa z<=17179869184))) λ_=>some (Uj z)
def gN:Nat->Nat->LB->LB
|0,_,a=>a
|q+1,n,a=>if n<10 then UInt8.ofNat (48+n)::a else gN q (n/10) (UInt8.ofNat (48+n %10)::a)
def strconv_Itoa:Option LB:=if decide (-9223372036854775808<=c/\c<=9223372036854775807)=true then some (if c<0 then 45::gN 20 c.natAbs []else gN 20 c.toNat [])else none
abbrev Bb1:=Option (LB)
def Ak:Bb1:=(strconv_Itoa c).bind λz=>(Ay ([101,114,114,111,114,32]:LB) z).bind λd=>some d
def fF:Bb1:=(Es (decide (Aa z<=17179869184))).bind λ_=>some z
def KS:=fF
def KZ:Bb1:=if(Bw y5 (Aa o8))then(Ae o8 y5).bind λz=>(Ae ([48,49,50,51,52,53,54,55,56,57,97,98,99,100,101,102]:LB) (GI.toZ (Da z (GI.toZ (4:UInt64)).toNat))).bind λc=>(Ay Baf ([c]:LB)).bind λd=>(Ae ([48,49,50,51,52,53,54,55,56,57,97,98,99,100,101,102]:LB) (GI.toZ (Dq z 15))).bind λe=>(Ay d ([e]:LB)).bind λi=>Bak (Af y5 1) i
else
Baj Baf
def Sk:Nat->Int->LB->Option (LB)
|0,_,_=>none
|c+1,d,e=>KZ KS (Sk c) z d e
def Afx a:=Sk a As
abbrev Bdb:=LB->Int->LB->Option (LB)
def Za(j4:Bdb)(a:LB)(h:Int):Bb1:=if(Bb h 0)then(Ak h).bind λp=>some p
else
j4 a 0 ([]:LB)
def Ei:=Za Afx
def Mg:Bbx:=some (z==e)
def Ma:Bbx:=if(Fu (Aa z) (Aa e))then(Bi z 0 (Aa e)).bind λc=>(Mg c e).bind λd=>some d
else
some false
abbrev Jk:=Option (Int×Int)
def Ay3:Jk:=some (c,0)
def VA:=Ay3
def SD(j6:Int->Jk)(CD:Int->Int->Jk)(a:LB)(b f:Int):Jk:=if(Bw f (Aa a))then(Ae a f).bind λg=>if(Dr g 127)then
some (0,12)
else
CD (B? (Fc b (GI.toZ (7:UInt64)).toNat) (Am g:Int)) (Af f 1)
else
j6 b
def Sy:Nat->Int->Int->Jk
|0,_,_=>none
|c+1,d,e=>SD VA (Sy c) z d e
def Axd a:=Sy a As
def UO(j4:LB->Int->Int->Jk)(a:LB):Jk:=if(Bb (Aa a) 4)then
some (0,2)
else
j4 a 0 0
def PX:=UO Axd
abbrev Hf:=Option (Int×Int)
def Abj:Hf:=if(Dr M 4000)then
some (0,4)
else
if(Bw (Aa z) M)then
some (0,24)
else
if(geq L 16)then(Bi z (Ag M 10) M).bind λc=>(Bi c 0 3).bind λd=>if(d !=([51,68,73]:LB))then
some (0,12)
else(Bi c 3 (Aa c)).bind λe=>(Bi z 3 10).bind λi=>(Mg e i).bind λj=>if(!j)then
some (0,12)
else
some (M,0)
else
some (M,0)
def Ab8:=Abj
def Ac2(j8:LB->UInt8->Int->Hf)(a:LB)(g:Int)(b:UInt8):Hf:=if(geq b 16)then
j8 a b (Af (Af g 10) 10)
else
j8 a b (Af g 10)
def Acx:=Ac2 Ab8
def Aab(j7:LB->Int->UInt8->Hf)(a:LB)(g:Int)(b:UInt8)(m:Bool):Hf:=if m then
some (0,12)
else
j7 a g b
def FG:=Aab Acx
def bQ(j6:LB->Int->UInt8->Bool->Hf)(a:LB)(f b:UInt8):Hf:=(Bi a 6 10).bind λaa=>(PX aa).bind λ(g,ab)=>if(Bb ab 0)then
if true then
j6 a g b true
else
if(geq b 0)then
j6 a g b (!((Fu f 2)&&(TH f 4)))
else
if(geq b 16)then
j6 a g b (!(geq f 4))
else
j6 a g b (!false)
else(Ae a 4).bind λac=>if(Bb ac 0)then
j6 a g b true
else
if(geq b 0)then
j6 a g b (!((Fu f 2)&&(TH f 4)))
else
if(geq b 16)then
j6 a g b (!(geq f 4))
else
j6 a g b (!false)
def aL:=bQ FG
def FL(j5:LB->UInt8->UInt8->Hf)(a:LB):Hf:=(Ma a ([(73:UInt8),(68:UInt8),(51:UInt8)]:LB)).bind λn=>if(!n)then
some (0,6)
else
if(Bw (Aa a) 10)then
some (0,24)
else(Ae a 3).bind λf=>(Ae a 5).bind λb=>(
(
(
j5 a f b)))
def WQ:=FL aL
abbrev Xa:=Option (UInt64×Int)
def yF:Xa:=some (G,0)
def zO:=yF
def zU(j6:UInt64->Xa)(CD:UInt64->Int->Xa)(a:LB)(f:UInt64)(b:Int):Xa:=if(Bw b (Aa a))then(Ae a b).bind λg=>(Es (Fu (Ch 8 b) 0)).bind λ_=>CD (B? f (Fc (Am g:UInt64) (GI.toZ (Ch 8 b)).toNat)) (Af b 1)
else
j6 f
def MU:Nat->UInt64->Int->Xa
|0,_,_=>none
|c+1,d,e=>zU zO (MU c) z d e
def yI a:=MU a As
def B8(j4:LB->UInt64->Int->Xa)(a:LB):Xa:=if((Bw (Aa a) 1)||(Dr (Aa a) 8))then
some (0,2)
else
j4 a 0 0
def qY:=B8 yI
abbrev Bc6:=Option (UInt64×Int)
def A9:Bc6:=if(((Bw d 1)||(Dr d 8))||(Bw c 0))then
some (0,2)
else
if(Dr c (Ag (Aa z) d))then
some (0,24)
else(Bi z c (Af c d)).bind λe=>(qY e).bind λ(i,j)=>some (i,j)
def W? (b:UInt64)(a:Int):Bbx:=if(geq a 8)then
some true
else(Es (Fu (Ch 8 a) 0)).bind λ_=>some (geq (Da b (GI.toZ (Ch 8 a)).toNat) 0)
abbrev Wy:=Option (LB×Int)
def yT:Wy:=some (z,0)
def zH:=yT
def zQ(j6:LB->Wy)(CD:Int->LB->Wy)(f:UInt64)(g:LB)(a:Int)(b:LB):Wy:=if(Bw a (Aa g))then(Es (Fu (Ch 8 a) 0)).bind λ_=>(Ae b a).bind λ_=>(Mh b a (Am (Da f (GI.toZ (Ch 8 a)).toNat):UInt8)).bind λk=>CD (Af a 1) k
else
j6 b
def OA:Nat->Int->LB->Wy
|0,_,_=>none
|z+1,c,d=>zQ zH (OA z) G o8 c d
def yV f g:=OA f g As
def zV(j4:UInt64->LB->Int->LB->Wy)(f:UInt64)(h:Int):Wy:=if((Bw h 1)||(Dr h 8))then
some (([]:LB),2)
else(W? f h).bind λm=>if(!m)then
some (([]:LB),16)
else(mkI h (0:UInt8)).bind λg=>(Es (geq h h)).bind λ_=>j4 f g 0 g
def Mc:=zV yV
def Aeg:Bb1:=some z
def X6:=Aeg
def Y8:Bb1:=if(Bw w9 (Aa ([(2000:UInt64),(Am (Af Ba5 32):UInt64),(Am Ba6:UInt64),G,(0:UInt64),(0:UInt64)]:LQ)))then(Ae ([(2000:UInt64),(Am (Af Ba5 32):UInt64),(Am Ba6:UInt64),G,(0:UInt64),(0:UInt64)]:LQ) w9).bind λ_=>(Ae ([(2000:UInt64),(Am (Af Ba5 32):UInt64),(Am Ba6:UInt64),G,(0:UInt64),(0:UInt64)]:LQ) w9).bind λz=>(Mc z 4).bind λ(c,d)=>(Ay o8 c).bind λe=>Bak (Af w9 1) e
else
Baj o8
def YT:Nat->Int->LB->Option (LB)
|0,_,_=>none
|z+1,e,i=>Y8 X6 (YT z) c d G e i
def R8 a b f:=YT a b f As
def oK(j4:Int->Int->UInt64->Int->LB->Option (LB))(a b:Int)(f:UInt64):Bb1:=j4 a b f 0 ([(65:UInt8),(80:UInt8),(69:UInt8),(84:UInt8),(65:UInt8),(71:UInt8),(69:UInt8),(88:UInt8)]:LB)
def jF:=oK R8
def SJ:Option (Int×Int×Bool):=(A9 z 12 4).bind λ(c,d)=>(A9 z 16 4).bind λ(e,i)=>if(((Bw c 32)||(Dr c 3032))||(Dr e 1000))then
some (0,0,false)
else(jF (Ag (Am c:Int) 32) (Am e:Int) G).bind λj=>(Mg z j).bind λl=>some ((Ag (Am c:Int) 32),(Am e:Int),l)
def xD:Bcd:=(Ma z ([(65:UInt8),(80:UInt8),(69:UInt8),(84:UInt8),(65:UInt8),(71:UInt8),(69:UInt8),(88:UInt8)]:LB)).bind λc=>if(!c)then
some (0,6)
else
if(Bw (Aa z) 32)then
some (0,24)
else(Bi z 0 32).bind λd=>(SJ d 2684354560).bind λ(e,i,j)=>if(!j)then
some (0,12)
else
if(Bw (Aa z) (Af e 64))then
some (0,24)
else(Bi z (Ag (Af e 64) 32) (Af e 64)).bind λl=>(jF e i 2147483648).bind λA=>(Mg l A).bind λB=>if(!B)then
some (0,12)
else
some ((Af e 64),0)
def Wp:Bcd:=(WQ z).bind λ(c,d)=>if(Bb d 6)then
some (c,d)
else(xD z).bind λ(e,i)=>some (e,i)
def Ve(b:List UInt8):Nat->Int->Option (Int×Int)
  |0,_=>none
  |q+1,x=>Option.bind (Bi b x (Aa b)) λs=>Option.bind (Wp s) λr=>
    if geq r.2 (6:Int)=true then some (x,0)
    else if(geq r.2 (0:Int)&&Dr (Af x r.1) (4000:Int))=true then some (0,4)
    else if Bb r.2 (0:Int)=true then some (0,r.2)
    else Ve b q (Af x r.1)
def Gj(b:List UInt8):Bcd:=Ve b As 0
def Hx:Bbx:=if(Fu (Aa z) (Aa e))then(Bi z 0 (Aa e)).bind λc=>some (c==e)
else
some false
def Qv:Bbx:=(Hx z e).bind λc=>some c
abbrev Bp:=Option (UInt32×Int)
def Afh:Bp:=some (Y,0)
def dP:=Afh
def gT(j30:UInt32->Bp)(Awp:UInt32->Int->Bp)(a:LB)(b:LU)(h:UInt32)(m:Int):Bp:=if(Bw m (Aa a))then(Ae a m).bind λp=>(Ae b (GI.toZ (oO (Am h:UInt8) p))).bind λ_=>(Ae b (GI.toZ (oO (Am h:UInt8) p))).bind λu=>Awp (oO (Da h (GI.toZ (8:UInt64)).toNat) u) (Af m 1)
else
j30 h
def Zu:Nat->UInt32->Int->Bp
|0,_,_=>none
|c+1,d,e=>gT dP (Zu c) z l8 d e
def eX a b:=Zu a b As
def eE(j28:LB->LU->UInt32->Int->Bp)(f:UInt32)(a:LB)(b:LU):Bp:=j28 a b f 0
def Afj:=eE eX
def dS(j27:UInt32->LB->LU->Bp)(f:UInt32)(a:LB)(b:LU):Bp:=j27 f a b
def Agm:=dS Afj
abbrev Bec:=Int->LU->Bp
def Ady(Fl:Bec)(f:UInt32)(a:LB)(g:Int)(o:LU):Bp:=Fl (Af g 1) o
def As4 Fl:=Ady Fl
def Aji(j24:Bec)(f:UInt32)(a:LB)(g:Int)(k:UInt32)(b:LU):Bp:=(Ae b g).bind λ_=>(Mh b g k).bind λo=>j24 g o
def eC Fl f a:=Aji (As4 Fl f a) f a
def dJ(j23:Int->UInt32->LU->Bp)(IA:UInt32->Int->Bp)(f:UInt32)(a:LB)(g:Int)(b:LU)(k:UInt32)(n:Int):Bp:=if(Bw n 8)then
IA (oO (Da k (GI.toZ (1:UInt64)).toNat) (Ch 3988292384 (Dq k 1))) (Af n 1)
else
j23 g k b
def Zd(Fl:Bec)(f:UInt32)(a:LB)(g:Int)(b:LU):Nat->UInt32->Int->Bp
|0,_,_=>none
|q+1,k,n=>dJ (eC Fl f a) (Zd Fl f a g b q) f a g b k n
def cQ Fl f a g b:=Zd Fl f a g b As
def gU(j21:Int->LU->UInt32->Int->Bp)(j26:UInt32->LB->LU->Bp)(f:UInt32)(a:LB)(g:Int)(b:LU):Bp:=if(Bw g 256)then
j21 g b (Am g:UInt32) 0
else
j26 f a b
def Yy:Nat->Int->LU->Bp
|0,_,_=>none
|z+1,c,d=>gU (cQ (Yy z) Y Ba1) Agm Y Ba1 c d
def Af1 f a:=Yy f a As
def lR(j16:UInt32->LB->Int->LU->Bp)(f:UInt32)(a:LB):Bp:=if(Dr (Aa a) 100000)then
some (0,4)
else
j16 f a 0 (List.replicate 256 (0:UInt32))
def oV:=lR Af1
def Xn:Option (UInt32×Int):=(oV 4294967295 z).bind λ(c,d)=>if(Bb d 0)then
some (0,d)
else
some ((RJ c),0)
def Ay0(b f a g h:Int):Bbx:=some (((((((geq b 1)||(geq b 2))&&(Dr f 0))&&(TH f 6))&&(Dr g 0))&&(TH g 1048576))&&(Dr h 0))
def Ay7:=Ay0
def Axm(j2:Jz5 (Option Bool))(b f a g h:Int):Bbx:=if(geq a 8)then
if(geq a 8)then
j2 b f a g h
else
some false
else
if(geq a 16)then
if(geq a 16)then
j2 b f a g h
else
some false
else
if(geq a 24)then
j2 b f a g h
else
some false
def DS:=Axm Ay7
def Jp:Bcd:=if((Bw c 1)||(Dr c 1048576))then
some (0,2)
else
some ((G4 1 (Ep (Ch 256 c) 245)),0)
def Kg:Bcd:=(Jp c).bind λ(z,e)=>if(Bb e 0)then
some (0,e)
else
if((Bw d 1)||(Dr d 4000))then
some (0,2)
else(Es (Bb z 0)).bind λ_=>if(Dr (Ep (Ag (Af d z) 1) z) 1000)then
some (0,4)
else
some ((Ep (Ag (Af d z) 1) z),0)
def OK(k a m f b:Int):Bbx:=(Es (Bb a 0)).bind λ_=>if(Dr b (Ep 4000 a))then
some false
else(Kg f b).bind λ(g,h)=>some ((geq h 0)&&(TH g 1000))
abbrev Mv:=Option (Int×Int×Int×Int×Int×Int)
def Atq:Mv:=(Ae A 0).bind λ_=>(Ae A 0).bind λz=>(Ae A 1).bind λ_=>(Ae A 1).bind λc=>(Ae A 2).bind λ_=>(Ae A 2).bind λd=>(Ae A 3).bind λ_=>(Ae A 3).bind λe=>(Ae A 4).bind λ_=>(Ae A 4).bind λi=>(DS z c d e i).bind λj=>if(!j)then
some (0,0,0,0,0,12)
else(OK z c d e i).bind λl=>if(!l)then
some (0,0,0,0,0,4)
else
some (z,c,d,e,i,0)
def cZ:=Atq
def dC(j6:LI->Mv)(CD:Int->Int->LI->Mv)(b:LB)(g f:Int)(a:LI):Mv:=if(Bw f 5)then(Ae ([(2:Int),(2:Int),(2:Int),(4:Int),(4:Int)]:LI) f).bind λh=>(A9 b g h).bind λ(v,ae)=>(Ae a f).bind λ_=>(Mh a f (Am v:Int)).bind λw=>CD (Af g h) (Af f 1) w
else
j6 a
def Yx:Nat->Int->Int->LI->Mv
|0,_,_,_=>none
|c+1,d,e,i=>dC cZ (Yx c) z d e i
def Afl b:=Yx b As
def gK(j4:LB->Int->Int->LI->Mv)(b:LB):Mv:=(Bi b 0 (Gk 4 (Aa b))).bind λy=>(Qv ([84,84,65,49]:LB) y).bind λaa=>if(!aa)then
some (0,0,0,0,0,12)
else
if(Bw (Aa b) 22)then
some (0,0,0,0,0,24)
else(A9 b 18 4).bind λ(ab,af)=>(Bi b 0 18).bind λac=>(Xn ac).bind λ(ad,ag)=>if(Bb (Am ad:UInt64) ab)then
some (0,0,0,0,0,22)
else
j4 b 4 0 (List.replicate 5 (0:Int))
def Ke:=gK Afl
abbrev Bq:=Option (UInt64×Int)
def Ak2:Bq:=some (G,0)
def Akr:=Ak2
def Adu(j30:UInt64->Bq)(h b:UInt64)(a:LB)(f:LQ):Bq:=j30 h
def fX:=Adu Akr
def eG(j29:UInt64->UInt64->LB->LQ->Bq)(Uk:UInt64->Int->Bq)(a:LB)(b:UInt64)(f:LQ)(h:UInt64)(m:Int):Bq:=if(Bw m (Aa a))then(Ae a m).bind λp=>Option.bind (Ae f (GI.toZ (oO (Am (Da h (GI.toZ (56:UInt64)).toNat):UInt8) p))) λ_=>Option.bind (Ae f (GI.toZ (oO (Am (Da h (GI.toZ (56:UInt64)).toNat):UInt8) p))) λu=>Uk (oO (Fc h (GI.toZ (8:UInt64)).toNat) u) (Af m 1)
else
j29 h b a f
def Zn:Nat->UInt64->Int->Bq
|0,_,_=>none
|c+1,d,e=>eG fX (Zn c) z G Ba8 d e
def dO a b f:=Zn a b f As
def cV(j27:LB->UInt64->LQ->UInt64->Int->Bq)(b:UInt64)(a:LB)(f:LQ):Bq:=j27 a b f b 0
def Aku:=cV dO
abbrev Bed:=Int->LQ->Bq
def Adp(Fl:Bed)(b:UInt64)(a:LB)(g:Int)(o:LQ):Bq:=Fl (Af g 1) o
def Af3 Fl:=Adp Fl
def Ae7(j24:Bed)(b:UInt64)(a:LB)(g:Int)(k:UInt64)(f:LQ):Bq:=(Ae f g).bind λ_=>(Mh f g k).bind λo=>j24 g o
def dK Fl b a:=Ae7 (Af3 Fl b a) b a
def cL(j23:Int->UInt64->LQ->Bq)(IA:UInt64->Int->Bq)(b:UInt64)(a:LB)(g:Int)(f:LQ)(k:UInt64)(n:Int):Bq:=if(Bw n 8)then
IA (oO (Fc k (GI.toZ (1:UInt64)).toNat) (Ch 4823603603198064275 (Da k (GI.toZ (63:UInt64)).toNat))) (Af n 1)
else
j23 g k f
def AQ(Fl:Bed)(b:UInt64)(a:LB)(g:Int)(f:LQ):Nat->UInt64->Int->Bq
|0,_,_=>none
|q+1,k,n=>cL (dK Fl b a) (AQ Fl b a g f q) b a g f k n
def iJ Fl b a g f:=AQ Fl b a g f As
def eP(j21:Int->LQ->UInt64->Int->Bq)(j26:UInt64->LB->LQ->Bq)(b:UInt64)(a:LB)(g:Int)(f:LQ):Bq:=if(Bw g 256)then
j21 g f (Fc (Am g:UInt64) (GI.toZ (56:UInt64)).toNat) 0
else
j26 b a f
def BM:Nat->Int->LQ->Bq
|0,_,_=>none
|z+1,c,d=>eP (iJ (BM z) G o8) Aku G o8 c d
def Agn b a:=BM b a As
def mG(j16:UInt64->LB->Int->LQ->Bq)(b:UInt64)(a:LB):Bq:=if(Dr (Aa a) 100000)then
some (0,4)
else
j16 b a 0 (List.replicate 256 (0:UInt64))
def oF:=mG Agn
def jG:Bc6:=(oF 0 z).bind λ(c,d)=>some (c,d)
def xG:Bc6:=if(Dr (Aa z) 64)then
some (0,2)
else(jG z).bind λ(c,d)=>some (c,0)
abbrev Bck:=Option (LB×Int)
def HS:Bck:=(xG z).bind λ(c,d)=>if(Bb d 0)then
some (([]:LB),d)
else(Mc c 8).bind λ(e,i)=>some (e,i)
abbrev Bdp:=Option (Bool×Int)
def Tn:Bdp:=(HS e).bind λ(c,d)=>if((Bb d 0)||(Bb (Aa z) (Aa c)))then
some (false,2)
else(Mg z c).bind λi=>some (i,0)
def HD:Bbv:=(DS c d j D F).bind λz=>if(!z)then
some 8
else(OK c d j D F).bind λe=>if(!e)then
some 8
else
some 0
abbrev Bdy:=Option (UInt64×UInt64)
def FW:Bdy:=some ((Af (Af (Ch (Da G (GI.toZ (32:UInt64)).toNat) (Da l7 (GI.toZ (32:UInt64)).toNat)) (Da (Af (Ch (Da G (GI.toZ (32:UInt64)).toNat) (Dq l7 4294967295)) (Da (Ch (Dq G 4294967295) (Dq l7 4294967295)) (GI.toZ (32:UInt64)).toNat)) (GI.toZ (32:UInt64)).toNat)) (Da (Af (Dq (Af (Ch (Da G (GI.toZ (32:UInt64)).toNat) (Dq l7 4294967295)) (Da (Ch (Dq G 4294967295) (Dq l7 4294967295)) (GI.toZ (32:UInt64)).toNat)) 4294967295) (Ch (Dq G 4294967295) (Da l7 (GI.toZ (32:UInt64)).toNat))) (GI.toZ (32:UInt64)).toNat)),(Ch G l7))
def EJ:Bdy:=(FW G l7).bind λ(z,c)=>some (z,c)
abbrev Bci:=Option (LI)
def Lm:Bci:=some A
def Hq:=Lm
abbrev Bdh:=Int->LI->Option (LI)
def Fv(j10:LI->Option (LI))(bk8:Bdh)(b:Int)(a:LI):Bci:=if(Bw b (Aa a))then(
(jI (Aa a) b (Aa a)).bind λ_=>(jI (Aa a) 0 b).bind λ_=>bk8 (Af b (Cq ((Aa a)-b) (Ej a 0 (b-(0:Int))).length)) (Om a b ((Aa a)-b) (Ej a 0 (b-(0:Int)))))
else
j10 a
def Ef:Nat->Int->LI->Option (LI)
|0,_,_=>none
|q+1,b,a=>Fv Hq (Ef q) b a
def Vl:=Ef As
def Mt(j8:Bdh)(f:LI)(g:UInt64):Bci:=(mkI (Am g:Int) (0:Int)).bind λk=>(Es (geq (Am g:Int) (Am g:Int))).bind λ_=>j8 (Cq (Aa k) f.length) (Cr k f)
def Vh:=Mt Vl
def Ml(j7:LI->UInt64->Option (LI))(f:LI)(h:Int):Bci:=(EJ (Am (Aa f):UInt64) (Am h:UInt64)).bind λ(m,g)=>if((Dr m 0)||(Dr g 9223372036854775807))then
none
else
j7 f g
def Vm:=Ml Vh
def Mr(j6:LI->Int->Option (LI))(f:LI)(h:Int):Bci:=if(Bw h 0)then
none
else
j6 f h
def Li:=Mr Vm
def Ad8:Bci:=some A
def Ua:=Ad8
def Ff(j16:LI->Option (LI))(Yq:Bdh)(a:Bdl)(g:Int)(f:LI):Bci:=if(Bw g (Aa a))then(Ae a g).bind λn=>(Ay f n).bind λo=>Yq (Af g 1) o
else
j16 f
def Dz:Nat->Int->LI->Option (LI)
|0,_,_=>none
|z+1,c,d=>Ff Ua (Dz z) Bbb c d
def Lr a:=Dz a As
def Lo(j14:(List LI)->Int->LI->Option (LI))(a:Bdl)(p:LI):Bci:=j14 a 0 p
def Lt:=Lo Lr
def Lp(j13:(List LI)->LI->Option (LI))(b:Int)(a:Bdl):Bci:=if(Dr (Ag b (Ag (0:Int) (0:Int))) 0)then(jI 0 0 0).bind λ_=>(mkI (Ag b (Ag (0:Int) (0:Int))) (0:Int)).bind λu=>(Ay ([]:LI) u).bind λk=>(jI (Aa k) 0 0).bind λ_=>j13 a (Ej k 0 ((0:Int)-(0:Int)))
else
j13 a ([]:LI)
def Tx:=Lp Lt
def Lw(j12:Int-> (List LI)->Option (LI))(a:Bdl)(b:Int):Bci:=if(Bw b 0)then
none
else
j12 b a
def Tv:=Lw Tx
def Fq(j11:(List LI)->Int->Option (LI))(bk9:Int->Int->Option (LI))(a:Bdl)(b h:Int):Bci:=if(Bw h (Aa a))then(Ae a h).bind λm=>if(Bw (Af b (Aa m)) 0)then
none
else
bk9 (Af b (Aa m)) (Af h 1)
else
j11 a b
def Ed:Nat->Int->Int->Option (LI)
|0,_,_=>none
|z+1,c,d=>Fq Tv (Ed z) Bbb c d
def Uu a:=Ed a As
def Mp(j9:(List LI)->Int->Int->Option (LI))(a:Bdl):Bci:=j9 a 0 0
def Lf:=Mp Uu
def AI:Bci:=(Lf ([A,J]:Bdl)).bind λz=>some z
def Oh:Option (LI×Int):=(Kg c d).bind λ(z,e)=>if(Bb e 0)then
some (([]:LI),e)
else(Jp c).bind λ(i,j)=>(Li ([i]:LI) (Ag z 1)).bind λl=>(AI l ([(Ag d (Ch (Ag z 1) i))]:LI)).bind λA=>some (A,0)
def Bn:Option (LI×Int):=(HD c d j D F).bind λz=>if(Bb z 0)then
some (([]:LI),z)
else(Oh D F).bind λ(e,i)=>some (e,i)
def Amt:Bbv:=some 0
def iX:=Amt
abbrev Bdi:=Int->Int->Option Int
def iQ(j6:Bbv)(CD:Bdi)(a:LI)(f b:Int):Bbv:=if(Bw b (Aa a))then(Ae a b).bind λg=>if((Bw g 5)||(Dr g f))then
some 8
else
CD (Ag f g) (Af b 1)
else
j6
def Zw:Nat->Int->Int->Option Int
|0,_,_=>none
|z+1,c,d=>iQ iX (Zw z) A c d
def Amn a:=Zw a As
abbrev Bdu:=LI->Int->Int->Option Int
def gH(j4:Bdu)(a:LI):Bbv:=if((geq (Aa a) 0)||(Dr (Aa a) 1000))then
some 8
else
j4 a 100000 0
def Se:=gH Amn
abbrev Pc:=Option (LI×Int)
def Aar:Pc:=(Se A).bind λz=>if(Bb z 0)then
some (([]:LI),12)
else
some (A,0)
def lD:=Aar
def lT(j6:LI->Pc)(CD:Int->LI->Pc)(a:LB)(f:LI)(g:Int)(b:LI):Pc:=if(Bw g (Aa f))then(A9 a (Ch 4 g) 4).bind λ(k,u)=>(Ae b g).bind λ_=>(Mh b g (Am k:Int)).bind λm=>CD (Af g 1) m
else
j6 b
def EA:Nat->Int->LI->Pc
|0,_,_=>none
|c+1,d,e=>lT lD (EA c) z A d e
def Azv a f:=EA a f As
def mO(j4:LB->LI->Int->LI->Pc)(a:LB)(h:Int):Pc:=if((Bw h 1)||(Dr h 1000))then
some (([]:LI),2)
else
if(Bw (Aa a) (Af (Ch 4 h) 4))then
some (([]:LI),24)
else(A9 a (Ch 4 h) 4).bind λ(n,v)=>(Bi a 0 (Ch 4 h)).bind λo=>(Xn o).bind λ(p,w)=>if(Bb (Am p:UInt64) n)then
some (([]:LI),22)
else(mkI h (0:Int)).bind λf=>(Es (geq h h)).bind λ_=>j4 a f 0 f
def Ws:=mO Azv
abbrev PH:=Option (Int×Int×Int×Int×Int×Int×LI×Int)
def Agl:PH:=(Bn c d j D F).bind λ(e,i)=>if(Bb i 0)then
some (0,0,0,0,0,0,([]:LI),i)
else(Bi z O (Aa z)).bind λl=>(Ws l (Aa e)).bind λ(A,B)=>if(Bb B 0)then
some (0,0,0,0,0,0,([]:LI),B)
else
some (c,d,j,D,F,(Af (Af O (Ch 4 (Aa A))) 4),A,0)
def eR:=Agl
def Adw(j2:LB->Jz6 PH)(a n:LB):PH:=if(Dr (Aa n) 64)then
some (0,0,0,0,0,0,([]:LI),2)
else
if(Dr (Aa a) 100000)then
some (0,0,0,0,0,0,([]:LI),4)
else(Gj a).bind λ(f,w)=>if(Bb w 0)then
some (0,0,0,0,0,0,([]:LI),w)
else(Bi a f (Aa a)).bind λad=>(Ke ad).bind λ(b,g,h,k,m,y)=>if(Bb y 0)then
some (0,0,0,0,0,0,([]:LI),y)
else
if((n==([]:LB)) !=(geq b 1))then
some (0,0,0,0,0,0,([]:LI),26)
else
if(n !=([]:LB))then
if(Bw (Aa a) (Af (Af f 22) 8))then
some (0,0,0,0,0,0,([]:LI),24)
else(Bi a (Af f 22) (Af (Af f 22) 8)).bind λae=>(Tn ae n).bind λ(af,aa)=>if(Bb aa 0)then
some (0,0,0,0,0,0,([]:LI),aa)
else
if(!af)then
some (0,0,0,0,0,0,([]:LI),26)
else
j2 a b g h k m (Af (Af f 22) 8)
else
j2 a b g h k m (Af f 22)
def Gp:=Adw eR
def MT:Option (Int×Int×Int×Int×Int×Int×Int×Int×Int×Int×LI×Int):=if(Dr (Aa z) 100000)then
some (0,0,0,0,0,0,0,0,0,0,([]:LI),4)
else(Gj z).bind λ(c,d)=>if(Bb d 0)then
some (0,0,0,0,0,0,0,0,0,0,([]:LI),d)
else(Bi z c (Aa z)).bind λe=>(Ke e).bind λ(i,j,l,A,B,C)=>if(Bb C 0)then
some (i,j,l,A,B,0,0,0,0,0,([]:LI),C)
else(Bn i j l A B).bind λ(D,E)=>if(geq i 2)then
some (i,j,l,A,B,c,(Af c 22),(Af (Af c 22) 8),0,0,D,0)
else
some (i,j,l,A,B,c,(Af c 22),(Af c 22),0,0,D,0)
abbrev Bdz:=Option (LX)
def Ae8:Bdz:=some C
def R4:=Ae8
def uq(j6:LX->Option (LX))(CD:Int->LX->Option (LX))(f:UInt64)(a:Int)(b:LX):Bdz:=if(Bw a 8)then(Es (Fu (Ch 8 a) 0)).bind λ_=>(Ae b a).bind λ_=>(Mh b a (Am (Am (Da f (GI.toZ (Ch 8 a)).toNat):Int8):Int32)).bind λg=>CD (Af a 1) g
else
j6 b
def XT:Nat->Int->LX->Option (LX)
|0,_,_=>none
|z+1,c,d=>uq R4 (XT z) G c d
def ug f:=XT f As
def oG(j4:UInt64->Int->LX->Option (LX))(f:UInt64):Bdz:=j4 f 0 (List.replicate 16 (0:Int32))
def M1:=oG ug
abbrev Bdv:=Option (LX×Int)
def Nz:Bdv:=if(Dr (Aa z) 64)then
some (([(0:Int32),(0:Int32),(0:Int32),(0:Int32),(0:Int32),(0:Int32),(0:Int32),(0:Int32),(0:Int32),(0:Int32),(0:Int32),(0:Int32),(0:Int32),(0:Int32),(0:Int32),(0:Int32)]:LX),2)
else(jG z).bind λ(c,d)=>if(Bb d 0)then
some (([(0:Int32),(0:Int32),(0:Int32),(0:Int32),(0:Int32),(0:Int32),(0:Int32),(0:Int32),(0:Int32),(0:Int32),(0:Int32),(0:Int32),(0:Int32),(0:Int32),(0:Int32),(0:Int32)]:LX),d)
else(M1 c).bind λe=>some (e,0)
abbrev QE:=Option (Int32×Int32×Int)
def Af0:QE:=if E then(Es (Fu (Ag c 1) 0)).bind λ_=>some ((LW (Fc (1:Int32) (GI.toZ (Ag c 1)).toNat)),(Ag (Fc (1:Int32) (GI.toZ (Ag c 1)).toNat) 1),0)
else
some (0,0,2)
def Ato:=Af0
def Aks(j2:Int->Bool->QE)(a:Int):QE:=if(geq a 8)then
j2 a (geq a 8)
else
if(geq a 16)then
j2 a (geq a 16)
else
j2 a (geq a 24)
def FD:=Aks Ato
def Mq:Bbv:=(FD d).bind λ(z,e,i)=>if(((Bb i 0)||(Bw c 1))||(Dr c 6))then
some 2
else
some 0
def KC:Bck:=if(Bw (Aa z) 5)then
some (([]:LB),24)
else
if(Dr (Aa z) 41254)then
some (([]:LB),4)
else(Bi z 0 (Ag (Aa z) 4)).bind λc=>(Xn c).bind λ(d,e)=>if(Bb e 0)then
some (([]:LB),e)
else(Bi z (Ag (Aa z) 4) (Aa z)).bind λi=>(qY i).bind λ(j,l)=>if((Bb l 0)||(Bb j (Am d:UInt64)))then
some (([]:LB),22)
else(Bi z 0 (Ag (Aa z) 4)).bind λA=>some (A,0)
def Bk:Bb1:=(
(Ay ([]:LB) z).bind λc=>some c)
abbrev Bd2:=Option (LB×Int×Int)
def X? (a:LB):Bd2:=if(Dr (Aa a) 41250)then
some (([]:LB),0,4)
else(Bk a).bind λb=>some (b,(Ch 8 (Aa a)),0)
def YV:Option (Int×Int×UInt64×UInt64):=some (10,10,16384,16384)
def Jl:Bbv:=if(((Bw c 0)||(Dr c 330000))||(Bb (Aa z) (I' (Af c 7) (GI.toZ (3:UInt64)).toNat)))then
some 8
else
if(Dr (Dq c 7) 0)then(Ae z (Ag (Aa z) 1)).bind λd=>(Es (Fu (Dq c 7) 0)).bind λ_=>if(Bb (Da d (GI.toZ (Dq c 7)).toNat) 0)then
some 8
else
some 0
else
some 0
abbrev Bd9:=Option UInt64
def yh:Bd9:=some G
def A7:=yh
def zX(j6:UInt64->Option UInt64)(CD:UInt64->Int->Option UInt64)(b f:Int)(h:LB)(k:Int)(g:UInt64)(a:Int):Bd9:=if(Bw a f)then(Ae h (I' (Af b a) (GI.toZ (3:UInt64)).toNat)).bind λm=>(Es (Fu (Dq (Af b a) 7) 0)).bind λ_=>(Es (Fu (Gk (Ag f a) (Ag 8 (Dq (Af b a) 7))) 0)).bind λ_=>(Es (Fu a 0)).bind λ_=>CD (B? g (Fc (Am (Dq (Da m (GI.toZ (Dq (Af b a) 7)).toNat) (Ag (Fc (1:UInt8) (GI.toZ (Gk (Ag f a) (Ag 8 (Dq (Af b a) 7)))).toNat) 1)):UInt64) (GI.toZ a).toNat)) (Af a (Gk (Ag f a) (Ag 8 (Dq (Af b a) 7))))
else
j6 g
def NU:Nat->UInt64->Int->Option UInt64
|0,_,_=>none
|z+1,e,j=>zX A7 (NU z) c d i B e j
def zT b f h k:=NU b f h k As
def cU(j4:Int->Int->LB->Int->UInt64->Int->Option UInt64)(h:LB)(k b f:Int):Bd9:=j4 b f h k 0 0
def gV:=cU zT
abbrev Ea:=Option (LB×Int×Int)
def Agr (o:Int)(p:LB):Ea:=some (p,o,0)
def qV:=Agr
abbrev Bdw:=Int->Int->LB->Ea
def Alg(Uk:Bdw)(a:Int)(g:LB)(b f h:Int)(u:LB):Ea:=Uk (Af f 64) h u
def pJ Uk:=Alg Uk
abbrev Bdc:=UInt64->Int->Int->LB->Ea
def Alw(uy:Bdc)(a f:Int)(g:LB)(b:Int)(m n:UInt64)(k h:Int)(w:LB):Ea:=(Es (Fu (Gk k (Ag 8 (Dq h 7))) 0)).bind λ_=>uy (Da n (GI.toZ (Gk k (Ag 8 (Dq h 7)))).toNat) (Ag k (Gk k (Ag 8 (Dq h 7)))) (Af h (Gk k (Ag 8 (Dq h 7)))) w
def Acz uy:=Alw uy
def Ayf (j48:Bdc)(a f:Int)(g:LB)(b:Int)(m n:UInt64)(k h:Int)(v:LB):Ea:=(Ae v (Ag (Aa v) 1)).bind λ_=>(Es (Fu (Gk k (Ag 8 (Dq h 7))) 0)).bind λ_=>(Es (Fu (Dq h 7) 0)).bind λ_=>(Ae v (Ag (Aa v) 1)).bind λaa=>(Ae v (Ag (Aa v) 1)).bind λ_=>Option.bind (Mh v (Ag (Aa v) 1) (B? aa (Fc (Am (Dq n (Ag (Fc (1:UInt64) (GI.toZ (Gk k (Ag 8 (Dq h 7)))).toNat) 1)):UInt8) (GI.toZ (Dq h 7)).toNat))) λw=>j48 n k h w
def rV uy a f g b m:=Ayf (Acz uy a f g b m) a f g b m
def rE(j47:Bdc)(j50:Bdw)(a:Int)(g:LB)(b f:Int)(m n:UInt64)(k h:Int)(u:LB):Ea:=if(Dr k 0)then
if(geq (Dq h 7) 0)then(Ay u ([(0:UInt8)]:LB)).bind λab=>j47 n k h ab
else
j47 n k h u
else
j50 f h u
def HJ(Uk:Bdw)(a:Int)(g:LB)(b f:Int)(m:UInt64):Nat->UInt64->Int->Int->LB->Ea
|0,_,_,_,_=>none
|q+1,n,k,h,u=>rE (rV (HJ Uk a g b f m q) a f g b m) (pJ Uk a g b) a g b f m n k h u
def sY Uk a g b f m:=HJ Uk a g b f m As
def sW(j44:Int->UInt64->UInt64->Int->Int->LB->Ea)(j52:Int->LB->Ea)(a:Int)(g:LB)(b f o:Int)(p:LB):Ea:=if(Bw f a)then(gV g b f (Gk 64 (Ag a f))).bind λm=>j44 f m m (Gk 64 (Ag a f)) o p
else
j52 o p
def HF:Nat->Int->Int->LB->Ea
|0,_,_,_=>none
|z+1,d,e,j=>sW (sY (HF z) c i B) qV c i B d e j
def Aa2 a g b:=HF a g b As
def zY(j27:Int->LB->Jz3 (LB->Ea))(g:LB)(b y a:Int):Ea:=(Jl g b).bind λac=>if(Bb ac 0)then
some (([]:LB),0,8)
else
if(((Bw y 0)||(Dr y a))||(Dr a b))then
some (([]:LB),0,2)
else
j27 a g b y 0 ([]:LB)
def sC:=zY Aa2
def Ayy:Bbv:=if(!((geq (Gk (G4 c 0) 24) c)&&((geq (Gk (G4 d 0) 24) d)&&((geq (Gk G 68719476735) G)&&((geq (Gk l7 68719476735) l7)&&true)))))then
some 8
else
some 0
def lB:=Ayy
abbrev Bdd:=Int->Int->UInt64->UInt64->Option Int
def PL(j4:Bdd)(a b:Int)(f g:UInt64):Bbv:=(
(
j4 a b f g))
def mL:=PL lB
def QA(j3:Bdd)(a b:Int)(f g:UInt64):Bbv:=(
(
j3 a b f g))
def YD:=QA mL
def EY:Bc6:=(Jl z c).bind λe=>if(Bb e 0)then
some (0,8)
else
if(((Bw j 0)||(Dr j 64))||(Bw d 0))then
some (0,2)
else
if(Dr d (Ag c j))then
some (0,24)
else(gV z c d j).bind λi=>some (i,0)
def Lk:Bbv:=if(geq G 0)then
some 64
else(Ae ([(0:UInt8),(1:UInt8),(56:UInt8),(2:UInt8),(57:UInt8),(49:UInt8),(28:UInt8),(3:UInt8),(61:UInt8),(58:UInt8),(42:UInt8),(50:UInt8),(38:UInt8),(29:UInt8),(17:UInt8),(4:UInt8),(62:UInt8),(47:UInt8),(59:UInt8),(36:UInt8),(45:UInt8),(43:UInt8),(51:UInt8),(22:UInt8),(53:UInt8),(39:UInt8),(33:UInt8),(30:UInt8),(24:UInt8),(18:UInt8),(12:UInt8),(5:UInt8),(63:UInt8),(55:UInt8),(48:UInt8),(27:UInt8),(60:UInt8),(41:UInt8),(37:UInt8),(16:UInt8),(46:UInt8),(35:UInt8),(44:UInt8),(21:UInt8),(52:UInt8),(32:UInt8),(23:UInt8),(11:UInt8),(54:UInt8),(26:UInt8),(40:UInt8),(15:UInt8),(34:UInt8),(20:UInt8),(31:UInt8),(10:UInt8),(25:UInt8),(14:UInt8),(19:UInt8),(9:UInt8),(13:UInt8),(8:UInt8),(7:UInt8),(6:UInt8)]:LB) (GI.toZ (Da (Ch (Dq G (LW G)) 285870213051353865) (GI.toZ (58:UInt64)).toNat))).bind λz=>some (Am z:Int)
abbrev Gz:=Option (Int×Int×Int)
def Agk:Gz:=some (0,0,24)
def Ag0:=Agk
def Agj(j10:Gz):Gz:=j10
def Az0:=Agj Ag0
def Azn(j9:Gz)(f a:Int):Gz:=if(geq f 48)then
some (f,(Af 0 (Af a f)),0)
else
j9
def Baa:=Azn Az0
def Azu(j8:Int->Int->Gz)(f b a:Int):Gz:=if(Bw f (Gk 48 (Ag b a)))then
some (f,(Af (Af (0:Int) (1:Int)) (Af a f)),0)
else
j8 f a
def Adb:=Azu Baa
def Aa3(j7:Jz3 Gz)(h:Int)(k:UInt64)(a:Int)(g:LB)(b:Int):Gz:=if(Bb h 0)then
some (0,0,h)
else(Lk (RJ k)).bind λf=>j7 f b a
def lO:=Aa3 Adb
def QF(j6:Int->UInt64->Int->LB->Int->Gz)(g:LB)(b a:Int):Gz:=(Jl g b).bind λm=>if(Bb m 0)then
some (0,0,m)
else
if(Bw a 0)then
some (0,0,2)
else
if(Fu a b)then
some (0,0,24)
else(
(
(EY g b a (Gk 48 (Ag b a))).bind λ(k,h)=>j6 h k a g b))
def nQ:=QF lO
def HW:Bbx:=(Es (Fu y5 0)).bind λ_=>some (Fu (Da Y (GI.toZ y5).toNat) 48)
abbrev gG:=Option (UInt32×Int×Int)
def Aqr:gG:=(EY i B d X).bind λ(z,e)=>if(Bb e 0)then
some (0,0,e)
else
if(Bw j 48)then(Es (Fu c 0)).bind λ_=>some ((B? (Fc (Am j:UInt32) (GI.toZ c).toNat) (Am z:UInt32)),(Af d X),0)
else(HW (Am z:UInt32) c).bind λl=>if(!l)then
some (0,0,12)
else
some ((Am z:UInt32),(Af d X),0)
def tN:=Aqr
def Aad (j2:Jz3 (LB->Int->Int->gG))(g:LB)(h v a:Int):gG:=(Jl g h).bind λo=>if(Bb o 0)then
some (0,0,o)
else
if((Bw a 0)||(Dr a 24))then
some (0,0,2)
else(nQ g h v).bind λ(f,b,p)=>if(Bb p 0)then
some (0,0,p)
else
if(geq f 48)then
j2 a b f g h 32
else
j2 a b f g h a
def xN:=Aad tN
def KF(a f:Int)(g h:UInt64)(b:UInt32):Option (Int×UInt32):=(Es (Fu a 0)).bind λ_=>if(geq (Da b (GI.toZ a).toNat) 0)then
some (0,b)
else(Es (Fu a 0)).bind λ_=>some (1,(Ag b (Fc (1:UInt32) (GI.toZ a).toNat)))
abbrev Ja:=Option (UInt32×Int×Int×Int×UInt64×UInt64×Int)
def Ayx:Ja:=some (Y,y5,Bbs,Bbt,(Af Bbe (Ag (Am Y:UInt64) (Da Bbe (GI.toZ (4:UInt64)).toNat))),Bbu,0)
def Azr:=Ayx
def Ag1 (j10:UInt32->Jz3 (UInt64->UInt64->Ja))(f:UInt32)(k m:Int)(b n:UInt64)(w:Int):Ja:=j10 f k w m b n
def Abg:=Ag1 Azr
def Aq9 (j9:UInt32->Int->Int->UInt64->UInt64->Int->Ja)(f:UInt32)(k a:Int)(b:UInt64)(m:Int)(n:UInt64):Ja:=if(Dr a 0)then(Es (Fu a 0)).bind λ_=>if(Bw (Af b (Ag (Am f:UInt64) (Da b (GI.toZ (4:UInt64)).toNat))) (Fc (16:UInt64) (GI.toZ a).toNat))then
j9 f k m b n (Ag a 1)
else
if(Bw a 24)then(Es (Fu a 0)).bind λ_=>if(Dr (Af b (Ag (Am f:UInt64) (Da b (GI.toZ (4:UInt64)).toNat))) (Fc (32:UInt64) (GI.toZ a).toNat))then
j9 f k m b n (Af a 1)
else
j9 f k m b n a
else
j9 f k m b n a
else
if(Bw a 24)then(Es (Fu a 0)).bind λ_=>if(Dr (Af b (Ag (Am f:UInt64) (Da b (GI.toZ (4:UInt64)).toNat))) (Fc (32:UInt64) (GI.toZ a).toNat))then
j9 f k m b n (Af a 1)
else
j9 f k m b n a
else
j9 f k m b n a
def YJ:=Aq9 Abg
def qW(j8:UInt32->Int->Int->UInt64->Int->UInt64->Ja)(a h:Int)(b g:UInt64)(f:UInt32)(k:Int):Ja:=(KF a h b g f).bind λ(ad,o)=>if(geq ad 1)then
if(Dr h 0)then(Es (Fu h 0)).bind λ_=>if(Bw (Af g (Ag (Am o:UInt64) (Da g (GI.toZ (4:UInt64)).toNat))) (Fc (16:UInt64) (GI.toZ h).toNat))then
j8 f k a b (Ag h 1) (Af g (Ag (Am o:UInt64) (Da g (GI.toZ (4:UInt64)).toNat)))
else
if(Bw h 24)then(Es (Fu h 0)).bind λ_=>if(Dr (Af g (Ag (Am o:UInt64) (Da g (GI.toZ (4:UInt64)).toNat))) (Fc (32:UInt64) (GI.toZ h).toNat))then
j8 f k a b (Af h 1) (Af g (Ag (Am o:UInt64) (Da g (GI.toZ (4:UInt64)).toNat)))
else
j8 f k a b h (Af g (Ag (Am o:UInt64) (Da g (GI.toZ (4:UInt64)).toNat)))
else
j8 f k a b h (Af g (Ag (Am o:UInt64) (Da g (GI.toZ (4:UInt64)).toNat)))
else
if(Bw h 24)then(Es (Fu h 0)).bind λ_=>if(Dr (Af g (Ag (Am o:UInt64) (Da g (GI.toZ (4:UInt64)).toNat))) (Fc (32:UInt64) (GI.toZ h).toNat))then
j8 f k a b (Af h 1) (Af g (Ag (Am o:UInt64) (Da g (GI.toZ (4:UInt64)).toNat)))
else
j8 f k a b h (Af g (Ag (Am o:UInt64) (Da g (GI.toZ (4:UInt64)).toNat)))
else
j8 f k a b h (Af g (Ag (Am o:UInt64) (Da g (GI.toZ (4:UInt64)).toNat)))
else
j8 f k a b h g
def rC:=qW YJ
def rN(j7:Int->Int->UInt64->UInt64->UInt32->Int->Ja)(p:Int)(u:LB)(v a h:Int)(b g:UInt64):Ja:=(EY u v p 1).bind λ(ae,aa)=>if(Bb aa 0)then
some (0,0,0,0,0,0,aa)
else
if(geq ae 0)then(EY u v (Af p 1) a).bind λ(af,ab)=>if(Bb ab 0)then
some (0,0,0,0,0,0,ab)
else
j7 a h b g (Am af:UInt32) (Af (Af p 1) a)
else(xN u v (Af p 1) h).bind λ(y,ag,ac)=>if(Bb ac 0)then
some (0,0,0,0,0,0,ac)
else(Es (Fu a 0)).bind λ_=>if(Bw (Af y (Fc (1:UInt32) (GI.toZ a).toNat)) y)then
some (0,0,0,0,0,0,12)
else
j7 a h b g (Af y (Fc (1:UInt32) (GI.toZ a).toNat)) ag
def Avo :=rN rC
def uH(j6:Int->LB->Jz3 (UInt64->UInt64->Ja))(u:LB)(v p a h:Int)(b g:UInt64):Ja:=(Jl u v).bind λah=>if(Bb ah 0)then
some (0,0,0,0,0,0,8)
else(YD a h b g).bind λai=>if(Bb ai 0)then
some (0,0,0,0,0,0,8)
else
j6 p u v a h b g
def IB:=uH Avo
abbrev Bu:=Option (LU×Int×Int)
def Aqx:Bu:=some (l8,c,0)
def KQ:=Aqx
abbrev Bby:=List (Int×Int×UInt64×UInt64×Unit)
def Ari(Fl:Int->Int-> (List (Int×Int×UInt64×UInt64×Unit))->LU->Bu)(a f:Int)(g:LB)(b k v:Int)(w:UInt32)(h:Int)(ah:Bby)(n:LU):Bu:=(Ay n ([w]:LU)).bind λak=>Fl (Af k v) (Af h 1) ah ak
def Aqn Fl:=Ari Fl
def Aqu(j22:Int->Int->UInt32->Int-> (List (Int×Int×UInt64×UInt64×Unit))->LU->Bu)(a f:Int)(g:LB)(b k h y:Int)(w:UInt32)(v:Int)(m:Bby)(n:LU)(aa ab:Int)(ac ad:UInt64):Bu:=if(Bb y 0)then
some (([]:LU),0,y)
else(Es (Bb a 0)).bind λ_=>(Ae m (Jb h a)).bind λ_=>(Mh m (Jb h a) (aa,ab,ac,ad,())).bind λah=>j22 k v w h ah n
def JT Fl a f g b:=Aqu (Aqn Fl a f g b) a f g b
def Wx(j21:Jz3 (UInt32->Int-> (List (Int×Int×UInt64×UInt64×Unit))->LU->Int->Int->UInt64->UInt64->Bu))(j24:Int->LU->Bu)(a f:Int)(g:LB)(b k h:Int)(m:Bby)(n:LU):Bu:=if(Bw h (Ch f a))then(sC g b k (Gk (Af k 81) b)).bind λ(ag,ae,af)=>if(Bb af 0)then
some (([]:LU),0,af)
else(Es (Bb a 0)).bind λ_=>(Ae m (Jb h a)).bind λ_=>(
(
(Ae m (Jb h a)).bind λo=>(
(IB ag ae 0 o.1 o.2.1 o.2.2.1 o.2.2.2.1).bind λ(w,v,aa,ab,ac,ad,y)=>j21 k h y w v m n aa ab ac ad)))
else
j24 k n
def Oj:Nat->Int->Int-> (List (Int×Int×UInt64×UInt64×Unit))->LU->Bu
|0,_,_,_,_=>none
|z+1,e,j,l,A=>Wx (JT (Oj z) c d i B) KQ c d i B e j l A
def LZ a f g b:=Oj a f g b As
def IK(j16:Int->Int->LB->Jz3 ( (List (Int×Int×UInt64×UInt64×Unit))->LU->Bu))(a f:Int)(g:LB)(b:Int)(p:Bby):Bu:=j16 a f g b 0 0 p ([]:LU)
def Aqk:=IK LZ
def IW(j15:Int->Int->LB->Int-> (List (Int×Int×UInt64×UInt64×Unit))->Bu)(RS:Int-> (List (Int×Int×UInt64×UInt64×Unit))->Bu)(a f:Int)(g:LB)(b u:Int)(p:Bby):Bu:=if(Bw u 6)then(YV).bind λ(al,ae,af,am)=>(Ae p u).bind λ_=>(Mh p u (al,ae,af,am,())).bind λan=>RS (Af u 1) an
else
j15 a f g b p
def Ox:Nat->Int-> (List (Int×Int×UInt64×UInt64×Unit))->Bu
|0,_,_=>none
|z+1,e,j=>IW Aqk (Ox z) c d i B e j
def ME a f g b:=Ox a f g b As
def AD(j13:Int->Int->LB->Int->Int-> (List (Int×Int×UInt64×UInt64×Unit))->Bu)(a f:Int)(g:LB)(b:Int):Bu:=j13 a f g b 0 (List.replicate 6 ((0:Int),(0:Int),(0:UInt64),(0:UInt64),()))
def AF:=AD ME
abbrev nB:=Option (Int×LX×LX×Int)
def yg:nB:=if E then
some (10,C,(List.replicate 16 (0:Int32)),0)
else
if(geq c 16)then
some (9,C,(List.replicate 16 (0:Int32)),0)
else
some (0,(List.replicate 16 (0:Int32)),(List.replicate 16 (0:Int32)),2)
def xk:=yg
def yJ(j2:Int->LX->Bool->nB)(a:Int)(b:LX):nB:=if(geq a 8)then
j2 a b (geq a 8)
else
j2 a b (geq a 24)
def sQ:=yJ xk
def jX:Option (Int×Int32×Int×LX×LX×Int):=(sQ c C).bind λ(z,d,e,i)=>if(Bb i 0)then
some (0,0,0,(List.replicate 16 (0:Int32)),(List.replicate 16 (0:Int32)),i)
else
some (c,0,z,d,e,0)
abbrev Bea:=Option Int32
def Ye:Bea:=some (oO (Am (Da Y (GI.toZ (1:UInt64)).toNat):Int32) (LW (Am (Dq Y 1):Int32)))
def Xt(a:Int)(k:Int32)(b:Int)(f m:LX):Bbv:=(sQ a f).bind λ(g,n,o,h)=>if((Bb h 0)||(Bb g b))then
some 8
else
some 0
def eT:Bcd:=if(geq c 8)then
some (4,0)
else
if(geq c 16)then
if(geq c 16)then
some (5,0)
else
some (0,2)
else
if(geq c 24)then
some (5,0)
else
some (0,2)
def cN:Bea:=(Es (Fu c 0)).bind λ_=>(Es (Fu c 0)).bind λ_=>some (Am (I' (Ag (Fc (Am P:Int) (GI.toZ c).toNat) (Am P:Int)) (GI.toZ c).toNat):Int32)
def Xv:Option (Int32×Int):=(eT c).bind λ(z,d)=>if(Bb d 0)then
some (0,d)
else(cN z P).bind λe=>some (e,0)
def CZ(a:Int)(b f:LX):Bbv:=if((Bb a 9)&&(Bb a 10))then
some 8
else
some 0
abbrev Pf:=Option (Int32×Int)
def Ajg(h:Int32)(a:Int)(b f:LX):Pf:=(Es (Fu a 0)).bind λ_=>some ((Da h (GI.toZ a).toNat),0)
def lP:=Ajg
def lV(j6:Int32->Int->LX->LX->Pf)(CD:Int32->Int->Pf)(b:LX)(a:Int)(f:LX)(h:Int32)(g:Int):Pf:=if(Bw g 16)then(Ae b g).bind λm=>(Ae f g).bind λ_=>(Ae f g).bind λn=>CD (Af h (Ch m n)) (Af g 1)
else
j6 h a b f
def EH:Nat->Int32->Int->Pf
|0,_,_=>none
|z+1,c,d=>lV lP (EH z) C B U c d
def Azz b a f:=EH b a f As
def lI(j4:LX->Int->LX->Int32->Int->Pf)(a:Int)(b f:LX):Pf:=(CZ a b f).bind λk=>if(Bb k 0)then
some (0,k)
else(Es (Fu (Ag a 1) 0)).bind λ_=>j4 b a f (Fc (1:Int32) (GI.toZ (Ag a 1)).toNat) 0
def XP:=lI Azz
def jD:Bea:=if(geq c 0)then
some 4
else
if(Bw c 4)then
some 2
else
some 1
abbrev Oi:=Option (Int×LX×LX×Int)
def A_:Oi:=some (c,C,U,0)
def lZ:=A_
def lW(j6:Int->LX->LX->Oi)(CD:Int->LX->Oi)(h:Int32)(f:LX)(g a:Int)(b:LX):Oi:=if(Bw a 16)then(Ae f a).bind λm=>if(geq m 0)then
CD (Af a 1) b
else
if((Bw m 0)==(Bw h 0))then(Ae b a).bind λ_=>(Ae b a).bind λo=>(jD a).bind λp=>(Ae b a).bind λ_=>(Mh b a (Af o p)).bind λu=>CD (Af a 1) u
else(Ae b a).bind λ_=>(Ae b a).bind λv=>(jD a).bind λw=>(Ae b a).bind λ_=>(Mh b a (Ag v w)).bind λy=>CD (Af a 1) y
else
j6 g b f
def DY:Nat->Int->LX->Oi
|0,_,_=>none
|z+1,c,d=>lW lZ (DY z) P y8 y9 c d
def Azo h f g:=DY h f g As
def mE(j4:Int32->LX->Int->Int->LX->Oi)(g:Int)(k f:LX)(h:Int32):Oi:=(CZ g k f).bind λn=>if(Bb n 0)then
some (0,(List.replicate 16 (0:Int32)),(List.replicate 16 (0:Int32)),n)
else
if(geq h 0)then
some (g,k,f,0)
else
j4 h f g 0 k
def pE:=mE Azo
abbrev iG:=Option (Int×LX×LX×Int)
def Aey:iG:=(Ae (Om y7 1 ((16:Int)-(1:Int)) (Ej y7 0 ((16:Int)-(0:Int)))) 0).bind λ_=>(Mh (Om y7 1 ((16:Int)-(1:Int)) (Ej y7 0 ((16:Int)-(0:Int)))) 0 P).bind λz=>some (Bal,y8,z,0)
def sL:=Aey
def XM(j2:Int32->Int->LX->LX->iG)(b:Int)(f a:LX)(g:Int32):iG:=(CZ b f a).bind λh=>if(Bb h 0)then
some (0,(List.replicate 16 (0:Int32)),(List.replicate 16 (0:Int32)),h)
else(
(jI 16 1 16).bind λ_=>(jI 16 0 16).bind λ_=>j2 g b f a)
def yN:=XM sL
def WY:Option (Int×LX×LX):=(pE c C U Bae).bind λ(z,d,e,i)=>(yN z d e P).bind λ(j,l,A,B)=>some (j,l,A)
abbrev Bde:=Option (Int32×Int×LX×LX×Int)
def tY:Bde:=(XP c C U).bind λ(z,d)=>if(Bb d 0)then
some (0,0,(List.replicate 16 (0:Int32)),(List.replicate 16 (0:Int32)),d)
else(WY c C U (Af P z) P).bind λ(e,i,j)=>some ((Af P z),e,i,j,0)
abbrev Bc4:=Option (Int32×Int×Int32×Int×LX×LX×Int)
def Lb:Bc4:=(Xt c P Bal y8 y7).bind λz=>if(Bb z 0)then
some (0,0,0,0,(List.replicate 16 (0:Int32)),(List.replicate 16 (0:Int32)),z)
else(Xv c P).bind λ(d,e)=>(tY Bal y8 y7 Bae).bind λ(i,j,l,A,B)=>(
some ((Af i d),c,(Af i d),j,l,A,B))
def jN:Bbv:=if((Bw c 1)||(Dr c 6))then
some 2
else
if(Dr (Aa C) 4000)then
some 4
else(Es (Bb c 0)).bind λ_=>if(Bb (Jb (Aa C) c) 0)then
some 2
else
some 0
def Ci:Bdz:=(
(Ay ([]:LX) C).bind λz=>some z)
abbrev Ew:=Option (LX×Int)
def Al1:Ew:=some (C,0)
def qX:=Al1
abbrev Bdn:=Int->LX->Ew
def Aye(Od:Bdn)(b a:Int)(h:LX):Ew:=Od (Af a b) h
def sF Od:=Aye Od
def qF(j20:Bdn)(Awr:Bdn)(b a g:Int)(h:LX):Ew:=if(Fu g 0)then(Es (decide (0<= (Af g 1)/\ (Af g 1)<((Af a b)-a)))).bind λ_=>(Es (decide (0<=g/\g<((Af a b)-a)))).bind λ_=>(Ae h (a+(Af g 1))).bind λn=>(Ae h (a+g)).bind λo=>(Es (decide (0<=g/\g<((Af a b)-a)))).bind λ_=>(Mh h (a+g) (Ag n o)).bind λp=>Awr (Ag g 1) p
else
j20 a h
def HV(Od:Bdn)(b a:Int):Nat->Int->LX->Ew
|0,_,_=>none
|q+1,g,h=>qF (sF Od b) (HV Od b a q) b a g h
def qU Od b a:=HV Od b a As
def pI(j18:Int->Int->LX->Ew)(b a:Int)(u:LX):Ew:=j18 a (Ag (Ag ((Af a b)-a) 1) 1) u
def Ad4 Od b:=pI (qU Od b) b
def qL(j17:Bdn)(j22:LX->Ew)(b a:Int)(f:LX):Ew:=if(Bw a (Aa f))then(jI (Aa f) a (Af a b)).bind λ_=>if(Dr (Ag ((Af a b)-a) 1) 0)then(Es (decide (0<= (Ag ((Af a b)-a) 1)/\ (Ag ((Af a b)-a) 1)<((Af a b)-a)))).bind λ_=>Option.bind (Es (decide (0<= (Ag (Ag ((Af a b)-a) 1) 1)/\ (Ag (Ag ((Af a b)-a) 1) 1)<((Af a b)-a)))) λ_=>(Ae f (a+(Ag ((Af a b)-a) 1))).bind λv=>(Ae f (a+(Ag (Ag ((Af a b)-a) 1) 1))).bind λw=>(Es (decide (0<= (Ag ((Af a b)-a) 1)/\ (Ag ((Af a b)-a) 1)<((Af a b)-a)))).bind λ_=>(Mh f (a+(Ag ((Af a b)-a) 1)) (Af v (Ep w 2))).bind λy=>j17 a y
else
j17 a f
else
j22 f
def HR:Nat->Int->LX->Ew
|0,_,_=>none
|z+1,d,e=>qL (Ad4 (HR z) c) qX c d e
def Abr b:=HR b As
def B7(j12:Int->Int->LX->Ew)(b:Int)(k:LX):Ew:=(jN b k).bind λm=>if(Bb m 0)then
some (([]:LX),m)
else(Ci k).bind λaa=>j12 b 0 aa
def W7:=B7 Abr
def As5:Bbv:=some 0
def gF:=As5
abbrev Bco:=Int->Option Int
def cW(j6:Bbv)(CD:Bco)(b f:Int32)(a:LX)(g:Int):Bbv:=if(Bw g (Aa a))then(Ae a g).bind λh=>if((Bw h b)||(Dr h f))then
some 16
else
CD (Af g 1)
else
j6
def Zh:Nat->Int->Option Int
|0,_=>none
|z+1,c=>cW gF (Zh z) P Bae Ba7 c
def Adr b f a:=Zh b f a As
def gA(j4:Int32->Int32->LX->Int->Option Int)(m:Int)(a:LX):Bbv:=(FD m).bind λ(b,f,k)=>if(Bb k 0)then
some k
else
if(Dr (Aa a) 4000)then
some 4
else
j4 b f a 0
def Rn:=gA Adr
abbrev Cb:=Option (LX×Int)
def Amq:Cb:=(W7 c C).bind λ(z,e)=>if(Bb e 0)then
some (([]:LX),e)
else(Rn d z).bind λi=>if(Bb i 0)then
some (([]:LX),i)
else
some (z,0)
def GL:=Amq
abbrev Bb6:=List (Int×Int32×(Int×LX×LX×Unit)×Unit)
def Ap0(RS:Int-> (List (Int×Int32×(Int×LX×LX×Unit)×Unit))->LX->Cb)(a:Int)(f:LU)(b g:Int)(y:Int32)(v:Int)(h:Bb6)(k:LX)(aa:Int)(w:Int32)(ab:Int)(ac ad:LX):Cb:=if(Bb v 0)then
some (([]:LX),v)
else(Mh h (Jb g a) (aa,w,(ab,ac,ad,()),())).bind λai=>(Ay k ([y]:LX)).bind λaj=>RS (Af g 1) ai aj
def GR RS:=Ap0 RS
def Ub(j16:Int->Int32->Int-> (List (Int×Int32×(Int×LX×LX×Unit)×Unit))->LX->Int->Int32->Int->LX->LX->Cb)(j18:Int->Int->LX->Cb)(f:LU)(a b g:Int)(h:Bb6)(k:LX):Cb:=if(Bw g (Aa f))then(Ae f g).bind λag=>(Es (Bb a 0)).bind λ_=>(Ae h (Jb g a)).bind λ_=>(
(Ae h (Jb g a)).bind λm=>(
(Ye ag).bind λae=>(
(Lb m.1 m.2.1 m.2.2.1.1 m.2.2.1.2.1 m.2.2.1.2.2.1 ae).bind λ(y,aa,w,ab,ac,ad,v)=>j16 g y v h k aa w ab ac ad)))
else
j18 a b k
def Mx:Nat->Int-> (List (Int×Int32×(Int×LX×LX×Unit)×Unit))->LX->Cb
|0,_,_,_=>none
|z+1,c,d,e=>Ub (GR (Mx z) Bam l8 Ban) GL l8 Bam Ban c d e
def HC f a b:=Mx f a b As
def GV(j13:LU->Jz3 ( (List (Int×Int32×(Int×LX×LX×Unit)×Unit))->LX->Cb))(f:LU)(a b:Int)(n:Bb6):Cb:=j13 f a b 0 n ([]:LX)
def Aq6:=GV HC
def GZ(j12:LU->Int->Int-> (List (Int×Int32×(Int×LX×LX×Unit)×Unit))->Cb)(RT:Int-> (List (Int×Int32×(Int×LX×LX×Unit)×Unit))->Cb)(f:LU)(a b:Int)(o:LX)(p:Int)(n:Bb6):Cb:=if(Bw p 6)then(jX b o).bind λ(ak,af,ae,al,am,w)=>(Ae n p).bind λ_=>(Mh n p (ak,af,(ae,al,am,()),())).bind λan=>RT (Af p 1) an
else
j12 f a b n
def Mz:Nat->Int-> (List (Int×Int32×(Int×LX×LX×Unit)×Unit))->Cb
|0,_,_=>none
|z+1,c,d=>GZ Aq6 (Mz z) l8 Bam Ban Ba7 c d
def GU f a b o:=Mz f a b o As
def Wv(j10:LU->Int->Int->LX->Int-> (List (Int×Int32×(Int×LX×LX×Unit)×Unit))->Cb)(a b:Int)(o:LX)(f:LU):Cb:=j10 f a b o 0 (List.replicate 6 ((0:Int),(0:Int32),((0:Int),(List.replicate 16 (0:Int32)),(List.replicate 16 (0:Int32)),()),()))
def Vz:=Wv GU
def Kq:Bdv:=(Mq c d).bind λz=>if(Bb z 0)then
some (([]:LX),z)
else
if(Bw B 1)then
some (([]:LX),2)
else(Es (Bb c 0)).bind λ_=>if(Dr B (Ep 4000 c))then
some (([]:LX),2)
else(KC R).bind λ(e,i)=>if(Bb i 0)then
some (([]:LX),i)
else(X? e).bind λ(j,l,A)=>if(Bb A 0)then
some (([]:LX),A)
else(AF c B j l).bind λ(D,E,F)=>if(Bb F 0)then
some (([]:LX),F)
else
if(Fu (Ag l E) 8)then
some (([]:LX),12)
else(EY j l E (Ag l E)).bind λ(G,I)=>if((Bb I 0)||(Bb G 0))then
some (([]:LX),12)
else(Vz c d C D).bind λ(J,L)=>some (J,L)
abbrev oT:=Option (Int×Int)
def yt:oT:=(Bi z (Ag (Aa z) 32) (Aa z)).bind λc=>(SJ c 0).bind λ(d,e,i)=>if i then
if(Bw (Ag (Aa z) 32) d)then
some (0,24)
else
some ((Af d 32),0)
else(Bi z (Ag (Aa z) 32) (Aa z)).bind λj=>(SJ j 2147483648).bind λ(l,A,B)=>if(!B)then
some (0,12)
else
if(Bw (Aa z) (Af l 64))then
some (0,24)
else(Bi z (Ag (Aa z) (Af l 64)) (Af (Ag (Aa z) (Af l 64)) 32)).bind λC=>(jF l A 2684354560).bind λD=>(Mg C D).bind λE=>if(!E)then
some (0,12)
else
some ((Af l 64),0)
def yX:=yt
def yO(j2:LB->oT)(a:LB):oT:=if(Bw (Ag (Aa a) 32) 0)then
some (0,6)
else(Bi a (Ag (Aa a) 32) (Aa a)).bind λv=>(Ma v ([(65:UInt8),(80:UInt8),(69:UInt8),(84:UInt8),(65:UInt8),(71:UInt8),(69:UInt8),(88:UInt8)]:LB)).bind λw=>if(!w)then
some (0,6)
else
j2 a
def T8:=yO yX
abbrev Eu:=Option (Int×Int)
def Ayn:Eu:=some (c,0)
def VH:=Ayn
abbrev Bee:=Int->LB->Eu
def Aza(bk8:Bee)(a:Int)(g:LB):Eu:=bk8 (Af a 1) g
def Az9 bk8:=Aza bk8
def Az6(j12:Bee)(a f:Int)(b:LB):Eu:=if(geq f 0)then
some (0,38)
else(Bi b 0 (Ag (Aa b) f)).bind λg=>j12 a g
def SR bk8:=Az6 (Az9 bk8)
def bO(j11:Int->Int->LB->Eu)(j14:Int->Eu)(a:Int)(b:LB):Eu:=if(Dr (Aa b) 0)then(T8 b).bind λ(f,k)=>j11 a f b
else
j14 a
def Vu:Nat->Int->LB->Eu
|0,_,_=>none
|q+1,a,b=>bO (SR (Vu q)) VH a b
def Abz:=Vu As
def bF(j8:Bee)(h:LB):Eu:=if(Dr (Aa h) 4000)then
some (0,38)
else
j8 0 h
def Te:=bF Abz
abbrev Br:=Option (Int×Int×Int×LX×Int)
def Adl:Br:=(Bi z c (Aa z)).bind λe=>(Te e).bind λ(i,l)=>if(Bb l 0)then
some (0,0,0,([]:LX),38)
else
some (d,j,D,C,0)
def eM:=Adl
def Afz(IA:Int->Int->LX->Br)(a:LB)(w:LI)(m f g h o p n b ab ae:Int)(ac:LX)(k:LI)(y aj ak aa:Int)(an ad:LX):Br:=if(Bb ak 0)then
some (0,0,0,([]:LX),ak)
else(Ay ad an).bind λau=>IA (Af y aj) (Af aa 1) au
def eF IA:=Afz IA
def gC(j24:Jz4 (LX->LX->Br))(j26:LB->Jz4 (LX->Br))(a:LB)(w:LI)(m f g h o p n b ab ae:Int)(ac:LX)(k:LI)(y aa:Int)(ad:LX):Br:=if(Bw aa (Aa w))then(Ae w aa).bind λ_=>(Ae w aa).bind λaj=>if(Bw (Aa a) (Af y aj))then
some (0,0,0,([]:LX),24)
else(Ae k aa).bind λ_=>(Bi a y (Af y aj)).bind λav=>(Ae k aa).bind λaw=>(Kq f g ac aw av).bind λ(an,ak)=>j24 y aj ak aa an ad
else
j26 a y f g h ad
def Zr:Nat->Int->Int->LX->Br
|0,_,_,_=>none
|e+1,i,l,B=>gC (eF (Zr e) z A c d j D F O Bac Baq Bas Bat C Bau) eM z A c d j D F O Bac Baq Bas Bat C Bau i l B
def eJ a w m f g h o p n b ab ae ac k:=Zr a w m f g h o p n b ab ae ac k As
def AL(j21:LB->LI->Jz10 (LX->LI->Int->Int->LX->Br))(a u:LB)(m f g h o p n b:Int)(k:LI)(ao ab ae:Int)(w:LI):Br:=if(Bb ao 0)then
some (0,0,0,([]:LX),ao)
else(Nz u).bind λ(ac,bc)=>j21 a w m f g h o p n b ab ae ac k ab 0 ([]:LX)
def Zs:=AL eJ
abbrev Bcb:=LB->LB->Jz8 (LI->Int->Int->Int->LI->Br)
def IX(j20:Bcb)(a u:LB)(v:LI)(m f g h o p n b af:Int)(k:LI):Br:=j20 a u m f g h o p n b k 0 (Af (Af b (Ch 4 (Aa v))) 4) af v
def dZ:=IX Zs
def eL(j19:LB->LB->LI->Jz9 (LI->Br))(lA:Int->Int->Br)(v:LI)(a u:LB)(m f g h o p n b:Int)(k:LI)(ag af:Int):Br:=if(Bw ag (Aa v))then(Ae v ag).bind λ_=>(Ae v ag).bind λax=>lA (Af ag 1) (Af af ax)
else
j19 a u v m f g h o p n b af k
def Yz:Nat->Int->Int->Br
|0,_,_=>none
|z+1,c,d=>eL dZ (Yz z) A i o9 B X l6 Bag Bah Bai I o7 Ba2 c d
def Ade v a u m f g h o p n b k:=Yz v a u m f g h o p n b k As
def dB(j20:Bcb)(j17:LI->LB->LB->Jz8 (LI->Int->Int->Br))(al:Int)(a u:LB)(m f g h o p n b ah ai:Int)(v k:LI):Br:=if(Bb al 0)then
j20 a u m f g h o p n b k al ah ai ([]:LI)
else
j17 v a u m f g h o p n b k 0 (Af (Af b (Ch 4 (Aa v))) 4)
def Ad2:=dB Zs Ade
def fJ(j20:Bcb)(j16:Int->LB->LB->Jz10 (LI->LI->Br))(a u:LB)(m f g h o p n b ah ai:Int)(k:LI):Br:=if(Bw (Aa a) b)then
j20 a u m f g h o p n b k 24 ah ai ([]:LI)
else(Bi a b (Aa a)).bind λay=>(Ws ay (Aa k)).bind λ(v,al)=>j16 al a u m f g h o p n b ah ai v k
def Amo:=fJ Zs Ad2
def fN(j15:LB->LB->Jz10 (LI->Br))(a u:LB)(m f g h o p n b ah ai:Int)(k:LI)(am:Int):Br:=if(Bb am 0)then
some (0,0,0,([]:LX),am)
else
j15 a u m f g h o p n b ah ai k
def JC:=fN Amo
def lF(j14:LB->LB->Jz10 (LI->Int->Br))(a u:LB):Br:=if(Dr (Aa u) 64)then
some (0,0,0,([]:LX),2)
else(MT a).bind λ(m,f,g,h,o,p,n,b,ah,ai,k,ap)=>if(Bb ap 0)then
some (0,0,0,([]:LX),ap)
else
if((u==([]:LB)) !=(geq m 1))then
j14 a u m f g h o p n b ah ai k 26
else
if(geq m 1)then
j14 a u m f g h o p n b ah ai k 0
else
if(Bw (Aa a) b)then
j14 a u m f g h o p n b ah ai k 24
else(Bi a n b).bind λaz=>(Tn az u).bind λ(ba,bd)=>if(!ba)then
j14 a u m f g h o p n b ah ai k 26
else
j14 a u m f g h o p n b ah ai k 0
def XY:=lF JC
def OM:Bbv:=(XY z e).bind λ(c,d,i,j,l)=>some l
def YX(a n:LB)(b:Int):Option UInt8:=if(Dr (Aa a) 100000)then
some 0
else(Gj a).bind λ(f,g)=>if(Bb g 0)then
some 1
else(Bi a f (Aa a)).bind λh=>(Ke h).bind λ(k,o,p,u,v,m)=>if(Bb m 0)then
some 2
else
if(geq b 26)then
if(geq b 26)then
some 3
else
some 4
else
if((geq k 2)&&(Bw (Ag (Aa a) f) 30))then
some 3
else
some 4
abbrev Gc:=Option (LI×Int)
def Asq:Gc:=some (A,0)
def NB:=Asq
def TS(bk6:Int->Int->LI->Gc)(a:LI)(b g h:Int)(k:LI):Gc:=bk6 (Af b 1) (Af g h) k
def DB bk6:=TS bk6
def SM(j8:Jz3 (LI->Gc))(j10:LI->Gc)(a:LI)(b g:Int)(f:LI):Gc:=if(Bw b (Aa a))then(Ae a b).bind λh=>(Ay f ([(Af g h)]:LI)).bind λk=>j8 b g h k
else
j10 f
def Tt:Nat->Int->Int->LI->Gc
|0,_,_,_=>none
|z+1,c,d,e=>SM (DB (Tt z) A) NB A c d e
def Az7 a:=Tt a As
def TL(j6:LI->Int->Int->LI->Gc)(a:LI):Gc:=(Se a).bind λm=>if(Bb m 0)then
some (([]:LI),m)
else
j6 a 0 0 ([(0:Int)]:LI)
def EM:=TL Az7
abbrev Cw:=Option (LB×Int)
def Aaw:Cw:=some (z,0)
def bS:=Aaw
abbrev Bd0:=Int->LB->Cw
def Acb(Fl:Bd0)(b:Int)(a:LX)(f:Int)(h:LB):Cw:=Fl (Af f 1) h
def aV Fl:=Acb Fl
def aD(j28:Bd0)(Aws:Bd0)(b:Int)(a:LX)(k:Int32)(f m:Int)(h:LB):Cw:=if(Bw m (Ep b 8))then(Es (Fu (Ch 8 m) 0)).bind λ_=>(Ay h ([(Am (Da k (GI.toZ (Ch 8 m)).toNat):UInt8)]:LB)).bind λp=>Aws (Af m 1) p
else
j28 f h
def Wf(Fl:Bd0)(b:Int)(a:LX)(k:Int32)(f:Int):Nat->Int->LB->Cw
|0,_,_=>none
|q+1,m,h=>aD (aV Fl b a) (Wf Fl b a k f q) b a k f m h
def bW Fl b a k f:=Wf Fl b a k f As
def ZA(j26:Int32->Int->Int->LB->Cw)(b:Int)(a:LX)(f:Int)(g:LB)(k:Int32):Cw:=j26 k f 0 g
def Aca Fl b a:=ZA (bW Fl b a) b a
def bI(j25:Int->LB->Int32->Cw)(j30:LB->Cw)(b:Int)(a:LX)(f:Int)(g:LB):Cw:=if(Bw f (Aa a))then(Ae a f).bind λn=>if(geq b 8)then
j25 f g (Af n 128)
else
j25 f g n
else
j30 g
def Wg:Nat->Int->LB->Cw
|0,_,_=>none
|z+1,d,e=>bI (Aca (Wg z) c C) bS c C d e
def Ac0 b a:=Wg b a As
def gD(j16:Int->LX->Int->LB->Cw)(b:Int)(a:LX):Cw:=(Rn b a).bind λo=>if(Bb o 0)then
some (([]:LB),o)
else
j16 b a 0 ([]:LB)
def Ki:=gD Ac0
abbrev Eb:=Option (LB×Int)
def Aan:Eb:=if(Bb d 0)then
some (([]:LB),d)
else
if((Bw c 0)||(Fu c 0))then
some (([]:LB),2)
else
none
def aY:=Aan
def Axk:Eb:=some (i,c)
def RU:=Axk
def Acs(j10:Int->LB->Eb)(w a m g:Int)(aa:LX)(n o p h:Int)(k:LB)(u:LX)(v b f:LI):Eb:=if(Bb w 0)then
j10 w ([]:LB)
else(Ki g aa).bind λ(ak,al)=>j10 al ak
def ZS:=Acs RU
def Aco(j10:Int->LB->Eb)(j9:Jz4 (LX->Int->Int->Int->Int->LB->LX->LI->LI->LI->Eb))(a h ab y:Int)(k:LB)(m g:Int)(u:LX)(n o p:Int)(f v b:LI):Eb:=if(Dr (Af h y) (Aa k))then
j10 24 ([]:LB)
else(Ae f a).bind λ_=>(Bi k (Af h ab) (Af h y)).bind λam=>(Ae f a).bind λan=>(Kq m g u an am).bind λ(aa,w)=>j9 w a m g aa n o p h k u v b f
def Acd:=Aco RU ZS
def Aat(j8:Jz4 (LB->Int->Int->LX->Int->Int->Int->LI->LI->LI->Eb))(a:Int)(f:LI)(n m g o p h:Int)(k:LB)(u:LX)(v b:LI):Eb:=if(Bb (0:Int) (0:Int))then
some (([]:LB),0)
else
if((Bw a 0)||(Fu a (Aa f)))then
some (([]:LB),2)
else(Ae b a).bind λ_=>(Ae b (Af a 1)).bind λ_=>(Ae b a).bind λab=>(Ae b (Af a 1)).bind λy=>j8 a h ab y k m g u n o p f v b
def ZP:=Aat Acd
def Abm(j6:Int->Int->Eb)(j7:Int->LI->Jz6 (LB->LX->LI->LI->Eb))(k ad:LB)(a:Int):Eb:=(Gp k ad).bind λ(n,m,g,o,p,h,v,ae)=>if(Bb ae 0)then
j6 a ae
else(Bn n m g o p).bind λ(f,af)=>if(Bb af 0)then
j6 a af
else(EM v).bind λ(b,ag)=>if(Bb ag 0)then
j6 a ag
else(Nz ad).bind λ(u,ah)=>if(Bb ah 0)then
j6 a ah
else(Ae b (Aa f)).bind λ_=>(Ae b (Aa f)).bind λao=>j7 a f n m g o p h k u v b
def Pa:=Abm aY ZP
abbrev Mn:=Option (Int×Int)
def As3(n f a b g h:Int):Mn:=some ((Ep (Ch (Ch n a) b) 8),0)
def fT:=As3
def fQ(j6:Jz6 Mn)(CD:Int->Int->Mn)(m f a b g h:Int)(k:LI)(n o:Int):Mn:=if(Bw o m)then(Ae k o).bind λ_=>(Ae k o).bind λp=>CD (Af n p) (Af o 1)
else
j6 n f a b g h
def AK:Nat->Int->Int->Mn
|0,_,_=>none
|z+1,e,i=>fQ fT (AK z) c d j D F O J e i
def Ad3 m f a b g h k:=AK m f a b g h k As
def fR(j4:Jz6 (LI->Int->Int->Mn))(f a b g h m:Int):Mn:=(Bn f a b g h).bind λ(k,u)=>if((Bb u 0)||(Dr m (Aa k)))then
some (0,8)
else
j4 m f a b g h k 0 0
def OO:=fR Ad3
abbrev Iq:=Option (Int×UInt8×Int×Int×Int)
def Aqq(b f g h k m o:Int)(a:LI)(y:Int)(aa:UInt8)(ab:Int):Iq:=(OO f g h k m y).bind λ(ac,ad)=>some (b,aa,ab,ac,ad)
def KJ:=Aqq
def dT(j8:Jz7 (LI->Int->UInt8->Int->Iq))(bk6:Int->Iq)(p n:LB)(a:LI)(b:Int)(u:UInt8)(f g h k m o v:Int):Iq:=if(Bw v (Aa a))then
if(geq b 0)then
j8 b f g h k m o a (Aa a) u 0
else(Pa p n v).bind λ(ag,ae)=>if(Bb ae 0)then
j8 b f g h k m o a v 5 v
else
bk6 (Af v 1)
else
j8 b f g h k m o a (Aa a) u 0
def BT:Nat->Int->Iq
|0,_=>none
|d+1,i=>dT KJ (BT d) z e A c L M V Bbg Bbh Bbi Bbj i
def Atp p n a b u f g h k m o:=BT p n a b u f g h k m o As
def AJ(j6:LB->LB->LI->Int->UInt8->Jz7 Iq)(p n:LB)(b f g h k m o:Int)(a:LI)(u:UInt8):Iq:=j6 p n a b u f g h k m o 0
def KH:=AJ Atp
def gX(j5:LB->LB->Jz7 (LI->UInt8->Iq))(p n:LB):Iq:=if(Dr (Aa n) 64)then
some (0,0,0,0,2)
else(OM p n).bind λb=>(Gp p n).bind λ(f,g,h,k,m,o,a,w)=>if(Bb w 0)then(YX p n w).bind λaf=>some (b,af,0,0,0)
else
if(Bb b 0)then
j5 p n b f g h k m o a 6
else
j5 p n b f g h k m o a 0
def EP:=gX KH
def rK:Option (Int×Int×Int×Int×Int×Int×LI×Int×UInt8×Int×Int×Int):=(Gp z e).bind λ(c,d,i,j,l,A,B,C)=>if(Bb C 0)then
some (0,0,0,0,0,0,([]:LI),0,0,0,0,C)
else(EP z e).bind λ(D,E,F,G,I)=>if(Bb I 0)then
some (0,0,0,0,0,0,([]:LI),0,0,0,0,I)
else
some (c,d,i,j,l,A,B,D,E,F,G,0)
def Ats:Bbv:=if Baw then
some 8
else
if(Bw c 0)then
if(Bw c 0)then
some 8
else
some 0
else
if(Dr c 99)then
if(Dr c 99)then
some 8
else
some 0
else
if(Dr L 6)then
if(Dr L 6)then
some 8
else
some 0
else
if(Bw M 0)then
if(Bw M 0)then
some 8
else
some 0
else
if(Fu M (Aa A))then
if(Fu M (Aa A))then
some 8
else
some 0
else
if(Bw V 0)then
if(Bw V 0)then
some 8
else
some 0
else
if(Dr V 12000)then
some 8
else
some 0
def Aqp:=Ats
def Ads(j4:LI->Int->UInt8->Int->Int->Bool->Option Int)(n o p u v k:Int)(m:LI)(a:Int)(h:UInt8)(b g:Int)(f:LI)(ab:Bool):Bbv:=if ab then
some 8
else
if(Bw k 22)then
j4 f a h b g (Bw k 22)
else
j4 f a h b g (Dr k 100000)
def Adi:=Ads Aqp
def Auq(j3:Jz6 (LI->Int->UInt8->Int->Int->LI->Bool->Option Int))(n o p u v k:Int)(m:LI)(a:Int)(h:UInt8)(b g:Int):Bbv:=(Bn n o p u v).bind λ(f,w)=>if(Bb w 0)then
j3 n o p u v k m a h b g f (Bb w 0)
else(Se m).bind λy=>if(Bb y 0)then
j3 n o p u v k m a h b g f (Bb y 0)
else
j3 n o p u v k m a h b g f (Bb (Aa f) (Aa m))
def PA:=Auq Adi
abbrev Aj:=Option (LB×Int)
def eQ:Aj:=(Ay z ([10]:LB)).bind λc=>(Es (decide (Aa c<=17179869184))).bind λ_=>some (c,0)
def MJ:=eQ
abbrev Bc5:=Int->LB->Aj
def dI(j50:LB->Aj)(Awt:Bc5)(a:Int)(b:UInt8)(f g w:Int)(v:LB):Aj:=if(Bw w (Aa ([a,(Am b:Int),f,g]:LI)))then(Ae ([a,(Am b:Int),f,g]:LI) w).bind λ_=>(Ae ([a,(Am b:Int),f,g]:LI) w).bind λbf=>(strconv_Itoa bf).bind λaq=>(Ay ([32]:LB) aq).bind λbg=>(Ay v bg).bind λbh=>Awt (Af w 1) bh
else
j50 v
def BO:Nat->Int->LB->Aj
|0,_,_=>none
|z+1,d,e=>dI MJ (BO z) c L M V d e
def cX a b f g:=BO a b f g As
def KM(j48:Int->UInt8->Jz3 (LB->Aj))(a:Int)(b:UInt8)(f g:Int)(y:LB):Aj:=(Ay y ([10,102,111,117,110,100]:LB)).bind λar=>j48 a b f g 0 ar
def iN:=KM cX
def gB(j47:Int->UInt8->Int->Int->LB->Aj)(Awu:Bc5)(h:LI)(a:Int)(b:UInt8)(f g ak:Int)(y:LB):Aj:=if(Bw ak (Aa h))then(Ae h ak).bind λbi=>(strconv_Itoa bi).bind λau=>(Ay ([32]:LB) au).bind λaq=>(Ay y aq).bind λbj=>Awu (Af ak 1) bj
else
j47 a b f g y
def Zo:Nat->Int->LB->Aj
|0,_,_=>none
|z+1,d,e=>gB iN (Zo z) A c L M V d e
def fH h a b f g:=Zo h a b f g As
def KA(j45:LI->Int->UInt8->Jz3 (LB->Aj))(k m n o p u:Int)(h:LI)(a:Int)(b:UInt8)(f g:Int)(aa:LB):Aj:=(Ay aa ([58]:LB)).bind λav=>j45 h a b f g 0 av
def fA:=KA fH
abbrev Bb4:=Jz6 (LI->Int->UInt8->Int->Int->LB->Aj)
def fY(j44:Bb4)(Awv:Bc5)(u k m n o p:Int)(h:LI)(a:Int)(b:UInt8)(f g ab:Int)(aa:LB):Aj:=if(Bw ab (Aa ([u]:LI)))then(Ae ([u]:LI) ab).bind λ_=>(Ae ([u]:LI) ab).bind λbk=>(strconv_Itoa bk).bind λaw=>(Ay ([32]:LB) aw).bind λau=>(Ay aa au).bind λbl=>Awv (Af ab 1) bl
else
j44 k m n o p u h a b f g aa
def Zi:Nat->Int->LB->Aj
|0,_,_=>none
|z+1,e,i=>fY fA (Zi z) c d j D F O J B L M V e i
def iI u k m n o p h a b f g:=Zi u k m n o p h a b f g As
abbrev Bb3:=Jz6 (LI->Int->UInt8->Int->Int->Int->LB->Aj)
def KO(j42:Bb3)(k m n o p u:Int)(h:LI)(a:Int)(b:UInt8)(f g:Int)(ac:LB):Aj:=(Ay ac ([10,102,114,97,109,101,115]:LB)).bind λax=>j42 u k m n o p h a b f g 0 ax
def fZ:=KO iI
def fD(j41:Bb4)(Aww:Bc5)(p k m n o u:Int)(h:LI)(a:Int)(b:UInt8)(f g ad:Int)(ac:LB):Aj:=if(Bw ad (Aa ([p]:LI)))then(Ae ([p]:LI) ad).bind λ_=>(Ae ([p]:LI) ad).bind λbm=>(strconv_Itoa bm).bind λay=>(Ay ([32]:LB) ay).bind λaw=>(Ay ac aw).bind λap=>Aww (Af ad 1) ap
else
j41 k m n o p u h a b f g ac
def BE:Nat->Int->LB->Aj
|0,_,_=>none
|z+1,e,i=>fD fZ (BE z) c d j D F O J B L M V e i
def gL p k m n o u h a b f g:=BE p k m n o u h a b f g As
def KP(j39:Bb3)(k m n o p u:Int)(h:LI)(a:Int)(b:UInt8)(f g:Int)(ae:LB):Aj:=(Ay ae ([32,99,111,117,110,116]:LB)).bind λaz=>j39 p k m n o u h a b f g 0 az
def hH:=KP gL
def eO(j38:Bb4)(Awx:Bc5)(o k m n p u:Int)(h:LI)(a:Int)(b:UInt8)(f g af:Int)(ae:LB):Aj:=if(Bw af (Aa ([o]:LI)))then(Ae ([o]:LI) af).bind λ_=>(Ae ([o]:LI) af).bind λbn=>(strconv_Itoa bn).bind λba=>(Ay ([32]:LB) ba).bind λay=>(Ay ae ay).bind λar=>Awx (Af af 1) ar
else
j38 k m n o p u h a b f g ae
def BB:Nat->Int->LB->Aj
|0,_,_=>none
|z+1,e,i=>eO hH (BB z) c d j D F O J B L M V e i
def iC o k m n p u h a b f g:=BB o k m n p u h a b f g As
def JY(j36:Bb3)(k m n o p u:Int)(h:LI)(a:Int)(b:UInt8)(f g:Int)(ag:LB):Aj:=(Ay ag ([32,114,97,116,101]:LB)).bind λbp=>j36 o k m n p u h a b f g 0 bp
def eW:=JY iC
def gR(j35:Bb4)(Awy:Bc5)(n k m o p u:Int)(h:LI)(a:Int)(b:UInt8)(f g ah:Int)(ag:LB):Aj:=if(Bw ah (Aa ([n]:LI)))then(Ae ([n]:LI) ah).bind λ_=>(Ae ([n]:LI) ah).bind λbq=>(strconv_Itoa bq).bind λbb=>(Ay ([32]:LB) bb).bind λba=>(Ay ag ba).bind λav=>Awy (Af ah 1) av
else
j35 k m n o p u h a b f g ag
def Yu:Nat->Int->LB->Aj
|0,_,_=>none
|z+1,e,i=>gR eW (Yu z) c d j D F O J B L M V e i
def fM n k m o p u h a b f g:=Yu n k m o p u h a b f g As
def LR(j33:Bb3)(k m n o p u:Int)(h:LI)(a:Int)(b:UInt8)(f g:Int)(ai:LB):Aj:=(Ay ai ([32,98,105,116,115]:LB)).bind λbr=>j33 n k m o p u h a b f g 0 br
def gE:=LR fM
def eZ(j32:Bb4)(Awz:Bc5)(m k n o p u:Int)(h:LI)(a:Int)(b:UInt8)(f g aj:Int)(ai:LB):Aj:=if(Bw aj (Aa ([m]:LI)))then(Ae ([m]:LI) aj).bind λ_=>(Ae ([m]:LI) aj).bind λbs=>(strconv_Itoa bs).bind λbc=>(Ay ([32]:LB) bc).bind λbb=>(Ay ai bb).bind λax=>Awz (Af aj 1) ax
else
j32 k m n o p u h a b f g ai
def Zg:Nat->Int->LB->Aj
|0,_,_=>none
|z+1,e,i=>eZ gE (Zg z) c d j D F O J B L M V e i
def iW m k n o p u h a b f g:=Zg m k n o p u h a b f g As
def KU(j30:Bb3)(k m n o p u:Int)(h:LI)(a:Int)(b:UInt8)(f g:Int)(al:LB):Aj:=(Ay al ([32,99,104,97,110,110,101,108,115]:LB)).bind λbt=>j30 m k n o p u h a b f g 0 bt
def eI:=KU iW
def cK(j29:Bb4)(Uk:Bc5)(k m n o p u:Int)(h:LI)(a:Int)(b:UInt8)(f g am:Int)(al:LB):Aj:=if(Bw am (Aa ([k]:LI)))then(Ae ([k]:LI) am).bind λ_=>(Ae ([k]:LI) am).bind λbu=>(strconv_Itoa bu).bind λbv=>(Ay ([32]:LB) bv).bind λbc=>(Ay al bc).bind λaz=>Uk (Af am 1) az
else
j29 k m n o p u h a b f g al
def AX:Nat->Int->LB->Aj
|0,_,_=>none
|z+1,e,i=>cK eI (AX z) c d j D F O J B L M V e i
def Ago k m n o p u h a b f g:=AX k m n o p u h a b f g As
def KL(j27:Bb3)(k m n o p u:Int)(h:LI)(a:Int)(b:UInt8)(f g:Int):Aj:=(Ay ([]:LB) ([102,111,114,109,97,116]:LB)).bind λbw=>j27 k m n o p u h a b f g 0 bw
def IS:=KL Ago
def QQ(j26:Jz6 (LI->Int->UInt8->Int->Int->Aj))(k m n o p u:Int)(h:LI)(a:Int)(b:UInt8)(f g:Int):Aj:=(PA k m n o p u h a b f g).bind λan=>if(Bb an 0)then
some (([]:LB),an)
else(
(
(
j26 k m n o p u h a b f g)))
def oX:=QQ IS
def Et:Bb1:=(Cy z e).bind λc=>if c then(Bi z 0 (Ag (Aa z) (Aa e))).bind λd=>some d
else
some z
def Ge:Bb1:=(Et z e).bind λc=>some c
def zP(s:LB):Option (Int32×Int):=none
def GN:Bb1:=(Bi z c (Aa z)).bind λd=>(Ay i d).bind λe=>(Es (decide (Aa e<=17179869184))).bind λ_=>some e
def Jn:=GN
abbrev Bds:=Int->Int->LB->Option (LB)
def JP(j12:Bdb)(bk8:Bds)(a g b:LB)(f h m:Int)(n:LB):Bb1:=if(Bw m f)then(Bi a h (Aa a)).bind λae=>(strings_Index ae g).bind λaa=>(Bi a h (Af h aa)).bind λaf=>(Ay n af).bind λag=>(Ay ag b).bind λah=>bk8 (Af (Af h aa) (Aa g)) (Af m 1) ah
else
j12 a h n
def Oo:Nat->Int->Int->LB->Option (LB)
|0,_,_,_=>none
|c+1,d,j,l=>JP Jn (Oo c) z e i B d j l
def As0 a g b f:=Oo a g b f As
def GX(j12:Bdb)(RT:Bds)(a b:LB)(f k o:Int)(p:LB):Bb1:=if(Bw o (Ag f 1))then(Bi a k (Aa a)).bind λv=>(zP v).bind λ(am,ab)=>(Bi a k (Af k ab)).bind λai=>(Ay p ai).bind λaj=>(Ay aj b).bind λak=>RT (Af k ab) (Af o 1) ak
else
j12 a k p
def Uf:Nat->Int->Int->LB->Option (LB)
|0,_,_,_=>none
|d+1,i,j,l=>GX Jn (Uf d) z e c i j l
def Ao5 a b f:=Uf a b f As
def Wz(j8:LB->LB->LB->Jz3 (LB->Option (LB)))(j10:LB->LB->Jz3 (LB->Option (LB)))(a g b:LB)(f:Int):Bb1:=Option.bind (Es (decide (0<= (Af (Aa a) (Ch f (Ag (Aa b) (Aa g))))/\ (Af (Aa a) (Ch f (Ag (Aa b) (Aa g))))<=281474976710656))) λ_=>if(Dr (Aa g) 0)then
j8 a g b f 0 0 ([]:LB)
else(Ay ([]:LB) b).bind λal=>j10 a b f 0 0 al
def JL:=Wz As0 Ao5
def IG(j7:LB->LB->LB->Int->Option (LB))(a g b:LB)(u:Int):Bb1:=if((g==b)||(geq u 0))then
some a
else(strings_Count a g).bind λw=>if(geq w 0)then
some a
else
if((Bw u 0)||(Bw w u))then
j7 a g b w
else
j7 a g b u
def FM:=IG JL
def Wq:Bb1:=(FM z e i (-1:Int)).bind λc=>some c
def Ay1:Bb1:=(Es (decide (Aa z<=17179869184))).bind λ_=>some z
def SW:=Ay1
def UI:Bb1:=if(Bw y9 (Aa Bax))then(Ae Bax y9).bind λz=>(Ay Baf o8).bind λc=>(Ay c z).bind λd=>Bak (Af y9 1) d
else
Baj Baf
def Sn:Nat->Int->LB->Option (LB)
|0,_,_=>none
|c+1,d,e=>UI SW (Sn c) z l d e
def UF a f:=Sn a f As
def QS(j14:LB-> (List LB)->Int->LB->Option (LB))(b:Bbw)(a:LB)(g:Int):Bb1:=(Es (decide (0<=g/\g<=281474976710656))).bind λ_=>(Ae b 0).bind λn=>(Ay ([]:LB) n).bind λv=>(Bi b 1 (Aa b)).bind λf=>j14 a f 0 v
def Axg:=QS UF
abbrev Bc3:=(List LB)->LB->Int->Option (LB)
abbrev Bd3:=Int->Int->Option (LB)
def RD(j13:Bc3)(MN:Bd3)(b:Bbw)(a:LB)(g m:Int):Bb1:=if(Bw m (Aa b))then(Ae b m).bind λn=>if(Dr (Aa n) (Ag 9223372036854775807 g))then
none
else
MN (Af g (Aa n)) (Af m 1)
else
j13 b a g
def Tm:Nat->Int->Int->Option (LB)
|0,_,_=>none
|z+1,c,d=>RD Axg (Tm z) l N c d
def Ayh b a:=Tm b a As
def DR(j11:(List LB)->LB->Int->Int->Option (LB))(b:Bbw)(a:LB)(w:Int):Bb1:=j11 b a w 0
def RM:=DR Ayh
def bG(j10:Bc3)(b:Bbw)(a:LB):Bb1:=j10 b a (Af 0 (Ch (Aa a) (Ag (Aa b) 1)))
def Acy:=bG RM
abbrev Bdq:=(List LB)->LB->Option (LB)
def aO(j9:Bdq)(j10:Bc3)(b:Bbw)(a:LB):Bb1:=if(geq (Aa b) 0)then
some ([]:LB)
else
if(geq (Aa b) 1)then(Ae b 0).bind λn=>some n
else
if(Dr (Aa a) 0)then(Es (Bb (Ag (Aa b) 1) 0)).bind λ_=>if(Fu (Aa a) (Ep 9223372036854775807 (Ag (Aa b) 1)))then
none
else
j9 b a
else
j10 b a 0
def HK:=aO Acy RM
def Aby:Bb1:=(HK l ([32]:LB)).bind λz=>some z
def ZM:=Aby
abbrev Bdm:=Int-> (List LB)->Option (LB)
def aG(j6:(List LB)->Option (LB))(CD:Bdm)(a:LI)(f:Int)(b:Bbw):Bb1:=if(Bw f (Aa a))then(Ae a f).bind λk=>(strconv_Itoa k).bind λm=>(Ay b ([m]:Bbw)).bind λn=>CD (Af f 1) n
else
j6 b
def Vt:Nat->Int-> (List LB)->Option (LB)
|0,_,_=>none
|z+1,c,d=>aG ZM (Vt z) A c d
def Abp a:=Vt a As
def ZI(j4:LI->Int-> (List LB)->Option (LB))(a:LI)(h:Int):Bb1:=if(Bb h 0)then(Ak h).bind λg=>some g
else
j4 a 0 ([]:Bbw)
def Ek:=ZI Abp
abbrev Bb7:=Option (LB×LB×Int×Int×Int×Int×Int×LI×Int×LB×Bool×Int×Int)
def Rt:Bb7:=if(Dr (Aa z) 64)then
some (([]:LB),([]:LB),0,0,0,0,0,([]:LI),0,([]:LB),false,0,2)
else
some (z,([]:LB),0,0,0,0,0,([]:LI),0,([]:LB),false,0,0)
def Kf:Bb1:=(
(Ay ([]:LB) z).bind λc=>some c)
def Gn:Bci:=(
(Ay ([]:LI) A).bind λz=>some z)
def Em:Option (LB×LB×Int×Int×Int×Int×Int×LI×Int×LB×Bool×Int):=(Kf e).bind λi=>(Kf R).bind λl=>(Gn J).bind λA=>some (z,i,c,d,j,D,F,A,B,l,E,I)
def Rm(a f g h k:Int)(b:LB):Bbv:=if((b==([]:LB)) !=(geq a 1))then
some 26
else
some 0
def Aah(y:Int)(o p:LB)(h b f k m:Int)(g:LI)(a:Int)(n:LB)(u:Bool)(v:Int):Bbx:=some (TH (Aa n) y)
def bE:=Aah
def ZR(j8:Int->LB->LB->Jz5 (LI->Int->LB->Bool->Int->Option Bool))(bk6:Int->Int->Option Bool)(w:LI)(o p:LB)(h b f k m:Int)(g:LI)(a:Int)(n:LB)(u:Bool)(v y aa:Int):Bbx:=if(Bw aa (Aa w))then(Ae w aa).bind λac=>bk6 (Af y (Ep (Ch (Ch ac b) f) 8)) (Af aa 1)
else
j8 y o p h b f k m g a n u v
def Vs:Nat->Int->Int->Option Bool
|0,_,_=>none
|z+1,c,d=>ZR bE (Vs z) A i o9 B X l6 Bag Bah Ba0 Bai R E I c d
def Acg w o p h b f k m g a n u v:=Vs w o p h b f k m g a n u v As
def bD(j6:LI->LB->LB->Jz5 (LI->Int->LB->Bool->Int->Int->Int->Option Bool))(o p:LB)(h b f k m:Int)(g:LI)(a:Int)(n:LB)(u:Bool)(v:Int)(ab:LI):Bbx:=if(geq (Aa g) 0)then
some ((geq a 0)&&(geq (Aa n) 0))
else(Se g).bind λad=>if((((Bb ad 0)||(Bb (Aa g) (Aa ab)))||(Bw a 0))||(Dr a (Aa ab)))then
some false
else(Bi ab 0 a).bind λw=>j6 w o p h b f k m g a n u v 0 0
def Ac9:=bD Acg
def bK(j5:LB->LB->Jz5 (LI->Int->LB->Bool->Int->LI->Option Bool))(o p:LB)(h b f k m:Int)(g:LI)(a:Int)(n:LB)(u:Bool)(v:Int):Bbx:=if((geq h 0)&&((geq b 0)&&((geq f 0)&&((geq k 0)&&((geq m 0)&&true)))))then
some (((geq (Aa g) 0)&&(geq a 0))&&(geq (Aa n) 0))
else(Bn h b f k m).bind λ(ab,ae)=>if(Bb ae 0)then
some false
else(Rm h b f k m o).bind λaf=>if(Bb af 0)then
some false
else
j5 o p h b f k m g a n u v ab
def HG:=bK Ac9
def Ap:Bdp:=some (false,c)
def Abc:Bbx:=some false
def aJ:=Abc
abbrev Bdf:=Int->Option Bool
def ZY(j6:Bbx)(CD:Bdf)(a:LB)(b:Int):Bbx:=if(Bw b 2)then(Ae ([([73,68,51]:LB),([65,80,69,84,65,71,69,88]:LB)]:Bbw) b).bind λf=>if(Bw (Aa a) (Aa f))then(Qv f a).bind λg=>if g then
some true
else
CD (Af b 1)
else
CD (Af b 1)
else
j6
def Vy:Nat->Int->Option Bool
|0,_=>none
|c+1,d=>ZY aJ (Vy c) z d
def aN a:=Vy a As
abbrev Bd5:=LB->Int->Option Bool
def FX(j4:Bd5)(a:LB):Bbx:=j4 a 0
def Pq:=FX aN
def DW(f a b g h:Int):Bcd:=some (a,b)
def Aj7:Bbv:=some (-1:Int)
def Ka:=Aj7
def Kh(j6:Bbv)(CD:Bco)(a:LI)(b f:Int):Bbv:=if(Bw f (Aa a))then(Ae a f).bind λg=>if(geq b g)then
some f
else
CD (Af f 1)
else
j6
def Dw:Nat->Int->Option Int
|0,_=>none
|z+1,d=>Kh Ka (Dw z) A c d
def Kj a b:=Dw a b As
def Fw(j4:Bdu)(a:LI)(b:Int):Bbv:=j4 a b 0
def Eo:=Fw Kj
def Fo:Bbx:=(Eo A c).bind λz=>some (Fu z 0)
def Qh:Bbx:=(Fo ([(4:Int),(12:Int),(16:Int),(22:Int),(24:Int),(26:Int),(38:Int)]:LI) c).bind λz=>some z
def Avk:Bbv:=if(!E)then
some 8
else
some 0
def Ha:=Avk
def OE:Bbv:=Z ((true==true)&&((geq (0:Int) (0:Int))&&true))
def AT:=OE Ha
def Asb:Bbv:=Z ((q8==true)&&((geq Bay 0)&&true))
def Qw:=Asb Ha
abbrev Bcj:=Bool->Int->Option Int
def Avq(j13:Bcj)(g ax:LB)(ay az ab ba af b:Int)(n:Bool)(o:Int)(f:LI)(k:LB):Bbv:=(Rm ay az ab ba af g).bind λdi=>(Ap di).bind λ(dj,ai)=>j13 dj ai
def Ze:=Avq Qw
def Atl:Bbv:=Z ((q8==true)&&((geq Bay 0)&&true))
def Mf:=Atl Ha
def At6(j25:Bcj)(g a:LB)(h p m u v b:Int)(n:Bool)(o:Int)(f:LI)(k:LB)(de:Int):Bbv:=(Bn h p m u v).bind λ(dm,be)=>if(Bb be 0)then(Ap be).bind λ(aj,bg)=>j25 aj bg
else(Bi a de (Aa a)).bind λdn=>(Ws dn (Aa dm)).bind λ(dp,ab)=>if(geq ab 24)then
j25 true 0
else
if(Bb ab 0)then(Ap ab).bind λ(dq,af)=>j25 dq af
else(Bi a (Af (Af de (Ch 4 (Aa dp))) 4) (Aa a)).bind λfc=>j25 false 0
def Rj:=At6 Mf
abbrev Bcl:=LB->LB->Jz6 (Bool->Int->LI->LB->Int->Option Int)
def Atd(j25:Bcj)(j24:Bcl)(bh:Bool)(bf:Int)(g a:LB)(h p m u v b:Int)(n:Bool)(o:Int)(f:LI)(k:LB):Bbv:=if(Bb bf 0)then(Ap bf).bind λ(dr,be)=>j25 dr be
else
if(!bh)then(Ap 26).bind λ(aj,bg)=>j25 aj bg
else
j24 g a h p m u v b n o f k 8
def Avb:=Atd Mf Rj
def Avh(j15:Bool->Int->LB->LB->Jz6 (Bool->Int->LI->LB->Option Int))(g a:LB)(h p m u v b:Int)(n:Bool)(o:Int)(f:LI)(k:LB):Bbv:=(Bi a 0 8).bind λds=>(Tn ds g).bind λ(bh,bf)=>j15 bh bf g a h p m u v b n o f k
def MZ:=Avh Avb
def At1:Bbv:=Z ((q8==true)&&((geq Bay 0)&&true))
def Me:=At1 Ha
def BI(j28:Bcj)(y ac:Int)(g a:LB)(h p m u v b:Int)(n:Bool)(o:Int)(ak:LX)(f:LI)(k:LB):Bbv:=if(Bb ac 0)then(Ap ac).bind λ(bi,bj)=>j28 bi bj
else(Ki m ak).bind λ(bk,bb)=>if(Bb bb 0)then(Ap bb).bind λ(bl,bm)=>j28 bl bm
else(Ay k bk).bind λdv=>(
(Bi a y (Aa a)).bind λdw=>j28 false 0)
def OY:=BI Me
def NW(j27:Int->Int->LB->LB->Jz6 (Bool->Int->LX->LI->LB->Option Int))(y:Int)(g a:LB)(h p m u v b:Int)(n:Bool)(o:Int)(bc:LX)(ag f:LI)(k:LB):Bbv:=(Ae ag b).bind λ_=>(Bi a 0 y).bind λdx=>(Ae ag b).bind λdy=>(DW h p m u v).bind λ(dz,bd)=>(Kq dz bd bc dy dx).bind λ(ak,ac)=>j27 y ac g a h p m u v b n o ak f k
def MX:=NW OY
abbrev Bcp:=LB->LB->Jz6 (Bool->Int->LI->LB->Option Int)
def DC(j13:Bcj)(j12:Bcp)(j25:Bcj)(j23:Bcp)(j24:Bcl)(j28:Bcj)(j26:Int->LB->LB->Jz6 (Bool->Int->LX->LI->LI->LB->Option Int))(j22:Bc2)(j21:Bbv)(al am:LB)(an ao ap aq ar:Int)(au:LI)(ad:Int)(ae:LB)(aa:Bool)(w:Int):Bbv:=if(Dr (Aa al) 64)then
some 8
else
if((geq w 0)&&(!aa))then(Em al am an ao ap aq ar au ad ae aa w).bind λ(g,a,h,p,m,u,v,f,b,k,n,o)=>(HG al am an ao ap aq ar au ad ae aa w).bind λbn=>if bn then
if(geq h 0)then(Gj a).bind λ(ah,av)=>if(geq av 24)then
j13 true 0
else
if(Bb av 0)then(Ap av).bind λ(bp,bq)=>j13 bp bq
else(Bi a ah (Aa a)).bind λbr=>(Pq br).bind λaj=>if aj then
j13 true 0
else(Bi a ah (Aa a)).bind λbs=>(Ke bs).bind λ(ay,az,ab,ba,af,aw)=>if(geq aw 24)then
j13 true 0
else
if(Bb aw 0)then(Ap aw).bind λ(bt,bu)=>j13 bt bu
else(
(Bi a (Af ah 22) (Aa a)).bind λax=>(
j12 g ax ay az ab ba af b n o f k))
else
if(geq (Aa f) 0)then
if(geq h 2)then
if(Bw (Aa a) 8)then
j25 true 0
else
j23 g a h p m u v b n o f k
else
j24 g a h p m u v b n o f k 0
else
if(Bw b (Aa f))then(Ae f b).bind λ_=>(Ae f b).bind λy=>if(Bw (Aa a) y)then
j28 true 0
else(Nz g).bind λ(bc,ai)=>if(Bb ai 0)then(Ap ai).bind λ(bv,bw)=>j28 bv bw
else(Bn h p m u v).bind λ(ag,bx)=>if((Bb bx 0)||(Fu b (Aa ag)))then(Ap 8).bind λ(bz,da)=>j28 bz da
else
j26 y g a h p m u v b n o bc ag f k
else
if(Dr (Aa a) 4000)then(Ap 38).bind λ(db,bd)=>j22 ((db==true)&&((geq bd 0)&&true))
else
j21
else
j22 false
else
if((geq (Aa am) 0)&&(geq (Aa au) 0))then
if((((geq an 0)&&((geq ao 0)&&((geq ap 0)&&((geq aq 0)&&((geq ar 0)&&true)))))&&(geq ad 0))&&(TH (Aa ae) 12000))then
if(geq w 0)then
j22 true
else
if(!aa)then(Qh w).bind λdc=>j22 dc
else
j22 false
else
j22 false
else
if((false&&(geq ad 0))&&(TH (Aa ae) 12000))then
if(geq w 0)then
j22 true
else
if(!aa)then(Qh w).bind λdd=>j22 dd
else
j22 false
else
j22 false
def Qi:=DC Qw Ze Mf MZ Rj Me MX Ha AT
def Qj:Bb7:=(Qi z e c d j D F J B R E I).bind λi=>if(Bb i 0)then
some (([]:LB),([]:LB),0,0,0,0,0,([]:LI),0,([]:LB),false,0,i)
else
if(Bb I 0)then(
(
(Em z e c d j D F J B R E I).bind λ(l,A,C,G,L,M,N,O,P,U,V,X)=>(
some (l,A,C,G,L,M,N,O,P,U,V,X,I))))
else
if E then(Em z e c d j D F J B R E I).bind λ(Y,Z,l5,l6,l7,l8,l9,o7,o8,o9,p8,p9)=>some (Y,Z,l5,l6,l7,l8,l9,o7,o8,o9,p8,p9,36)
else(Em z e c d j D F J B R E I).bind λ(q8,q9,w9,y5,y7,y8,y9,Bac,Bae,Baf,Bag,Bah)=>some (q8,q9,w9,y5,y7,y8,y9,Bac,Bae,Baf,Bag,Bah,0)
def HY(b g:LB)(h k m n o:Int)(p:LI)(u:Int)(f:LB)(v:Bool)(w a:Int):Bb7:=some (b,([]:LB),0,0,0,0,0,([]:LI),0,f,false,a,a)
abbrev Al:=Option (LB×LB×Int×Int×Int×Int×Int×LI×Int×LB×Bool×Int×Int)
abbrev Bcf:=LB->Jz6 (LI->LB->Al)
def Ax1(Pv:Bcf)(a:LB)(b:Bool)(f:Int)(av:LB)(aw ax ay az ba bb:Int)(dy:Bool)(dk:Int)(bc:LI)(bd:LB):Al:=if dy then(Em a av aw ax ay az ba bc bb bd b f).bind λ(dz,fa,fb,ap,be,ae,fc,fd,fe,ff,fg,af)=>some (dz,fa,fb,ap,be,ae,fc,fd,fe,ff,fg,af,0)
else
if(Bb dk 0)then(HY a av aw ax ay az ba bc bb bd b f dk).bind λ(fh,fi,fj,fk,fl,fm,fn,fo,fp,fq,fs,ft,fu)=>some (fh,fi,fj,fk,fl,fm,fn,fo,fp,fq,fs,ft,fu)
else
Pv av aw ax ay az ba bb bc bd
def Hy Pv:=Ax1 Pv
abbrev Bb8:=LB->Jz6 (Bool->Int->LI->LB->Al)
def VO(j71:Bb8)(a:LB)(b:Bool)(f:Int)(g:LB)(m o n p u h:Int)(k:LI)(v:LB):Al:=j71 g m o n p u h true 0 k v
def DF Pv a b f:=VO (Hy Pv a b f) a b f
def Aym(j71:Bb8)(a:LB)(b:Bool)(f h:Int)(k:LI)(v:LB)(fv:Bool)(fw:Int)(fx:LB)(fy fz ga gb gc:Int):Al:=j71 fx fy fz ga gb gc h fv fw k v
def Tl Pv a b f:=Aym (Hy Pv a b f) a b f
abbrev Bcw:=Int->LI->LB->Bool->Int->LB->Jz5 Al
def Az3(j62:Bcw)(a:LB)(b:Bool)(f:Int)(ag:LB)(ah ai y aj aa h:Int)(k:LI)(v:LB):Al:=(Rm ah ai y aj aa a).bind λgd=>(Ap gd).bind λ(ge,ak)=>j62 h k v ge ak ag ah ai y aj aa
def RE Pv a b f:=Az3 (Tl Pv a b f) a b f
def Ayl(j71:Bb8)(a:LB)(b:Bool)(f m o n p u h:Int)(v:LB)(bf:Bool)(bg:Int)(bh:LB)(bi:LI):Al:=j71 bh m o n p u h bf bg bi v
def Nt Pv a b f:=Ayl (Hy Pv a b f) a b f
abbrev Bch:=Jz6 (LB->Bool->Int->LB->LI->Al)
def DO(j75:Bch)(a:LB)(b:Bool)(f:Int)(g:LB)(m o n p u h:Int)(k:LI)(v:LB)(dl:Int):Al:=(Bn m o n p u).bind λ(gf,ar)=>if(Bb ar 0)then(Ap ar).bind λ(al,bj)=>j75 m o n p u h v al bj g k
else(Bi g dl (Aa g)).bind λgg=>(Ws gg (Aa gf)).bind λ(dm,y)=>if(geq y 24)then
j75 m o n p u h v true 0 g k
else
if(Bb y 0)then(Ap y).bind λ(gh,aa)=>j75 m o n p u h v gh aa g k
else(Bi g (Af (Af dl (Ch 4 (Aa dm))) 4) (Aa g)).bind λgi=>j75 m o n p u h v false 0 gi dm
def DN Pv a b f:=DO (Nt Pv a b f) a b f
abbrev Bc0:=LB->Jz6 (LI->LB->Int->Al)
def VD(j75:Bch)(j74:Bc0)(a:LB)(b:Bool)(f:Int)(bk:Bool)(au:Int)(g:LB)(m o n p u h:Int)(k:LI)(v:LB):Al:=if(Bb au 0)then(Ap au).bind λ(gj,ar)=>j75 m o n p u h v gj ar g k
else
if(!bk)then(Ap 26).bind λ(al,bj)=>j75 m o n p u h v al bj g k
else
j74 g m o n p u h k v 8
def Aw8 Pv a b f:=VD (Nt Pv a b f) (DN Pv a b f) a b f
def RH(j64:Bool->Int->LB->Jz6 (LI->LB->Al))(a:LB)(b:Bool)(f:Int)(g:LB)(m o n p u h:Int)(k:LI)(v:LB):Al:=(Bi g 0 8).bind λgk=>(Tn gk a).bind λ(bk,au)=>j64 bk au g m o n p u h k v
def Axh Pv a b f:=RH (Aw8 Pv a b f) a b f
def Ay6(j71:Bb8)(a:LB)(b:Bool)(f m o n p u:Int)(k:LI)(bl:Bool)(bm:Int)(bn:LB)(bp:Int)(bq:LB):Al:=j71 bn m o n p u bp bl bm k bq
def Tk Pv a b f:=Ay6 (Hy Pv a b f) a b f
abbrev Bcx:=Jz5 (LI->Bool->Int->LB->Int->LB->Al)
def CX(j78:Bcx)(a:LB)(b:Bool)(f w ab:Int)(g:LB)(m o n p u h:Int)(am:LX)(k:LI)(v:LB):Al:=if(Bb ab 0)then(Ap ab).bind λ(br,bs)=>j78 m o n p u k br bs g h v
else(Ki n am).bind λ(bt,af)=>if(Bb af 0)then(Ap af).bind λ(bu,bv)=>j78 m o n p u k bu bv g h v
else(Ay v bt).bind λbw=>(
(Bi g w (Aa g)).bind λbx=>j78 m o n p u k false 0 bx (Af h 1) bw)
def SU Pv a b f:=CX (Tk Pv a b f) a b f
def RG(j77:Int->Int->LB->Jz6 (LX->LI->LB->Al))(a:LB)(b:Bool)(f w:Int)(g:LB)(m o n p u h:Int)(aq:LX)(ac k:LI)(v:LB):Al:=(Ae ac h).bind λ_=>(Bi g 0 w).bind λgl=>(Ae ac h).bind λgm=>(DW m o n p u).bind λ(be,ae)=>(Kq be ae aq gm gl).bind λ(am,ab)=>j77 w ab g m o n p u h am k v
def Azi Pv a b f:=RG (SU Pv a b f) a b f
def CN(j62:Bcw)(j61:Bcf)(j75:Bch)(j73:Bcf)(j74:Bc0)(j78:Bcx)(j76:Int->LB->Jz6 (LX->LI->LI->LB->Al))(j71:Bb8)(j70:Bcf)(a:LB)(b:Bool)(f:Int)(g:LB)(m o n p u h:Int)(k:LI)(v:LB):Al:=if(geq m 0)then(Gj g).bind λ(ad,an)=>if(geq an 24)then
j62 h k v true 0 g m o n p u
else
if(Bb an 0)then(Ap an).bind λ(bz,da)=>j62 h k v bz da g m o n p u
else(Bi g ad (Aa g)).bind λdb=>(Pq db).bind λal=>if al then
j62 h k v true 0 g m o n p u
else(Bi g ad (Aa g)).bind λdc=>(Ke dc).bind λ(ah,ai,y,aj,aa,ao)=>if(geq ao 24)then
j62 h k v true 0 g m o n p u
else
if(Bb ao 0)then(Ap ao).bind λ(dd,de)=>j62 h k v dd de g m o n p u
else(
(Bi g (Af ad 22) (Aa g)).bind λag=>(
j61 ag ah ai y aj aa h k v))
else
if(geq (Aa k) 0)then
if(geq m 2)then
if(Bw (Aa g) 8)then
j75 m o n p u h v true 0 g k
else
j73 g m o n p u h k v
else
j74 g m o n p u h k v 0
else
if(Bw h (Aa k))then(Ae k h).bind λ_=>(Ae k h).bind λw=>if(Bw (Aa g) w)then
j78 m o n p u k true 0 g h v
else(Nz a).bind λ(aq,ak)=>if(Bb ak 0)then(Ap ak).bind λ(df,dg)=>j78 m o n p u k df dg g h v
else(Bn m o n p u).bind λ(ac,dh)=>if((Bb dh 0)||(Fu h (Aa ac)))then(Ap 8).bind λ(di,ap)=>j78 m o n p u k di ap g h v
else
j76 w g m o n p u h aq ac k v
else
if(Dr (Aa g) 4000)then(Ap 38).bind λ(dj,ae)=>j71 g m o n p u h dj ae k v
else
j70 g m o n p u h k v
def De:Nat->LB->Jz6 (LI->LB->Al)
|0,_,_,_,_,_,_,_,_,_=>none
|c+1,d,e,i,j,l,A,B,C,D=>CN (Tl (De c) z E I) (RE (De c) z E I) (Nt (De c) z E I) (Axh (De c) z E I) (DN (De c) z E I) (Tk (De c) z E I) (Azi (De c) z E I) (Hy (De c) z E I) (DF (De c) z E I) z E I d e i j l A B C D
def Ay8 a b f:=De a b f As
def bH(j37:LB->Bool->Int->LB->Jz6 (LI->LB->Al))(gn go:LB)(gp gq gr gs gt:Int)(gu:LI)(gv:Int)(gw:LB)(gx:Bool)(gy:Int)(gz:LB):Al:=(Qj gn go gp gq gr gs gt gu gv gw gx gy).bind λ(a,dn,dp,dq,dr,ds,dt,du,dv,dw,b,f,dx)=>if(Bb dx 0)then
some (a,dn,dp,dq,dr,ds,dt,du,dv,dw,b,f,dx)
else(Ay dn gz).bind λha=>j37 a b f ha dp dq dr ds dt dv du dw
def Hc:=bH Ay8
def JD(p a:LB)(g u v w y:Int)(b:LI)(h:Int)(aa:LB)(ab:Bool)(ac:Int):Bbv:=if(geq g 0)then(Gj a).bind λ(k,f)=>if(Bb f 0)then
some f
else(Bi a k (Aa a)).bind λm=>(Ke m).bind λ(ad,ae,af,ag,ah,n)=>some n
else
if((Bw h (Aa b))||(geq (Aa b) 0))then
some 24
else(Te a).bind λ(ai,o)=>some o
def Ky:Bb7:=(Qj z e c d j D F J B R E I).bind λ(i,l,A,C,G,L,M,N,O,P,U,V,X)=>if(Bb X 0)then
some (i,l,A,C,G,L,M,N,O,P,U,V,X)
else(JD i l A C G L M N O P U V).bind λY=>if(Bb Y 0)then(HY i l A C G L M N O P U V Y).bind λ(Z,l5,l6,l7,l8,l9,o7,o8,o9,p8,p9,q8,q9)=>some (Z,l5,l6,l7,l8,l9,o7,o8,o9,p8,p9,q8,q9)
else
some (i,([]:LB),0,0,0,0,0,([]:LI),0,P,true,0,0)
abbrev By:=Option (LX×Int)
def Auy:By:=some (C,0)
def NY:=Auy
abbrev Bd1:=Int->LX->By
def Ati(Fl:Bd1)(a:Int)(b:LB)(f:Int)(o:LX):By:=Fl (Af f (Ep a 8)) o
def Zv Fl:=Ati Fl
def Asd(j28:Bd1)(a:Int)(b:LB)(f:Int)(k:Int32)(g:LX):By:=(Es (Fu (Ag 32 a) 0)).bind λ_=>(Es (Fu (Ag 32 a) 0)).bind λ_=>(Ay g ([(Da (Fc k (GI.toZ (Ag 32 a)).toNat) (GI.toZ (Ag 32 a)).toNat)]:LX)).bind λp=>j28 f p
def NV Fl a b:=Asd (Zv Fl a b) a b
def NO(j27:Int->Int32->LX->By)(Aw0:Int32->Int->By)(a:Int)(b:LB)(f:Int)(g:LX)(k:Int32)(h:Int):By:=if(Bw h (Ep a 8))then(Ae b (Af f h)).bind λm=>(Es (Fu (Ch 8 h) 0)).bind λ_=>Aw0 (B? k (Fc (Am m:Int32) (GI.toZ (Ch 8 h)).toNat)) (Af h 1)
else
j27 f k g
def Rh(Fl:Bd1)(a:Int)(b:LB)(f:Int)(g:LX):Nat->Int32->Int->By
|0,_,_=>none
|q+1,k,h=>NO (NV Fl a b) (Rh Fl a b f g q) a b f g k h
def OL Fl a b f g:=Rh Fl a b f g As
def OT(j28:Bd1)(j25:Int->LX->Int32->Int->By)(j30:LX->By)(a:Int)(b:LB)(f:Int)(g:LX):By:=if(Bw f (Aa b))then
if(geq a 8)then(Ae b f).bind λm=>(Ay g ([(Ag (Am m:Int32) 128)]:LX)).bind λu=>j28 f u
else
j25 f g 0 0
else
j30 g
def Mj:Nat->Int->LX->By
|0,_,_=>none
|z+1,d,e=>OT (Zv (Mj z) c i) (OL (Mj z) c i) NY c i d e
def Avf a b:=Mj a b As
def TI(j16:Int->LB->Int->LX->By)(a:Int)(b:LB):By:=(FD a).bind λ(v,w,n)=>if(Bb n 0)then
some (([]:LX),n)
else(Es (Bb (Ep a 8) 0)).bind λ_=>if(Bb (Jb (Aa b) (Ep a 8)) 0)then
some (([]:LX),12)
else(Es (Bb (Ep a 8) 0)).bind λ_=>if(Dr (Ep (Aa b) (Ep a 8)) 4000)then
some (([]:LX),4)
else
j16 a b 0 ([]:LX)
def Qd:=TI Avf
def Rv:Option (Int×Int×Int×LX×Int):=(Rt e).bind λ(c,d,i,j,l,A,B,C,D,E,F,G,I)=>if(Bb I 0)then
some (0,0,0,([]:LX),I)
else(Hc c d i j l A B C D E F G z).bind λ(J,L,M,N,O,P,R,U,V,X,Y,Z,l5)=>if(Bb l5 0)then
some (0,0,0,([]:LX),l5)
else(Ky J L M N O P R U V X Y Z).bind λ(l6,l7,l8,l9,o7,o8,o9,p8,p9,q8,q9,w9,y5)=>if(Bb y5 0)then
some (0,0,0,([]:LX),y5)
else
if((geq M 0)&&((geq N 0)&&((geq O 0)&&((geq P 0)&&((geq R 0)&&true)))))then
some (0,0,0,([]:LX),24)
else(Qd O q8).bind λ(y7,y8)=>if(Bb y8 0)then
some (0,0,0,([]:LX),y8)
else
some (N,O,P,y7,0)
def Ar2:Bb1:=(Ek J c).bind λz=>some z
def KT:=Ar2
abbrev Bd6:=Int->LI->Option (LB)
def KN(j6:Bd6)(CD:Bd6)(a:Int)(b:LX)(g:Int)(f:LI):Bb1:=if(Bw g (Aa b))then(Ae b g).bind λk=>(Ay f ([(Am k:Int)]:LI)).bind λm=>CD (Af g 1) m
else
j6 a f
def Po:Nat->Int->LI->Option (LB)
|0,_,_=>none
|z+1,d,e=>KN KT (Po z) c C d e
def LO a b:=Po a b As
def Xc(j4:Int->LX->Int->LI->Option (LB))(n o p:Int)(b:LX)(a:Int):Bb1:=j4 a b 0 ([]:LI)
def Gb:=Xc LO
abbrev Cz:=Option (LI×Int)
def Ajm:Cz:=if(Bb c 0)then
some (([]:LI),c)
else
some (J,0)
def La:=Ajm
abbrev Bc7:=Int->LI->Cz
def fO(j26:Bc7)(a b:LB)(h k f m n o:Int)(p v:LI):Cz:=j26 0 v
def KK:=fO La
def Rk(Yq:Bc7)(a b:LB)(g:LI)(h k f m n o:Int)(p:LI)(u:Int)(y:LI):Cz:=Yq (Af u 1) y
def Sd Yq:=Rk Yq
def Rr(j26:Bc7)(j23:Bc7)(a b:LB)(g:LI)(h k f m n o:Int)(p:LI)(u:Int)(y:LI):Cz:=if(Bb (0:Int) (0:Int))then
j26 0 y
else
j23 u y
def Rz Yq a b g h k f m n o p:=Rr La (Sd Yq a b g h k f m n o p) a b g h k f m n o p
def JV(j22:Bc7)(a b:LB)(g:LI)(h k f m n o:Int)(p:LI)(u aa w:Int)(v:LI)(aj:LX):Cz:=if(!(geq w 0))then(Ay v ([u]:LI)).bind λag=>j22 u ag
else
j22 u v
def BN Yq a b g h k f m n o p:=JV (Rz Yq a b g h k f m n o p) a b g h k f m n o p
def fV(j26:Bc7)(j21:Jz3 (LI->LX->Cz))(j25:LB->LB->Jz6 (LI->LI->Cz))(a b:LB)(g:LI)(h k f m n o:Int)(p:LI)(u:Int)(v:LI):Cz:=if(Bw u (Aa g))then(Ae g u).bind λ_=>(Ae g u).bind λaa=>(Pa a b u).bind λ(ah,w)=>if(geq w 0)then(Qd f ah).bind λ(ai,ac)=>if(Bb ac 0)then
j26 ac v
else
j21 u aa w v ai
else
j21 u aa w v ([]:LX)
else
j25 a b h k f m n o p v
def Zt:Nat->Int->LI->Cz
|0,_,_=>none
|i+1,l,B=>fV La (BN (Zt i) z e A c d j D F O J) KK z e A c d j D F O J l B
def Af2 a b g h k f m n o p:=Zt a b g h k f m n o p As
def lG(j26:Bc7)(j14:LB->LB->LI->Jz6 (LI->Int->LI->Cz))(a b:LB):Cz:=(Gp a b).bind λ(h,k,f,m,n,o,p,ad)=>if(Bb ad 0)then
j26 ad ([]:LI)
else(Bn h k f m n).bind λ(g,ae)=>if(Bb ae 0)then
j26 ae ([]:LI)
else
j14 a b g h k f m n o p 0 ([]:LI)
def YK:=lG La Af2
def PK:Bbv:=(Mq c d).bind λz=>if(Bb z 0)then
some z
else
if(Bw j 1)then
some 2
else(Es (Bb c 0)).bind λ_=>if(Dr j (Ep 4000 c))then
some 2
else
some 0
def FR:Bdv:=(PK c d j).bind λz=>if(Bb z 0)then
some (([]:LX),z)
else(mkI (Ch j c) (0:Int32)).bind λe=>(Es (geq (Ch j c) (Ch j c))).bind λ_=>some (e,0)
abbrev Ax:=Option (Int×Int×Int×LX×LI×Int)
def BR:Ax:=if(Bb D 0)then
some (0,0,0,([]:LX),([]:LI),D)
else
if(geq (Aa C) 0)then
some (0,0,0,([]:LX),([]:LI),6)
else(
(
some (c,d,j,C,J,0)))
def Jf:=BR
abbrev Bcu:=Jz4 (LI->LX->Ax)
def BZ(j40:Bcu)(g h:LB)(m p u n v w y k a b f:Int)(aa ad:LI)(ac:LX):Ax:=j40 a b f 0 ad ac
def MV:=BZ Jf
def NP(IA:Int->LI->LX->Ax)(g h:LB)(o:LI)(m k a b f p u n v w y:Int)(aa:LI)(ab:Int)(am:LI)(an:LX):Ax:=IA (Af ab 1) am an
def Mk IA:=NP IA
def Rc(j40:Bcu)(j37:Int->LI->LX->Ax)(g h:LB)(o:LI)(m k a b f p u n v w y:Int)(aa:LI)(ab ao:Int)(am:LI)(an:LX):Ax:=if(Bb ao 0)then
j40 a b f ao am an
else
j37 ab am an
def Qy IA g h o m k a b f p u n v w y aa:=Rc Jf (Mk IA g h o m k a b f p u n v w y aa) g h o m k a b f p u n v w y aa
abbrev Bdj:=Int->Int->LI->LX->Ax
def NA(j36:Bdj)(g h:LB)(o:LI)(m a b f k p u n v w y:Int)(aa:LI)(ab af ae:Int)(ak aj ac:LX)(al:LI):Ax:=(Ay ac ak).bind λav=>j36 ab 0 al av
def Avr IA g h o m a b f k p u n v w y aa:=NA (Qy IA g h o m k a b f p u n v w y aa) g h o m a b f k p u n v w y aa
def NQ(j36:Bdj)(g h:LB)(o:LI)(m a b f k p u n v w y:Int)(aa:LI)(ab af ae:Int)(aj ac:LX)(aw:LI):Ax:=(Ay ac aj).bind λak=>j36 ab 0 aw ak
def Au6 IA g h o m a b f k p u n v w y aa:=NQ (Qy IA g h o m k a b f p u n v w y aa) g h o m a b f k p u n v w y aa
def NZ(j36:Bdj)(j34:Jz3 (LX->LX->LX->LI->Ax))(j35:Jz3 (LX->LX->LI->Ax))(g h:LB)(o:LI)(m k a b f p u n v w y:Int)(aa:LI)(ab af ae:Int)(ad:LI)(ac aj:LX):Ax:=if(!(geq ae 0))then(Ay ad ([ab]:LI)).bind λal=>if(geq k 2)then(FR a b af).bind λ(ak,ap)=>if(Bb ap 0)then
j36 ab ap al ac
else
j34 ab af ae ak aj ac al
else
j35 ab af ae aj ac al
else
j35 ab af ae aj ac ad
def Asc IA g h o m k a b f p u n v w y aa:=NZ (Qy IA g h o m k a b f p u n v w y aa) (Avr IA g h o m a b f k p u n v w y aa) (Au6 IA g h o m a b f k p u n v w y aa) g h o m k a b f p u n v w y aa
def OQ(j40:Bcu)(j33:Jz3 (LI->LX->LX->Ax))(j39:LB->LB->Jz11 (LI->LI->LX->Ax))(g h:LB)(o:LI)(m k a b f p u n v w y:Int)(aa:LI)(ab:Int)(ad:LI)(ac:LX):Ax:=if(Bw ab (Aa o))then(Ae o ab).bind λ_=>(Ae o ab).bind λaf=>(Pa g h ab).bind λ(ax,ae)=>if(geq ae 0)then(Qd n ax).bind λ(ay,aq)=>if(Bb aq 0)then
j40 a b f aq ad ac
else
j33 ab af ae ad ac ay
else
j33 ab af ae ad ac ([]:LX)
else
j39 g h m p u n v w y k a b f aa ad ac
def Re:Nat->Int->LI->LX->Ax
|0,_,_,_=>none
|i+1,l,B,C=>OQ Jf (Asc (Re i) z e A c d j D F O Bac Baq Bas Bat Bbc J) MV z e A c d j D F O Bac Baq Bas Bat Bbc J l B C
def Ave g h o m k a b f p u n v w y aa:=Re g h o m k a b f p u n v w y aa As
def TV(j40:Bcu)(j21:LB->LB->LI->Jz11 (LI->Int->LI->LX->Ax))(g h:LB)(k:Int):Ax:=if((Bw k 0)||(Dr k 2))then
some (0,0,0,([]:LX),([]:LI),2)
else
if(geq k 0)then(XY g h).bind λ(az,ba,bb,bc,bd)=>some (az,ba,bb,bc,([]:LI),bd)
else(Gp g h).bind λ(be,a,b,f,bf,bg,bh,m)=>if(Bb m 0)then
some (0,0,0,([]:LX),([]:LI),m)
else(Gp g h).bind λ(p,u,n,v,w,y,aa,ar)=>if(Bb ar 0)then
j40 a b f ar ([]:LI) ([]:LX)
else(Bn p u n v w).bind λ(o,au)=>if(Bb au 0)then
j40 a b f au ([]:LI) ([]:LX)
else
j21 g h o m k a b f p u n v w y aa 0 ([]:LI) ([]:LX)
def Qk:=TV Jf Ave
def nC(a b f:Int)(g:LX):Bcd:=some (a,b)
def vF:Bbv:=(nC c d j C).bind λ(z,e)=>(Mq z e).bind λi=>if((Bb i 0)||(Bw B 1))then
some 8
else(Es (Bb c 0)).bind λ_=>if(Dr B (Ep 4000 c))then
some 8
else(Kg j B).bind λ(l,A)=>if(Bb A 0)then
some 8
else
some 0
def XA:Bbv:=if(Bw c 1)then
some 8
else(Es (Bb c 0)).bind λ_=>if(Bb (Jb (Aa C) c) 0)then
some 8
else(Es (Bb c 0)).bind λ_=>(vF c d j C (Ep (Aa C) c)).bind λz=>if(Bb z 0)then
some z
else(Rn d C).bind λe=>if(Bb e 0)then
some 8
else
some 0
def MF:Bbv:=if((((Bw c 1)||(Dr c 6))||(Bw j 1))||(Dr j 1048576))then
some 8
else
if(geq d 8)then
if(geq d 8)then
some 0
else
some 8
else
if(geq d 16)then
if(geq d 16)then
some 0
else
some 8
else
if(geq d 24)then
some 0
else
some 8
def QC:Bdp:=(MF c d j).bind λz=>if(Bb z 0)then
some (false,z)
else
some (((Dr c 2)||(Dr d 16)),0)
def Azg:Bb1:=if E then(Bi ([(1:UInt8),(0:UInt8),(0:UInt8),(0:UInt8),(0:UInt8),(0:UInt8),(16:UInt8),(0:UInt8),(128:UInt8),(0:UInt8),(0:UInt8),(170:UInt8),(0:UInt8),(56:UInt8),(155:UInt8),(113:UInt8)]:LB) 0 16).bind λz=>(Ay l5 z).bind λc=>some c
else
some l5
def UM:=Azg
def QV(j8:Bool->LB->Option (LB))(bk6:Bd4)(a:Bool)(h:Int)(f:LQ)(g:Int)(b:LB):Bb1:=if(Bw g h)then(Ae f g).bind λ_=>(Ae f g).bind λv=>(Ae ([(2:Int),(2:Int),(4:Int),(4:Int),(2:Int),(2:Int),(2:Int),(2:Int),(4:Int)]:LI) g).bind λw=>(Mc v w).bind λ(y,ac)=>(Ay b y).bind λaa=>bk6 (Af g 1) aa
else
j8 a b
def Th:Nat->Int->LB->Option (LB)
|0,_,_=>none
|z+1,c,d=>QV UM (Th z) E I Ba8 c d
def Aw9 a h f:=Th a h f As
def Tp(j6:Bool->Int->LQ->Int->LB->Option (LB))(a:Bool)(h:Int)(f:LQ):Bb1:=j6 a h f 0 ([]:LB)
def DL:=Tp Aw9
def RF(j5:Bool->Int->LQ->Option (LB))(m k n:Int)(a:Bool)(o:UInt64):Bb1:=if a then(Ae ([(1:UInt64),(Am m:UInt64),(Am n:UInt64),(Ch (Am n:UInt64) (Am (Ep (Ch m k) 8):UInt64)),(Am (Ep (Ch m k) 8):UInt64),(Am k:UInt64),(22:UInt64),(Am k:UInt64),o]:LQ) 0).bind λ_=>(Mh ([(1:UInt64),(Am m:UInt64),(Am n:UInt64),(Ch (Am n:UInt64) (Am (Ep (Ch m k) 8):UInt64)),(Am (Ep (Ch m k) 8):UInt64),(Am k:UInt64),(22:UInt64),(Am k:UInt64),o]:LQ) 0 65534).bind λab=>j5 a 9 ab
else
j5 a 6 ([(1:UInt64),(Am m:UInt64),(Am n:UInt64),(Ch (Am n:UInt64) (Am (Ep (Ch m k) 8):UInt64)),(Am (Ep (Ch m k) 8):UInt64),(Am k:UInt64),(22:UInt64),(Am k:UInt64),o]:LQ)
def QI:=RF DL
def MG:Bck:=(QC c d j).bind λ(z,e)=>if(Bb e 0)then
some (([]:LB),e)
else(Es (Fu c 0)).bind λ_=>(QI c d j z (Ag (Fc (1:UInt64) (GI.toZ c).toNat) 1)).bind λi=>some (i,0)
def Ahe:Bbx:=some (geq (Aa z) 4)
def gS:=Ahe
def fK(j6:LB->Option Bool)(CD:Bdf)(a:LB)(b:Int):Bbx:=if(Bw b (Aa a))then(Ae a b).bind λ_=>(Ae a b).bind λf=>if((Bw f 32)||(Dr f 126))then
some false
else
CD (Af b 1)
else
j6 a
def BD:Nat->Int->Option Bool
|0,_=>none
|c+1,d=>fK gS (BD c) z d
def eD a:=BD a As
def LK(j4:Bd5)(a:LB):Bbx:=j4 a 0
def EV:=LK eD
def As7 (b:Int):Bbv:=some b
def rS:=As7
def sB(j6:Bco)(CD:Bdi)(a:Bcc)(b f:Int):Bbv:=if(Bw f (Aa a))then(Ae a f).bind λg=>CD (Af b (Af (Af 8 (Aa g.2.1)) (Dq (Aa g.2.1) 1))) (Af f 1)
else
j6 b
def HI:Nat->Int->Int->Option Int
|0,_,_=>none
|z+1,c,d=>sB rS (HI z) q9 c d
def qH a:=HI a As
def XQ(j4:(List (LB×LB×Unit))->Int->Int->Option Int)(a:Bcc):Bbv:=j4 a 4 0
def CR:=XQ qH
def HN(a f:LB):Bbx:=(EV a).bind λb=>some (!b)
def Afi:Bbv:=some 0
def Ax9:=Afi
def Amv:Bbv:=if Bba then
some 8
else
Ba9
def Rw:=Amv Ax9
def Afk:Bbv:=Z q8
def fI:=Afk Rw
def Ahg:Bbv:=Z (Fu (-1:Int) (0:Int))
def iM:=Ahg fI
def Amu(RX:Bco)(a:Bcc)(b:Int):Bbv:=RX (Af b 1)
def Aeb RX:=Amu RX
def Ax7(j26:Bc2)(j23:Bco)(a:Bcc)(b:Int)(g:Bool):Bbv:=if g then
j26 (Fu b 0)
else
j23 b
def iL RX a:=Ax7 fI (Aeb RX a) a
abbrev Bdg:=Int->Bool->Option Int
def gY(j22:Bdg)(j25:Bbv)(a:Bcc)(b:Int):Bbv:=if(Bw b (Aa a))then(Ae a b).bind λk=>(HN k.1 k.2.1).bind λg=>j22 b g
else
j25
def JW:Nat->Int->Option Int
|0,_=>none
|z+1,c=>gY (iL (JW z) q9) iM q9 c
def Agq a:=JW a As
def JU:Bbv:=Z q8
def AA:=JU Rw
def eA:Bbv:=Z (Fu (-1:Int) (0:Int))
def KV:=eA AA
def eU(Uk:Bco)(a:Bcc)(f:Int):Bbv:=Uk (Af f 1)
def dL Uk:=eU Uk
def eS(j34:Bc2)(j31:Bco)(a:Bcc)(f:Int)(h:Bool):Bbv:=if h then
j34 (Fu f 0)
else
j31 f
def LD Uk a:=eS AA (dL Uk a) a
def iE(j30:Bdg)(j33:Bbv)(a:Bcc)(f:Int):Bbv:=if(Bw f (Aa a))then(Ae a f).bind λm=>(HN m.1 m.2.1).bind λh=>j30 f h
else
j33
def AE:Nat->Int->Option Int
|0,_=>none
|z+1,c=>iE (LD (AE z) q9) KV q9 c
def Amr a:=AE a As
abbrev Bc8:=(List (LB×LB×Unit))->Int->Option Int
def DU(j35:Bc2)(j19:Bc8)(j27:Bc8)(u:LB)(a:Bcc):Bbv:=if(Dr (Aa a) 20)then
some 4
else(EV u).bind λv=>if(!v)then
if true then
j35 true
else
j19 a 0
else(CR a).bind λw=>if(Dr (Af w 8) 100000)then
j35 true
else
j27 a 0
def Rl:=DU Rw Agq Amr
def SF:Option LB:=(Mc (Am c:UInt64) 4).bind λ(d,_)=>(Ay z e).bind λi=>Ay i d
def EU:List (LB×LB×Unit)->LB->Option LB
|[],o=>some o
|c::l,o=>(SF o c.1 (Aa c.2.1)).bind λp=>(Ay p c.2.1).bind λu=>(mkI (Dq (Aa c.2.1) 1) (0:UInt8)).bind λz=>(Ay u z).bind λv=>EU l v
def LG:Bck:=(Rl z q9).bind λc=>if(Bb c 0)then
some (([]:LB),c)
else(CR q9).bind λd=>(SF [] [82,73,70,70] d).bind λe=>(Ay e z).bind λi=>(EU q9 i).bind λj=>some (j,0)
def xW:Bck:=(XA c d j C).bind λz=>if(Bb z 0)then
some (([]:LB),z)
else(MG c d j).bind λ(e,i)=>(Ki d C).bind λ(l,A)=>(LG ([87,65,86,69]:LB) ([(([102,109,116,32]:LB),e,()),(([100,97,116,97]:LB),l,())]:Bcc)).bind λ(B,D)=>some (B,D)
abbrev Hl:=Option (LB×Int)
def Az5:Hl:=some (i,c)
def DD:=Az5
abbrev Bef:=Int->LB->Hl
def VW(j6:Bef)(b:Int)(f:LB):Hl:=j6 b f
def UL:=VW DD
def RW(j6:Bef)(j5:Bef)(a g h k:Int)(m:LX):Hl:=if(Bb a 0)then
j6 a ([]:LB)
else(xW g h k m).bind λ(f,b)=>j5 b f
def UQ:=RW DD UL
def Ayq(j4:Jz4 (LX->Hl))(p u:LB):Hl:=(Rv p u).bind λ(g,h,k,m,a)=>j4 a g h k m
def EK:=Ayq UQ
def Ga:List LB->LB->Option (LB×Bool)
|[],a=>some (a,true)
|b::xs,a=>(Ae b 0).bind λh=>(Ae b 1).bind λk=>(Df ([48,49,50,51,52,53,54,55,56,57,97,98,99,100,101,102]:LB) h).bind λf=>(Df ([48,49,50,51,52,53,54,55,56,57,97,98,99,100,101,102]:LB) k).bind λg=>if((Bw f 0)||(Bw g 0))then
some (([]:LB),false)
else
Option.bind (Ay a ([(Am (B? (Fc f (GI.toZ (4:UInt64)).toNat) g):UInt8)]:LB)) λm=>Ga xs m
def Im:Option (LB×Bool):=if(Bb (Jb (Aa z) 2) 0)then
some (([]:LB),false)
else
if(Bw (2:Int) (1:Int))then
none
else(Y2 z).bind λc=>Ga c ([]:LB)
def Abu:Bb1:=some z
def Qx:=Abu
def Gs:Bb1:=if(Bw y9 (Aa Bax))then(Ae Bax y9).bind λz=>(Ay Baf z).bind λc=>Bak (Af y9 1) c
else
Baj Baf
def Dl:Nat->Int->LB->Option (LB)
|0,_,_=>none
|z+1,c,d=>Gs Qx (Dl z) l c d
def Jq a:=Dl a As
def Jt(j14:(List LB)->Int->LB->Option (LB))(a:Bbw)(p:LB):Bb1:=j14 a 0 p
def Jw:=Jt Jq
def Jy(j13:Bdq)(b:Int)(a:Bbw):Bb1:=if(Dr (Ag b (Ag (0:Int) (0:Int))) 0)then(jI 0 0 0).bind λ_=>(mkI (Ag b (Ag (0:Int) (0:Int))) (0:UInt8)).bind λu=>(Ay ([]:LB) u).bind λk=>(jI (Aa k) 0 0).bind λ_=>j13 a (Ej k 0 ((0:Int)-(0:Int)))
else
j13 a ([]:LB)
def Ri:=Jy Jw
def Ju(j12:Bdm)(a:Bbw)(b:Int):Bb1:=if(Bw b 0)then
none
else
j12 b a
def Gt:=Ju Ri
def Hb(j11:(List LB)->Int->Option (LB))(bk9:Bd3)(a:Bbw)(b h:Int):Bb1:=if(Bw h (Aa a))then(Ae a h).bind λm=>if(Bw (Af b (Aa m)) 0)then
none
else
bk9 (Af b (Aa m)) (Af h 1)
else
j11 a b
def Dt:Nat->Int->Int->Option (LB)
|0,_,_=>none
|z+1,c,d=>Hb Gt (Dt z) l c d
def Ac7 a:=Dt a As
def Sf(j9:(List LB)->Int->Int->Option (LB))(a:Bbw):Bb1:=j9 a 0 0
def Ce:=Sf Ac7
def Hg(s:LB):Option (Int×Bool):=if s.length<=281474976710656 then
  match Lib.atoiAll s with
  | .ok n=>Option.bind (strconv_Itoa n) λt=>some (n,t==s&&(Fu n (-999999999)&&TH n 999999999))
  | .range=>some (Lib.atoiSat s,false)
  |_=>some (0,false)
  else none
abbrev Jj:=Option ((List (UInt8×Int×Unit))×Bool)
def Axj:Jj:=some (l9,true)
def RZ:=Axj
def SE(j6:(List (UInt8×Int×Unit))->Jj)(CD:Int-> (List (UInt8×Int×Unit))->Jj)(a:Bbw)(f:Int)(b:Bb2):Jj:=if(Bw f (Aa a))then(Ae a f).bind λg=>if(g !=([101]:LB))then(Ae g 0).bind λm=>(Df ([32,102,100]:LB) m).bind λh=>(Bi g 1 (Aa g)).bind λn=>(Hg n).bind λ(k,o)=>if(((Bw h 1)||(!o))||(Bw k 0))then
some (([]:Bb2),false)
else(Ay b ([((Am h:UInt8),k,())]:Bb2)).bind λp=>CD (Af f 1) p
else(Ay b ([((3:UInt8),(0:Int),())]:Bb2)).bind λu=>CD (Af f 1) u
else
j6 b
def Ta:Nat->Int-> (List (UInt8×Int×Unit))->Jj
|0,_,_=>none
|z+1,c,d=>SE RZ (Ta z) l c d
def TM a:=Ta a As
def DJ(j4:(List LB)->Int-> (List (UInt8×Int×Unit))->Jj)(a:Bbw):Jj:=j4 a 0 ([]:Bb2)
def Ux:=DJ TM
def Abi:Bbx:=if Baw then
some ((Fu M 0)&&(TH M 100000))
else
if(geq L 3)then
some (geq M 0)
else
some false
def Abq:=Abi
def Aai(j2:UInt8->Int->Bool->Option Bool)(a:UInt8)(b:Int):Bbx:=if(geq a 1)then
j2 a b (geq a 1)
else
j2 a b (geq a 2)
def YA:=Aai Abq
def KD:Bbx:=(YA L M).bind λz=>some (!z)
def RQ:Bbv:=some 0
def UE:=RQ
def Ayt:Bbv:=if Bba then
some 2
else
Ba9
def UZ:=Ayt UE
def Axx:Bbv:=Z q8
def CY:=Axx UZ
def TF:Bbv:=Z (Fu (-1:Int) (0:Int))
def DE:=TF CY
def SX(MN:Bco)(a:Bb2)(b:Int):Bbv:=MN (Af b 1)
def VZ MN:=SX MN
def UP(j18:Bc2)(j15:Bco)(a:Bb2)(b:Int)(g:Bool):Bbv:=if g then
j18 (Fu b 0)
else
j15 b
def CQ MN a:=UP CY (VZ MN a) a
def SY(j14:Bdg)(j17:Bbv)(a:Bb2)(b:Int):Bbv:=if(Bw b (Aa a))then(Ae a b).bind λh=>(KD h.1 h.2.1).bind λg=>j14 b g
else
j17
def Td:Nat->Int->Option Int
|0,_=>none
|z+1,c=>SY (CQ (Td z) l9) DE l9 c
def Ayi a:=Td a As
def bC(j11:(List (UInt8×Int×Unit))->Int->Option Int)(a:Bb2):Bbv:=if(Dr (Aa a) 200)then
some 4
else
j11 a 0
def XN:=bC Ayi
def Uy:Option (LB×LB×Int×Int×Int×Int×Int×LI×Int×LB×Bool×Int×LB×Int):=(Qi z e c d j D F J B R E I).bind λi=>if(Bb i 0)then
some (([]:LB),([]:LB),0,0,0,0,0,([]:LI),0,([]:LB),false,0,([]:LB),i)
else
if(Bw o7 0)then
some (([]:LB),([]:LB),0,0,0,0,0,([]:LI),0,([]:LB),false,0,([]:LB),2)
else(Em z e c d j D F J B R E I).bind λ(l,A,C,G,L,M,N,O,P,U,V,X)=>(Bi U 0 (Gk o7 (Aa U))).bind λY=>(Kf Y).bind λZ=>(Bi U (Gk o7 (Aa U)) (Aa U)).bind λl5=>some (l,A,C,G,L,M,N,O,P,l5,V,X,Z,0)
abbrev Bm:=Option (LB×LB×Int×Int×Int×Int×Int×LI×Int×LB×Bool×Int×(List (Int×LB×Unit))×Int)
abbrev Bb5:=List (Int×LB×Unit)
def Aux(f:LB)(g h k m n o:Int)(p:LB)(u:Bool)(v:Int)(a:LB)(aa:Bb5)(w:LB)(y:LI):Bm:=some (f,w,g,h,k,m,n,y,o,p,u,v,aa,0)
def At8:=Aux
def Avd(j32:LB->Jz6 (LB->Bool->Int->LB-> (List (Int×LB×Unit))->LB->LI->Bm))(aa:Bb5)(f:LB)(g h k m n o:Int)(p:LB)(u:Bool)(v:Int)(a w:LB)(y:LI):Bm:=j32 f g h k m n o p u v a aa w y
def MW:=Avd At8
abbrev Bb0:=Int->LB->Jz6 (LB->Bool->Int->LB-> (List (Int×LB×Unit))->LB->LI->Bm)
def Auu(lA:Bb0)(b:Bb2)(ab:Int)(dm:LB)(dn dp dq dr ds dt:Int)(du:LB)(dv:Bool)(dw:Int)(dx:LB)(dy:Bb5)(dz:LB)(fa:LI):Bm:=lA (Af ab 1) dm dn dp dq dr ds dt du dv dw dx dy dz fa
def Jh lA:=Auu lA
def AS(j29:Bb0)(b:Bb2)(ac:UInt8×Int×Unit)(a:LB)(ad ab:Int)(f w:LB)(g h k m n:Int)(y:LI)(o:Int)(p:LB)(u:Bool)(v:Int)(ae:LB)(af ag ah ai aj ak:Int)(al:LB)(am:Bool)(an:Int)(aa:Bb5)(ao:LB)(ap:LI):Bm:=(
(Bi a (Gk ac.2.1 (Aa a)) (Aa a)).bind λbv=>(Ay aa ([(ad,([]:LB),())]:Bb5)).bind λar=>j29 ab ae af ag ah ai aj ak al am an bv ar ao ap)
def OX lA b:=AS (Jh lA b) b
def Avw(j29:Bb0)(b:Bb2)(au ab:Int)(f w:LB)(g h k m n:Int)(y:LI)(o:Int)(p:LB)(u:Bool)(v:Int)(a av:LB)(aw ax ay az ba bb:Int)(bc:LB)(bd:Bool)(be:Int)(bf:LB)(aa:Bb5)(ar:LB)(bg:LI):Bm:=(Ay aa ([(au,bf,())]:Bb5)).bind λfb=>j29 ab av aw ax ay az ba bb bc bd be a fb ar bg
def MQ lA b:=Avw (Jh lA b) b
def Avj(j29:Bb0)(b:Bb2)(bh ab:Int)(f w:LB)(g h k m n:Int)(y:LI)(o:Int)(p:LB)(u:Bool)(v:Int)(a bi:LB)(bj bk bl bm bn bp:Int)(bq:LB)(br:Bool)(bs:Int)(aa:Bb5)(bt:LB)(bu:LI):Bm:=(Ay aa ([(bh,([]:LB),())]:Bb5)).bind λfc=>j29 ab bi bj bk bl bm bn bp bq br bs a fc bt bu
def NK lA b:=Avj (Jh lA b) b
def AM(j26:(UInt8×Int×Unit)->LB->Int->Int->LB->LB->Jz5 (LI->Int->LB->Bool->Int->LB->Int->Int->Int->Int->Int->Int->LB->Bool->Int-> (List (Int×LB×Unit))->LB->LI->Bm))(j33:Int->Int->LB->LB->Jz5 (LI->Int->LB->Bool->Int->LB->LB->Int->Int->Int->Int->Int->Int->LB->Bool->Int->LB-> (List (Int×LB×Unit))->LB->LI->Bm))(j34:Int->Int->LB->LB->Jz5 (LI->Int->LB->Bool->Int->LB->LB->Int->Int->Int->Int->Int->Int->LB->Bool->Int-> (List (Int×LB×Unit))->LB->LI->Bm))(j29:Bb0)(j31:(List (Int×LB×Unit))->LB->Jz6 (LB->Bool->Int->LB->LB->LI->Bm))(b:Bb2)(ab:Int)(f:LB)(g h k m n o:Int)(p:LB)(u:Bool)(v:Int)(a:LB)(aa:Bb5)(w:LB)(y:LI):Bm:=if(Bw ab (Aa b))then(Ae b ab).bind λac=>if(geq ac.1 1)then(
(
(
(Bi a 0 (Gk ac.2.1 (Aa a))).bind λaq=>(
(Hc f w g h k m n y o p u v aq).bind λ(ae,ao,af,ag,ah,ai,aj,ap,ak,al,am,an,ad)=>j26 ac a ad ab f w g h k m n y o p u v ae af ag ah ai aj ak al am an aa ao ap))))
else
if(geq ac.1 2)then(
(
(
(Uy f w g h k m n y o p u v ac.2.1).bind λ(av,ar,aw,ax,ay,az,ba,bg,bb,bc,bd,be,bf,au)=>j33 au ab f w g h k m n y o p u v a av aw ax ay az ba bb bc bd be bf aa ar bg)))
else
if(geq ac.1 3)then(
(
(
(Ky f w g h k m n y o p u v).bind λ(bi,bt,bj,bk,bl,bm,bn,bu,bp,bq,br,bs,bh)=>j34 bh ab f w g h k m n y o p u v a bi bj bk bl bm bn bp bq br bs aa bt bu)))
else
j29 ab f g h k m n o p u v a aa w y
else
j31 aa f g h k m n o p u v a w y
def Gw:Nat->Int->LB->Jz6 (LB->Bool->Int->LB-> (List (Int×LB×Unit))->LB->LI->Bm)
|0,_,_,_,_,_,_,_,_,_,_,_,_,_,_,_=>none
|z+1,c,d,e,i,j,l,A,B,C,D,E,F,G,I,J=>AM (OX (Gw z) l9) (MQ (Gw z) l9) (NK (Gw z) l9) (Jh (Gw z) l9) MW l9 c d e i j l A B C D E F G I J
def Av0 b:=Gw b As
def RY(j17:(List (UInt8×Int×Unit))->Int->LB->Jz6 (LB->Bool->Int->LB-> (List (Int×LB×Unit))->LB->LI->Bm))(fd fe:LB)(b:Bb2):Bm:=(XN b).bind λbx=>if(Bb bx 0)then
some (([]:LB),([]:LB),0,0,0,0,0,([]:LI),0,([]:LB),false,0,([]:Bb5),bx)
else(Rt fd).bind λ(ff,fg,fh,fi,fj,fk,fl,fm,fn,fo,fp,fq,bz)=>if(Bb bz 0)then
some (([]:LB),([]:LB),0,0,0,0,0,([]:LI),0,([]:LB),false,0,([]:Bb5),bz)
else
j17 b 0 ff fh fi fj fk fl fn fo fp fq fe ([]:Bb5) fg fm
def Uz:=RY Av0
def IM:Bcd:=(Qi z e c d j D F J B R E I).bind λi=>if(Bb i 0)then
some (0,i)
else
some ((Af (Aa e) (Ch 8 (Aa J))),0)
abbrev Il:=Option (Int×Int×Int)
def Abe:Il:=some (c,d,0)
def ZL:=Abe
def Aa8(bk7:LB->Jz3 (LB->Int->Int->Int->Int->Int->Int->LB->Bool->Int->LB->LI->Il))(a:Bb2)(b f g:Int)(ax af:LB)(ag ah ai aj ak al:Int)(ae:LB)(am:Bool)(an:Int)(ao:LB)(ap:LI):Il:=(IM af ao ag ah ai aj ak ap al ae am an).bind λ(ay,aq)=>if(Bb aq 0)then
some (0,0,aq)
else
bk7 ax (G4 b ay) (G4 f (Aa ae)) (Af g 1) af ag ah ai aj ak al ae am an ao ap
def ZG bk7:=Aa8 bk7
def eY(j10:Jz3 (LB->LB->Int->Int->Int->Int->Int->Int->LB->Bool->Int->LB->LI->Il))(j12:Int->Int->Il)(a:Bb2)(h:LB)(b f g:Int)(k:LB)(m n o p u v:Int)(w:LB)(y:Bool)(aa:Int)(ab:LB)(ac:LI):Il:=if(Bw g (Aa a))then(Ae a g).bind λad=>if(geq ad.1 1)then(Bi h 0 (Gk ad.2.1 (Aa h))).bind λaz=>(Hc k ab m n o p u ac v w y aa az).bind λ(ba,bb,bc,bd,be,bf,bg,bh,bi,bj,bk,bl,fa)=>(Bi h (Gk ad.2.1 (Aa h)) (Aa h)).bind λbm=>j10 b f g bm ba bc bd be bf bg bi bj bk bl bb bh
else
if(geq ad.1 2)then(Uy k ab m n o p u ac v w y aa ad.2.1).bind λ(bn,bp,bq,br,bs,bt,bu,bv,bw,bx,bz,da,fb,fc)=>j10 b f g h bn bq br bs bt bu bw bx bz da bp bv
else
if(geq ad.1 3)then(Ky k ab m n o p u ac v w y aa).bind λ(db,dc,dd,de,df,dg,dh,di,dj,dk,dl,dm,fd)=>j10 b f g h db dd de df dg dh dj dk dl dm dc di
else
j10 b f g h k m n o p u v w y aa ab ac
else
j12 b f
def BW:Nat->LB->Jz3 (LB->Int->Int->Int->Int->Int->Int->LB->Bool->Int->LB->LI->Il)
|0,_,_,_,_,_,_,_,_,_,_,_,_,_,_,_,_=>none
|z+1,c,d,e,i,j,l,A,B,C,D,E,F,G,I,J,L=>eY (ZG (BW z) l9) ZL l9 c d e i j l A B C D E F G I J L
def Ae9 a:=BW a As
def fS(j7:(List (UInt8×Int×Unit))->LB->Jz3 (LB->Int->Int->Int->Int->Int->Int->LB->Bool->Int->LB->LI->Il))(ar au:LB)(a:Bb2):Il:=(Uz ar au a).bind λ(fe,ff,fg,fh,fi,fj,fk,fl,fm,fn,fo,fp,fq,av)=>if(Bb av 0)then
some (0,0,av)
else(Rt ar).bind λ(dn,dp,dq,dr,ds,dt,du,dv,dw,dx,dy,dz,aw)=>if(Bb aw 0)then
some (0,0,aw)
else
j7 a au 0 0 0 dn dq dr ds dt du dw dx dy dz dp dv
def NS:=fS Ae9
abbrev Dj:=Option (Int×Int×Int×Int×Int×Int)
def Acq(a:LB)(m n o p u f g b ad y:Int)(h:LI):Dj:=if(Bw (Aa a) y)then
some (0,0,0,0,0,24)
else
some (f,g,b,ad,y,0)
def Abb:=Acq
def Aaq(j12:LB->Jz10 (LI->Dj))(a:LB)(m n o p u f g b:Int)(h:LI)(ae ad y:Int):Dj:=if(Bb ae 0)then
some (0,0,0,0,0,ae)
else
j12 a m n o p u f g b ad y h
def Lz:=Aaq Abb
abbrev Bce:=LB->Jz8 (LI->Int->Int->Int->Dj)
def ZQ(j11:Bce)(a:LB)(k:LI)(m n o p u f g b v:Int)(h:LI):Dj:=j11 a m n o p u f g b h 0 (Af (Af b (Ch 4 (Aa k))) 4) v
def FZ:=ZQ Lz
def cS(j10:LB->LI->Jz9 (LI->Dj))(bk8:Int->Int->Dj)(k:LI)(a:LB)(m n o p u f g b:Int)(h:LI)(w v:Int):Dj:=if(Bw w (Aa k))then(Ae k w).bind λ_=>(Ae k w).bind λag=>bk8 (Af w 1) (Af v ag)
else
j10 a k m n o p u f g b v h
def Zc:Nat->Int->Int->Dj
|0,_,_=>none
|z+1,c,d=>cS FZ (Zc z) A i B X l6 Bag Bah Bai I o7 Ba2 c d
def Aky k a m n o p u f g b h:=Zc k a m n o p u f g b h As
def gW(j11:Bce)(j8:LI->LB->Jz8 (LI->Int->Int->Dj))(aa:Int)(a:LB)(m n o p u f g b ab ac:Int)(k h:LI):Dj:=if(Bb aa 0)then
j11 a m n o p u f g b h aa ab ac
else
j8 k a m n o p u f g b h 0 (Af (Af b (Ch 4 (Aa k))) 4)
def Avn:=gW Lz Aky
def dM(j11:Bce)(j7:Int->LB->Jz10 (LI->LI->Dj))(a:LB):Dj:=(MT a).bind λ(m,n,o,p,u,f,g,b,ab,ac,h,af)=>if(Bb af 0)then
some (0,0,0,0,0,af)
else
if(Bw (Aa a) b)then
j11 a m n o p u f g b h 24 ab ac
else(Bi a b (Aa a)).bind λah=>(Ws ah (Aa h)).bind λ(k,aa)=>j7 aa a m n o p u f g b ab ac k h
def iR:=dM Lz Avn
abbrev Ks:=Option (Int×UInt8×Int×Int×Int)
def Aax:Ks:=some (0,6,0,0,0)
def bL:=Aax
def aH(j6:Ks)(CD:Int->Int->Ks)(a:Int)(b:LI)(g h k m n o p f:Int):Ks:=if(Bw f (Aa b))then(Ae b f).bind λ_=>(Ae b f).bind λv=>if(Bw a (Af p v))then(OO g h k m n f).bind λ(ad,ae)=>some (0,5,f,ad,ae)
else
CD (Af p v) (Af f 1)
else
j6
def Wi:Nat->Int->Int->Ks
|0,_,_=>none
|z+1,d,e=>aH bL (Wi z) c J B X l6 Bag Bah Bai d e
def Ab0 a b g h k m n o:=Wi a b g h k m n o As
def aE(j4:Int->LI->Jz8 Ks)(u w:LB)(a:Int):Ks:=(OM u w).bind λy=>if(Bb y 0)then
some (0,0,0,0,y)
else
if((Bw a 0)||(Fu a (Aa u)))then
some (0,0,0,0,2)
else(iR u).bind λ(af,ag,ah,aa,ai,ab)=>if(Bb ab 0)then
some (0,0,0,0,ab)
else(Gp u w).bind λ(g,h,k,m,n,o,b,ac)=>if(Bb ac 0)then
some (0,0,0,0,ac)
else
if(Bw a af)then
some (0,1,0,0,0)
else
if(Bw a ag)then
some (0,2,0,0,0)
else
if(Bw a ah)then
some (0,3,0,0,0)
else
if(Bw a aa)then
some (0,4,0,0,0)
else
j4 a b g h k m n o aa 0
def Mi:=aE Ab0
abbrev Be:=Option (LB×Int)
def Aa5:Be:=(Bi z 0 (Aa z)).bind λc=>(Te c).bind λ(d,e)=>if(Bb e 0)then
some (([]:LB),38)
else
some (([]:LB),0)
def aU:=Aa5
def ZJ(j21:LB->Be)(a:LB)(y:Int):Be:=if(Bw y 0)then
none
else
j21 a
def ZN:Nat->Be
|0=>none
|d+1=>ZJ aU z c
def Acv a y:=ZN a y As
def bU(j19:LB->Int->Be)(a:LB)(y ah:Int):Be:=if(Bb ah 0)then
some (([]:LB),ah)
else
if((Bw y 0)||(Fu y 0))then
some (([]:LB),2)
else
j19 a y
def GA:=bU Acv
def ZB:Be:=(Bi z (Af c d) (Aa z)).bind λe=>(Te e).bind λ(j,l)=>if(Bb l 0)then
some (([]:LB),38)
else
some (i,0)
def GG:=ZB
def Aal(YZ:Int->LB->Be)(a:LB)(f:LI)(b k n m h o p:Int)(u:LX)(v g:LI)(w:Int)(ad:LB):Be:=YZ (Af w 1) ad
def Aam YZ:=Aal YZ
def Aa9(j30:Int->LB->Be)(a:LB)(f:LI)(b k n m h o p:Int)(u:LX)(v g:LI)(w:Int)(aa:LB)(ai:Int)(ar:LB):Be:=if(Bb ai 0)then
some (([]:LB),ai)
else(Ay aa ar).bind λad=>j30 w ad
def FT YZ a f b k n m h o p u v g:=Aa9 (Aam YZ a f b k n m h o p u v g) a f b k n m h o p u v g
abbrev Bd7:=Int->LB->Int->LB->Be
def ZT(j29:Bd7)(a:LB)(f:LI)(b k m h n o p:Int)(u:LX)(v g:LI)(ab w:Int)(ae:LX)(aa:LB):Be:=if(Bb ab 0)then
j29 w aa ab ([]:LB)
else(Ki h ae).bind λ(au,av)=>j29 w aa av au
def ZV YZ a f b k m h n o p u v g:=ZT (FT YZ a f b k n m h o p u v g) a f b k m h n o p u v g
def aF(j29:Bd7)(j28:Int->Int->LX->LB->Be)(b:Int)(a:LB)(f:LI)(k m h:Int)(u:LX)(n o p:Int)(v g:LI)(w af ac:Int)(aa:LB):Be:=if(Dr (Af b ac) (Aa a))then
j29 w aa 24 ([]:LB)
else(Ae f w).bind λ_=>(Bi a (Af b af) (Af b ac)).bind λaw=>(Ae f w).bind λax=>(Kq m h u ax aw).bind λ(ae,ab)=>j28 ab w ae aa
def FP YZ b a f k m h u n o p v g:=aF (FT YZ a f b k n m h o p u v g) (ZV YZ a f b k m h n o p u v g) b a f k m h u n o p v g
def aC(j27:Jz3 (LB->Be))(j32:LB->Int->Int->LB->Be)(a:LB)(f:LI)(b k n m h o p:Int)(u:LX)(v g:LI)(w:Int)(aa:LB):Be:=if(Bw w (Aa f))then(Ae g w).bind λ_=>(Ae g (Af w 1)).bind λ_=>(Ae g w).bind λaf=>(Ae g (Af w 1)).bind λac=>j27 w af ac aa
else
j32 a b k aa
def Vw:Nat->Int->LB->Be
|0,_,_=>none
|e+1,i,l=>aC (FP (Vw e) c z A d D F C j O Bac Bau Ba0) GG z A c d j D F O Bac C Bau Ba0 i l
def Aa6 a f b k n m h o p u v g:=Vw a f b k n m h o p u v g As
def GD(j22:LB->LI->Jz7 (LX->LI->LI->Int->LB->Be))(a:LB)(y:Int)(f:LI)(b k n m h o p:Int)(u:LX)(v g:LI):Be:=if(Bb (0:Int) (0:Int))then
some (([]:LB),0)
else
if((Bw y 0)||(Fu y (Aa f)))then
some (([]:LB),2)
else
j22 a f b k n m h o p u v g y ([]:LB)
def FY:=GD Aa6
def JA(j17:LB->Int->Int->Be)(j18:LB->Int->LI->Jz7 (LX->LI->LI->Be))(a aj:LB)(y:Int):Be:=(Gp a aj).bind λ(n,m,h,o,p,b,v,ak)=>if(Bb ak 0)then
j17 a y ak
else(Bn n m h o p).bind λ(f,al)=>if(Bb al 0)then
j17 a y al
else(EM v).bind λ(g,am)=>if(Bb am 0)then
j17 a y am
else(Nz aj).bind λ(u,an)=>if(Bb an 0)then
j17 a y an
else(Ae g (Aa f)).bind λ_=>(Ae g (Aa f)).bind λk=>j18 a y f b k n m h o p u v g
def Xp:=JA GA FY
def ED:Option (Int×Int×Int):=(Kg c d).bind λ(z,e)=>if(Bb e 0)then
some (0,0,e)
else
if((Bw j 0)||(Fu j d))then
some (0,0,2)
else(Jp c).bind λ(i,l)=>(Es (Bb i 0)).bind λ_=>(Es (Bb i 0)).bind λ_=>some ((Ep j i),(Jb j i),0)
def WC:Bck:=(Gp z e).bind λ(d,i,j,l,A,B,C,D)=>if(Bb D 0)then
some (([]:LB),D)
else
if((Bw c 0)||(Fu c A))then
some (([]:LB),2)
else(ED l A c).bind λ(E,F,G)=>if(Bb G 0)then
some (([]:LB),G)
else(Xp z e E).bind λ(I,J)=>if(Bb J 0)then
some (([]:LB),J)
else(Es (decide ((Aa I)<= (Aa I)/\ (Aa I)<=Aa I))).bind λ_=>(Bi I (Ep (Ch (Ch F i) j) 8) (Aa I)).bind λL=>some (L,0)
def dX:Bck:=if(((Bw c 0)||(Fu c (Aa z)))||(geq L 0))then
some (([]:LB),2)
else(Kf z).bind λd=>(Ae d c).bind λ_=>(Ae d c).bind λe=>(Ae d c).bind λ_=>(Mh d c (oO e L)).bind λi=>some (i,0)
abbrev Gy:=Option (LB×Int)
def Ayr:Gy:=if(!E)then
some (([]:LB),2)
else
some (l5,0)
def VJ:=Ayr
def Aac(bk6:Int->Bool->LB->Gy)(a:Int)(g:UInt32)(b:Int)(m:Bool)(n:LB):Gy:=bk6 (Af b 1) m n
def ZO bk6:=Aac bk6
def bA(j8:Int->Bool->LB->Gy)(j10:Bool->LB->Gy)(a:Int)(g:UInt32)(b:Int)(h:Bool)(f:LB):Gy:=if(Bw b 32)then(Es (Fu b 0)).bind λ_=>if(geq (Dq (Da g (GI.toZ b).toNat) 1) 1)then
if(Bw (Af a b) (Ch 8 (Aa f)))then(Ae f (Ep (Af a b) 8)).bind λ_=>(Es (Fu (Jb (Af a b) 8) 0)).bind λ_=>(Ae f (Ep (Af a b) 8)).bind λo=>(Ae f (Ep (Af a b) 8)).bind λ_=>(Mh f (Ep (Af a b) 8) (oO o (Fc (1:UInt8) (GI.toZ (Jb (Af a b) 8)).toNat))).bind λp=>j8 b true p
else
j8 b h f
else
j8 b h f
else
j10 h f
def Vr:Nat->Int->Bool->LB->Gy
|0,_,_,_=>none
|z+1,d,e,i=>bA (ZO (Vr z) c Y) VJ c Y d e i
def Acm a g:=Vr a g As
def ZD(j6:Int->UInt32->Int->Bool->LB->Gy)(k:LB)(a:Int)(g:UInt32):Gy:=if((Bw a 0)||(Fu a (Ch 8 (Aa k))))then
some (([]:LB),2)
else(Kf k).bind λu=>j6 a g 0 false u
def HP:=ZD Acm
abbrev Fz:=Option (LB×Int)
def Aso:Fz:=(Ky z l5 c d j D F Bbf O i E I).bind λ(e,l,A,B,C,G,J,L,M,N,P,R,U)=>some (N,U)
def NG:=Aso
def Auw(bk7:LB->Int->LB->Jz6 (LB->Bool->Int->LB->LI->Fz))(a:LI)(b:LB)(ag ah f:Int)(aj:LB)(ac ad ae ak af al:Int)(ai:LB)(am:Bool)(an:Int)(ao:LB)(ab:LI):Fz:=if(Bb ag 0)then
some (ai,ag)
else(Bi b ah (Aa b)).bind λau=>bk7 au (Af f 1) aj ac ad ae ak af al ai am an ao ab
def OU bk7:=Auw bk7
def UG(j10:LB->Jz3 (LB->Int->Int->Int->Int->Int->Int->LB->Bool->Int->LB->LI->Fz))(j12:LB->Jz6 (LB->Bool->Int->LB->LI->Fz))(a:LI)(b:LB)(f:Int)(g:LB)(h k m n o p:Int)(u:LB)(v:Bool)(w:Int)(y:LB)(aa:LI):Fz:=if(Bw f (Aa a))then(Ae a f).bind λah=>(Bi b 0 ah).bind λap=>(Hc g y h k m n o aa p u v w ap).bind λ(aj,ao,ac,ad,ae,ak,af,ab,al,ai,am,an,ag)=>j10 b ag ah f aj ac ad ae ak af al ai am an ao ab
else
j12 g h k m n o p u v w y aa
def Tu:Nat->LB->Int->LB->Jz6 (LB->Bool->Int->LB->LI->Fz)
|0,_,_,_,_,_,_,_,_,_,_,_,_,_,_=>none
|z+1,c,d,e,i,j,l,B,C,D,E,F,G,I,J=>UG (OU (Tu z) A) NG A c d e i j l B C D E F G I J
def Ays a:=Tu a As
def VN(j7:LI->LB->Int->LB->Jz6 (LB->Bool->Int->LB->LI->Fz))(av aw:LB)(a:LI):Fz:=(Rt av).bind λ(ax,ay,az,ba,bb,bc,bd,be,bf,bg,bh,bi,aq)=>if(Bb aq 0)then
some (([]:LB),aq)
else
j7 a aw 0 ax az ba bb bc bd bf bg bh bi ay be
def DT:=VN Ays
abbrev Cv:=Option (Int×Int)
def Aa7:Cv:=some (c,0)
def aX:=Aa7
abbrev Beb:=Int->Int->Cv
def Aak(Od:Beb)(g b:LB)(f a:Int)(h:LB)(k m y:Int):Cv:=Od y (Af m 1)
def Acp Od:=Aak Od
def Aba(j20:Beb)(g b:LB)(f a:Int)(h:LB)(k n p m:Int)(u:LI):Cv:=(Ay u ([(Ag (Aa b) p)]:LI)).bind λv=>(DT g b v).bind λ(aa,ab)=>if(Bb ab k)then
j20 m (Af n 1)
else(Mg aa h).bind λac=>if(!ac)then
j20 m (Af n 1)
else
j20 m n
def ZF Od g b f a h k:=Aba (Acp Od g b f a h k) g b f a h k
def ZE(j19:Jz3 (LI->Cv))(lA:Int->Int->LI->Cv)(g b:LB)(f a:Int)(h:LB)(k n m p o:Int)(u:LI):Cv:=if(Bw o a)then(Es (Fu o 0)).bind λ_=>if(geq (Dq (I' m (GI.toZ o).toNat) 1) 1)then(Ay u ([(Ag (Af (Af f o) 1) p)]:LI)).bind λv=>lA (Af (Af f o) 1) (Af o 1) v
else
lA p (Af o 1) u
else
j19 n p m u
def Vq(Od:Beb)(g b:LB)(f a:Int)(h:LB)(k n m:Int):Nat->Int->Int->LI->Cv
|0,_,_,_=>none
|q+1,p,o,u=>ZE (ZF Od g b f a h k) (Vq Od g b f a h k n m q) g b f a h k n m p o u
def aA Od g b f a h k n m:=Vq Od g b f a h k n m As
def bB(j17:Jz4 (LI->Cv))(j22:Int->Cv)(g b:LB)(f a:Int)(h:LB)(k n m:Int):Cv:=if(Bw m (Fc (1:Int) (GI.toZ a).toNat))then
j17 n m 0 0 ([]:LI)
else
j22 n
def Wj:Nat->Int->Int->Cv
|0,_,_=>none
|j+1,l,A=>bB (aA (Wj j) z e c d i B) aX z e c d i B l A
def Abk g b f a h k:=Wj g b f a h k As
def dA(j12:LB->LB->Int->Int->LB->Jz3 Cv)(g b:LB)(f a:Int):Cv:=if(Dr (Aa b) 100000)then
some (0,2)
else(Rt g).bind λ(ad,ae,af,ag,ah,ai,aj,ak,al,am,an,ao,w)=>if(Bb w 0)then
some (0,w)
else
if(((((Bw a 0)||(Dr a 8))||(Bw f 0))||(Dr f (Aa b)))||(Dr a (Ag (Aa b) f)))then
some (0,2)
else(DT g b ([(Aa b)]:LI)).bind λ(h,k)=>(Es (Fu a 0)).bind λ_=>j12 g b f a h k 0 0
def OW:=dA Abk
def EF:Option (Int×Bool):=(Jp j).bind λ(z,e)=>(Mq c d).bind λl=>some (z,(((geq l 0)&&(geq e 0))&&(TH (Aa i) 64)))
abbrev Bcq:=Option (Int×Int×Int×LB×LB×LX×(List LB)×LB×Bool×Int×Int)
def fU:Bcq:=(EF c d j i).bind λ(z,e)=>if(!e)then
some (0,0,0,([]:LB),([]:LB),([]:LX),([]:Bbw),([]:LB),false,0,2)
else
some (c,d,j,i,([]:LB),([]:LX),([]:Bbw),([]:LB),false,0,0)
def Zm:Bbv:=some (Ep (Ch c d) 8)
def Ur(a h k:Int)(m n:LB)(b:LX)(f:Bbw)(o:LB)(p:Bool)(u g:Int):Bbv:=(Es (Bb a 0)).bind λ_=>some (Af (Ch (Aa f) g) (Ep (Aa b) a))
def HX(a g h:Int)(k m:LB)(n:LX)(o:Bbw)(p:LB)(u:Bool)(v b f:Int):Bbx:=some ((TH b 1000)&&(TH (Ch f a) 4000))
def Aq1:Bbx:=some (!E)
def Aq3:=Aq1
abbrev Bdr:=Bool->Option Bool
def Ane(j24:Bdr)(y:Bool):Bbx:=j24 y
def GY:=Ane Aq3
def Ap4(j23:Bdr):Bbx:=j23 (Fu (-1:Int) (0:Int))
def GO:=Ap4 GY
def Aq0(Fl:Bdf)(b:Bbw)(f a h:Int):Bbx:=Fl (Af h 1)
def Aop Fl:=Aq0 Fl
def Aq4(j23:Bdr)(j20:Bdf)(b:Bbw)(f a h:Int)(w:LB):Bbx:=if((Bw (Aa w) 5)||(Dr (Aa w) (Af (Ep (Af (Ch (Ch 81 f) a) 7) 8) 4)))then
j23 (Fu h 0)
else
j20 h
def GK Fl b f a:=Aq4 GY (Aop Fl b f a) b f a
def GP(j19:Int->LB->Option Bool)(j22:Bbx)(b:Bbw)(f a h:Int):Bbx:=if(Bw h (Aa b))then(Ae b h).bind λw=>j19 h w
else
j22
def My:Nat->Int->Option Bool
|0,_=>none
|z+1,c=>GP (GK (My z) l p8 Bao) GO l p8 Bao c
def Amy b f a:=My b f a As
def GJ(j16:(List LB)->Jz3 (Option Bool))(f a k o:Int)(p m:LB)(g:LX)(b:Bbw)(n:LB)(u:Bool)(v:Int):Bbx:=j16 b f a 0
def Aq5:=GJ Amy
abbrev Bcn:=Jz4 (LB->LB->LX-> (List LB)->LB->Bool->Int->Option Bool)
def GM(j15:Bcn)(f a k o:Int)(p m:LB)(g:LX)(b:Bbw)(n:LB)(u:Bool)(v aa:Int):Bbx:=(Ur a k o p m g b n u v f).bind λab=>(HX a k o p m g b n u v aa ab).bind λac=>if(!ac)then
some false
else
j15 f a k o p m g b n u v
def Aob:=GM Aq5
def GQ(j14:Jz4 (LB->LB->LX-> (List LB)->LB->Bool->Int->Int->Option Bool))(f a k o:Int)(p m:LB)(g:LX)(b:Bbw)(n:LB)(u:Bool)(v:Int):Bbx:=(Rn k g).bind λad=>if(Bb ad 0)then
some false
else
if(Dr (Aa g) 0)then
j14 f a k o p m g b n u v (Af (Aa b) 1)
else
j14 f a k o p m g b n u v (Aa b)
def Uc:=GQ Aob
def Wo(j13:Bcn)(a k o:Int)(p m:LB)(g:LX)(b:Bbw)(n:LB)(u:Bool)(v f:Int):Bbx:=if(Dr (Aa n) 0)then
if true then
if true then
if(true||(Dr (Aa b) 1000))then
some false
else
j13 f a k o p m g b n u v
else(Es (Bb a 0)).bind λ_=>if((Fu (Ep (Aa g) a) f)||(Dr (Aa b) 1000))then
some false
else
j13 f a k o p m g b n u v
else(Es (Bb a 0)).bind λ_=>if(Bb (Jb (Aa g) a) 0)then
if(true||(Dr (Aa b) 1000))then
some false
else
j13 f a k o p m g b n u v
else(Es (Bb a 0)).bind λ_=>if((Fu (Ep (Aa g) a) f)||(Dr (Aa b) 1000))then
some false
else
j13 f a k o p m g b n u v
else(Zm a k).bind λae=>if(Fu (Aa m) ae)then
if true then
if(true||(Dr (Aa b) 1000))then
some false
else
j13 f a k o p m g b n u v
else(Es (Bb a 0)).bind λ_=>if((Fu (Ep (Aa g) a) f)||(Dr (Aa b) 1000))then
some false
else
j13 f a k o p m g b n u v
else(Es (Bb a 0)).bind λ_=>if(Bb (Jb (Aa g) a) 0)then
if(true||(Dr (Aa b) 1000))then
some false
else
j13 f a k o p m g b n u v
else(Es (Bb a 0)).bind λ_=>if((Fu (Ep (Aa g) a) f)||(Dr (Aa b) 1000))then
some false
else
j13 f a k o p m g b n u v
def Wa:=Wo Uc
def PR:Bbv:=(EF c d j i).bind λ(z,e)=>if(!e)then
some 8
else
if(Bb p8 0)then
if(!(((((geq p8 18)||(geq p8 24))&&(!Bav))&&(geq (Af (Af (Aa o9) (Aa U)) (Aa l)) 0))&&(geq (Aa N) 0)))then
some 8
else
some 0
else
if Bav then
if(!((geq (Af (Af (Aa o9) (Aa U)) (Aa l)) 0)&&(TH (Aa N) 100000)))then
some 8
else
some 0
else(Wa c d j i o9 U l N Bav p8 z).bind λA=>if(!A)then
some 8
else
some 0
abbrev He:=Option (Int×Int×Int×LB×LB×LX×(List LB)×LB×Bool×Int)
def Acl(b f g:Int)(h:LB)(a:Bbw)(k:Bool)(m:Int)(u:Bbw)(n:LB)(o:LX)(p:LB):He:=some (b,f,g,h,n,o,u,p,k,m)
def aS:=Acl
def GF(j8:Jz3 (LB-> (List LB)->Bool->Int-> (List LB)->LB->LX->LB->He))(bk6:Int-> (List LB)->He)(w a:Bbw)(b f g:Int)(h:LB)(k:Bool)(m:Int)(n:LB)(o:LX)(p:LB)(v:Int)(u:Bbw):He:=if(Bw v (Aa (Cr w a)))then(Ae u v).bind λ_=>(Ae u v).bind λy=>(Bk y).bind λaa=>(Ae u v).bind λ_=>(Mh u v aa).bind λab=>bk6 (Af v 1) ab
else
j8 b f g h a k m u n o p
def Py:Nat->Int-> (List LB)->He
|0,_,_=>none
|z+1,c,d=>GF aS (Py z) l Bbk Bbl Bbm Bbn p9 Baw Bbo Ba3 Bap Ba4 c d
def Abn w a b f g h k m n o p:=Py w a b f g h k m n o p As
def FV(j6:(List LB)-> (List LB)->Jz3 (LB->Bool->Int->LB->LX->LB->Int-> (List LB)->He))(b f g:Int)(h:LB)(a:Bbw)(k:Bool)(m:Int)(n:LB)(o:LX)(p:LB):He:=(mkI (Aa a) ([]:LB)).bind λw=>(Es (geq (Aa a) (Aa a))).bind λ_=>j6 w a b f g h k m n o p 0 (Cr w a)
def aT:=FV Abn
def FI(j5:Jz3 (LB-> (List LB)->Bool->Int->LB->LX->LB->He))(b f g:Int)(h ac:LB)(ad:LX)(a:Bbw)(ae:LB)(k:Bool)(m:Int):He:=(Bk ac).bind λn=>(Ci ad).bind λo=>(Bk ae).bind λp=>j5 b f g h a k m n o p
def HU:=FI aT
abbrev FN:=Option (Int×Int×Int×LB×LB×LX×(List LB)×LB×Bool×Int×Int×Int)
def Axf:FN:=(HU d j D i o9 U l N Bav p8).bind λ(z,e,A,B,C,E,F,G,I,J)=>some (z,e,A,B,C,E,F,G,I,J,c,Bao)
def Azk:=Axf
def Awq(j2:Jz4 (LB->LB->LX-> (List LB)->LB->Bool->Int->Int->FN))(g h b:Int)(k m:LB)(n:LX)(o:Bbw)(p:LB)(f:Bool)(a:Int):FN:=(PR g h b k m n o p f a).bind λv=>if(Bb v 0)then
some (0,0,0,([]:LB),([]:LB),([]:LX),([]:Bbw),([]:LB),false,0,0,v)
else(Jp b).bind λ(u,aj)=>if(Bb a 0)then
j2 u g h b k m n o p f a a
else
if f then
j2 u g h b k m n o p f a 36
else
j2 u g h b k m n o p f a aj
def EI:=Awq Azk
def PO:Bbv:=(Mq c d).bind λz=>if(Bb z 0)then
some z
else(Rn d C).bind λe=>if(Bb e 0)then
some e
else
if(geq (Aa C) 0)then
some 2
else(Es (Bb c 0)).bind λ_=>if(Bb (Jb (Aa C) c) 0)then
some 2
else
some 0
abbrev Gl:=Option (LX×Int)
def yU:Gl:=some (C,0)
def zC:=yU
abbrev Bdo:=Int->LX->Gl
def yG(Od:Bdo)(b a:Int)(u:LX):Gl:=Od (Af a b) u
def yu Od:=yG Od
def yj(j20:Bdo)(b a:Int)(g:LX):Gl:=if(Dr (Ag ((Af a b)-a) 1) 0)then(Es (decide (0<= (Ag ((Af a b)-a) 1)/\ (Ag ((Af a b)-a) 1)<((Af a b)-a)))).bind λ_=>Option.bind (Es (decide (0<= (Ag (Ag ((Af a b)-a) 1) 1)/\ (Ag (Ag ((Af a b)-a) 1) 1)<((Af a b)-a)))) λ_=>(Ae g (a+(Ag ((Af a b)-a) 1))).bind λk=>(Ae g (a+(Ag (Ag ((Af a b)-a) 1) 1))).bind λm=>(Es (decide (0<= (Ag ((Af a b)-a) 1)/\ (Ag ((Af a b)-a) 1)<((Af a b)-a)))).bind λ_=>(Mh g (a+(Ag ((Af a b)-a) 1)) (Ag k (Ep m 2))).bind λn=>j20 a n
else
j20 a g
def zE Od b:=yj (yu Od b) b
def zA(j19:Bdo)(lA:Bdo)(b a f:Int)(g:LX):Gl:=if(Bw f (Ag ((Af a b)-a) 1))then(Es (decide (0<= (Af f 1)/\ (Af f 1)<((Af a b)-a)))).bind λ_=>(Es (decide (0<=f/\f<((Af a b)-a)))).bind λ_=>(Ae g (a+(Af f 1))).bind λk=>(Ae g (a+f)).bind λm=>(Es (decide (0<=f/\f<((Af a b)-a)))).bind λ_=>(Mh g (a+f) (Ag k m)).bind λn=>lA (Af f 1) n
else
j19 a g
def OC(Od:Bdo)(b a:Int):Nat->Int->LX->Gl
|0,_,_=>none
|q+1,f,g=>zA (zE Od b) (OC Od b a q) b a f g
def zM Od b a:=OC Od b a As
def zJ(j17:Int->Int->LX->Gl)(j22:LX->Gl)(b a:Int)(h:LX):Gl:=if(Bw a (Aa h))then(jI (Aa h) a (Af a b)).bind λ_=>j17 a 0 h
else
j22 h
def OR:Nat->Int->LX->Gl
|0,_,_=>none
|z+1,d,e=>zJ (zM (OR z) c) zC c d e
def yC b:=OR b As
def Y3(j12:Int->Int->LX->Gl)(b:Int)(o:LX):Gl:=(jN b o).bind λp=>if(Bb p 0)then
some (([]:LX),p)
else(Ci o).bind λv=>j12 b 0 v
def X':=Y3 yC
def OZ:Bde:=(XP c C U).bind λ(z,d)=>if(Bb d 0)then
some (0,0,(List.replicate 16 (0:Int32)),(List.replicate 16 (0:Int32)),d)
else(WY c C U P (Ag P z)).bind λ(e,i,j)=>some ((Ag P z),e,i,j,0)
def Uo:Bc4:=(Xt c P Bal y8 y7).bind λz=>if(Bb z 0)then
some (0,0,0,0,(List.replicate 16 (0:Int32)),(List.replicate 16 (0:Int32)),z)
else(Xv c P).bind λ(d,e)=>(OZ Bal y8 y7 (Ag Bae d)).bind λ(i,j,l,A,B)=>(
some (i,c,Bae,j,l,A,B))
def wN:Option UInt32:=some (oO (Fc (Am P:UInt32) (GI.toZ (1:UInt64)).toNat) (Am (Da P (GI.toZ (31:UInt64)).toNat):UInt32))
abbrev Cx:=Option (LU×Int)
def Arq:Cx:=some (l8,0)
def MH:=Arq
def LJ(j12:LU->Cx)(RT:Int-> (List (Int×Int32×(Int×LX×LX×Unit)×Unit))->LU->Cx)(b:LX)(a f g:Int)(k:Bb6)(h:LU):Cx:=if(Bw g (Aa b))then(Ae b g).bind λ_=>(Ae b g).bind λac=>(Es (Bb a 0)).bind λ_=>(Ae k (Jb g a)).bind λ_=>(Ae k (Jb g a)).bind λp=>(Uo p.1 p.2.1 p.2.2.1.1 p.2.2.1.2.1 p.2.2.1.2.2.1 ac).bind λ(u,ad,ae,v,af,ag,w)=>if(Bb w 0)then
some (([]:LU),w)
else(Mh k (Jb g a) (ad,ae,(v,af,ag,()),())).bind λah=>(wN u).bind λai=>(Ay h ([ai]:LU)).bind λaj=>RT (Af g 1) ah aj
else
j12 h
def Pb:Nat->Int-> (List (Int×Int32×(Int×LX×LX×Unit)×Unit))->LU->Cx
|0,_,_,_=>none
|z+1,c,d,e=>LJ MH (Pb z) C B X c d e
def IV b a f:=Pb b a f As
def MP(j10:LX->Jz3 ( (List (Int×Int32×(Int×LX×LX×Unit)×Unit))->LU->Cx))(a f:Int)(b:LX)(m:Bb6):Cx:=j10 b a f 0 m ([]:LU)
def Asp:=MP IV
def MY(j9:Int->Int->LX-> (List (Int×Int32×(Int×LX×LX×Unit)×Unit))->Cx)(bk7:Int-> (List (Int×Int32×(Int×LX×LX×Unit)×Unit))->Cx)(a f:Int)(n b:LX)(o:Int)(m:Bb6):Cx:=if(Bw o 6)then(jX f n).bind λ(ak,al,u,am,an,v)=>(Ae m o).bind λ_=>(Mh m o (ak,al,(u,am,an,()),())).bind λao=>bk7 (Af o 1) ao
else
j9 a f b m
def Rb:Nat->Int-> (List (Int×Int32×(Int×LX×LX×Unit)×Unit))->Cx
|0,_,_=>none
|z+1,e,i=>MY Asp (Rb z) c d C U e i
def Aw2 a f n b:=Rb a f n b As
def NL(j7:Int->Int->LX->LX->Int-> (List (Int×Int32×(Int×LX×LX×Unit)×Unit))->Cx)(a f:Int)(n y:LX):Cx:=(PO a f y).bind λaa=>if(Bb aa 0)then
some (([]:LU),aa)
else(X' a y).bind λ(b,ab)=>if(Bb ab 0)then
some (([]:LU),ab)
else
j7 a f n b 0 (List.replicate 6 ((0:Int),(0:Int32),((0:Int),(List.replicate 16 (0:Int32)),(List.replicate 16 (0:Int32)),()),()))
def JG:=NL Aw2
abbrev Hz:=Option ((List (Int×Int×UInt64×UInt64×Unit)))
def Auz(a:Bby):Hz:=some a
def OI:=Auz
abbrev Bc1:=Int-> (List (Int×Int×UInt64×UInt64×Unit))->Hz
def OP(j6:(List (Int×Int×UInt64×UInt64×Unit))->Hz)(CD:Bc1)(b:Int)(a:Bby):Hz:=if(Bw b 6)then(YV).bind λ(f,g,h,k)=>(Ae a b).bind λ_=>(Mh a b (f,g,h,k,())).bind λm=>CD (Af b 1) m
else
j6 a
def Qu:Nat->Int-> (List (Int×Int×UInt64×UInt64×Unit))->Hz
|0,_,_=>none
|q+1,b,a=>OP OI (Qu q) b a
def OG:=Qu As
def Zq(j4:Bc1):Hz:=j4 0 (List.replicate 6 ((0:Int),(0:Int),(0:UInt64),(0:UInt64),()))
def AV:=Zq OG
def SP:Bck:=(Bk z).bind λd=>some (d,c)
abbrev Dk:=Option (LB×Int×Int)
def Aas:Dk:=some (i,c,0)
def qQ:=Aas
abbrev Bcm:=UInt64->Int->Int->LB->Dk
def Ab3 (S!:Bcm)(b:UInt64)(a:Int)(m:UInt64)(h f:Int)(w:LB):Dk:=(Es (Fu (Gk h (Ag 8 (Dq f 7))) 0)).bind λ_=>S! (Da m (GI.toZ (Gk h (Ag 8 (Dq f 7)))).toNat) (Ag h (Gk h (Ag 8 (Dq f 7)))) (Af f (Gk h (Ag 8 (Dq f 7)))) w
def Aqj S!:=Ab3 S!
def Abf (j19:Bcm)(b:UInt64)(a:Int)(m:UInt64)(h f:Int)(u:LB):Dk:=(Ae u (Ag (Aa u) 1)).bind λ_=>(Es (Fu (Gk h (Ag 8 (Dq f 7))) 0)).bind λ_=>(Es (Fu (Dq f 7) 0)).bind λ_=>(Ae u (Ag (Aa u) 1)).bind λad=>(Ae u (Ag (Aa u) 1)).bind λ_=>Option.bind (Mh u (Ag (Aa u) 1) (B? ad (Fc (Am (Dq m (Ag (Fc (1:UInt64) (GI.toZ (Gk h (Ag 8 (Dq f 7)))).toNat) 1)):UInt8) (GI.toZ (Dq f 7)).toNat))) λw=>j19 m h f w
def rL S! b a:=Abf (Aqj S! b a) b a
def rR(j18:Bcm)(j21:Int->LB->Dk)(b:UInt64)(a:Int)(m:UInt64)(h f:Int)(o:LB):Dk:=if(Dr h 0)then
if(geq (Dq f 7) 0)then(Ay o ([(0:UInt8)]:LB)).bind λaa=>j18 m h f aa
else
j18 m h f o
else
j21 f o
def HH:Nat->UInt64->Int->Int->LB->Dk
|0,_,_,_,_=>none
|z+1,c,d,e,i=>rR (rL (HH z) G w9) qQ G w9 c d e i
def Al0 b a:=HH b a As
def Afg:Dk:=some (i,c,0)
def tR:=Afg
def Att(YZ:Bcm)(b:UInt64)(a:Int)(n:UInt64)(k g:Int)(ab:LB):Dk:=(Es (Fu (Gk k (Ag 8 (Dq g 7))) 0)).bind λ_=>YZ (Da n (GI.toZ (Gk k (Ag 8 (Dq g 7)))).toNat) (Ag k (Gk k (Ag 8 (Dq g 7)))) (Af g (Gk k (Ag 8 (Dq g 7)))) ab
def Akl YZ:=Att YZ
def Agi(j26:Bcm)(b:UInt64)(a:Int)(n:UInt64)(k g:Int)(v:LB):Dk:=(Ae v (Ag (Aa v) 1)).bind λ_=>(Es (Fu (Gk k (Ag 8 (Dq g 7))) 0)).bind λ_=>(Es (Fu (Dq g 7) 0)).bind λ_=>(Ae v (Ag (Aa v) 1)).bind λae=>(Ae v (Ag (Aa v) 1)).bind λ_=>Option.bind (Mh v (Ag (Aa v) 1) (B? ae (Fc (Am (Dq n (Ag (Fc (1:UInt64) (GI.toZ (Gk k (Ag 8 (Dq g 7)))).toNat) 1)):UInt8) (GI.toZ (Dq g 7)).toNat))) λab=>j26 n k g ab
def sI YZ b a:=Agi (Akl YZ b a) b a
def pQ(j25:Bcm)(j28:Int->LB->Dk)(b:UInt64)(a:Int)(n:UInt64)(k g:Int)(p:LB):Dk:=if(Dr k 0)then
if(geq (Dq g 7) 0)then(Ay p ([(0:UInt8)]:LB)).bind λw=>j25 n k g w
else
j25 n k g p
else
j28 g p
def HO:Nat->UInt64->Int->Int->LB->Dk
|0,_,_,_,_=>none
|z+1,c,d,e,i=>pQ (sI (HO z) G w9) tR G w9 c d e i
def Amw b a:=HO b a As
abbrev Bc9:=UInt64->Int->UInt64->Int->Int->LB->Dk
def zL(j15:Bc9)(j22:Bc9)(ac:LB)(y:Int)(b:UInt64)(a:Int):Dk:=(Jl ac y).bind λaf=>if(Bb af 0)then
some (([]:LB),0,8)
else
if((Bw a 0)||(Dr a 64))then
some (([]:LB),0,2)
else
if(Bw a 64)then(Es (Fu a 0)).bind λ_=>if(Bb (Da b (GI.toZ a).toNat) 0)then
some (([]:LB),0,16)
else
if(Dr (Af y a) 330000)then
some (([]:LB),0,18)
else(SP ac y).bind λ(ag,ah)=>j15 b a b a ah ag
else
if(Dr (Af y a) 330000)then
some (([]:LB),0,18)
else(SP ac y).bind λ(aa,ai)=>j22 b a b a ai aa
def TW:=zL Al0 Amw
def YG:Bcd:=if((Bw c 0)||(Dr c 48))then
some (0,2)
else
some ((Gk (Af c 1) 48),0)
def gP:Bd2:=(Jl z c).bind λe=>if(Bb e 0)then
some (([]:LB),0,e)
else(YG d).bind λ(i,j)=>if(Bb j 0)then
some (([]:LB),0,j)
else(Es (Fu d 0)).bind λ_=>(TW z c (Ag (Fc (1:UInt64) (GI.toZ d).toNat) 1) i).bind λ(l,A,B)=>some (l,A,B)
abbrev WS:=Option (LB×Int×Int)
def Ako:WS:=(gP z c d).bind λ(e,i,j)=>if(Bb j 0)then
some (([]:LB),0,j)
else(TW e i (Am Y:UInt64) y5).bind λ(l,A,B)=>some (l,A,B)
def Abh:=Ako
def Axs(j2:LB->Int->Int->UInt32->Int->WS)(b:LB)(f:Int)(g:UInt32)(a:Int):WS:=(Jl b f).bind λk=>if(Bb k 0)then
some (([]:LB),0,k)
else
if((Bw a 0)||(Dr a 24))then
some (([]:LB),0,2)
else(Es (Fu a 0)).bind λ_=>(Es (Fu a 0)).bind λ_=>(HW g a).bind λaa=>if aa then
j2 b f 48 g 32
else
j2 b f (Am (Da g (GI.toZ a).toNat):Int) (Dq g (Ag (Fc (1:UInt32) (GI.toZ a).toNat) 1)) a
def nO:=Axs Abh
abbrev Hh:=Option (LB×Int×Int×Int×UInt64×UInt64×Int)
def MI:Hh:=(
(
some (Ba1,c,d,j,(Af G (Ag (Am Y:UInt64) (Da G (GI.toZ (4:UInt64)).toNat))),l7,0)))
def iK:=MI
def mB(j10:Jz3 (UInt64->UInt32->UInt64->LB->Hh))(b:UInt32)(k n:Int)(a o:UInt64)(m:LB)(u:Int):Hh:=j10 k u n a b o m
def Adt:=mB iK
def lE(j9:UInt32->Int->Int->UInt64->UInt64->LB->Int->Hh)(b:UInt32)(f:Int)(a:UInt64)(k:Int)(m:LB)(n:Int)(o:UInt64):Hh:=if(Dr f 0)then(Es (Fu f 0)).bind λ_=>if(Bw (Af a (Ag (Am b:UInt64) (Da a (GI.toZ (4:UInt64)).toNat))) (Fc (16:UInt64) (GI.toZ f).toNat))then
j9 b k n a o m (Ag f 1)
else
if(Bw f 24)then(Es (Fu f 0)).bind λ_=>if(Dr (Af a (Ag (Am b:UInt64) (Da a (GI.toZ (4:UInt64)).toNat))) (Fc (32:UInt64) (GI.toZ f).toNat))then
j9 b k n a o m (Af f 1)
else
j9 b k n a o m f
else
j9 b k n a o m f
else
if(Bw f 24)then(Es (Fu f 0)).bind λ_=>if(Dr (Af a (Ag (Am b:UInt64) (Da a (GI.toZ (4:UInt64)).toNat))) (Fc (32:UInt64) (GI.toZ f).toNat))then
j9 b k n a o m (Af f 1)
else
j9 b k n a o m f
else
j9 b k n a o m f
def PM:=lE Adt
def lC(j8:UInt32->Int->UInt64->Int->LB->Int->UInt64->Hh)(b:UInt32)(f h:Int)(a g:UInt64)(ac k:Int)(m:LB):Hh:=if(Bb ac 0)then
some (([]:LB),0,0,0,0,0,ac)
else(KF f h a g b).bind λ(ag,p)=>if(geq ag 1)then
if(Dr h 0)then(Es (Fu h 0)).bind λ_=>if(Bw (Af g (Ag (Am p:UInt64) (Da g (GI.toZ (4:UInt64)).toNat))) (Fc (16:UInt64) (GI.toZ h).toNat))then
j8 b f a k m (Ag h 1) (Af g (Ag (Am p:UInt64) (Da g (GI.toZ (4:UInt64)).toNat)))
else
if(Bw h 24)then(Es (Fu h 0)).bind λ_=>if(Dr (Af g (Ag (Am p:UInt64) (Da g (GI.toZ (4:UInt64)).toNat))) (Fc (32:UInt64) (GI.toZ h).toNat))then
j8 b f a k m (Af h 1) (Af g (Ag (Am p:UInt64) (Da g (GI.toZ (4:UInt64)).toNat)))
else
j8 b f a k m h (Af g (Ag (Am p:UInt64) (Da g (GI.toZ (4:UInt64)).toNat)))
else
j8 b f a k m h (Af g (Ag (Am p:UInt64) (Da g (GI.toZ (4:UInt64)).toNat)))
else
if(Bw h 24)then(Es (Fu h 0)).bind λ_=>if(Dr (Af g (Ag (Am p:UInt64) (Da g (GI.toZ (4:UInt64)).toNat))) (Fc (32:UInt64) (GI.toZ h).toNat))then
j8 b f a k m (Af h 1) (Af g (Ag (Am p:UInt64) (Da g (GI.toZ (4:UInt64)).toNat)))
else
j8 b f a k m h (Af g (Ag (Am p:UInt64) (Da g (GI.toZ (4:UInt64)).toNat)))
else
j8 b f a k m h (Af g (Ag (Am p:UInt64) (Da g (GI.toZ (4:UInt64)).toNat)))
else
j8 b f a k m h g
def mC:=lC PM
def mI(j7:UInt32->Int->Int->UInt64->UInt64->Int->Int->LB->Hh)(b:UInt32)(v:LB)(w f h:Int)(a g:UInt64):Hh:=(KF f h a g b).bind λ(ad,ae)=>(TW v w (Am ad:UInt64) 1).bind λ(y,aa,ab)=>if((geq ab 0)&&(geq ad 0))then(TW y aa (Am ae:UInt64) f).bind λ(ah,ai,aj)=>j7 b f h a g aj ai ah
else
if(geq ab 0)then(nO y aa ae h).bind λ(ak,al,am)=>j7 b f h a g am al ak
else
j7 b f h a g ab aa y
def Ayd:=mI mC
def mP(j6:UInt32->LB->Jz3 (UInt64->UInt64->Hh))(v:LB)(w f h:Int)(a g:UInt64)(b:UInt32):Hh:=(Jl v w).bind λan=>if(Bb an 0)then
some (([]:LB),0,0,0,0,0,8)
else(YD f h a g).bind λao=>if(Bb ao 0)then
some (([]:LB),0,0,0,0,0,8)
else
j6 b v w f h a g
def nL:=mP Ayd
abbrev Bj:=Option (LB×Int)
def Ard(v:Int)(p:LB):Bj:=(Xn p).bind λ(af,ac)=>if(Bb ac 0)then
some (([]:LB),ac)
else(Mc (Am af:UInt64) 4).bind λ(m,h)=>if(Bb h 0)then
some (([]:LB),h)
else(Ce ([p,m]:Bbw)).bind λag=>some (ag,0)
def JX:=Ard
abbrev Bcg:=Int-> (List (Int×Int×UInt64×UInt64×Unit))->Int->LB->Bj
def Aqs(Uk:Bcg)(b:LU)(a g f:Int)(n:Bby)(k:Int)(w:LB):Bj:=Uk (Af f 1) n k w
def MA Uk:=Aqs Uk
abbrev Bdx:=Int->Int->LB->Bj
def Arv(uy:Bdx)(h:Int)(b:LU)(f a g:Int)(n:Bby)(m:LB)(o k:Int)(ab:LB):Bj:=uy (Af o 1) (Af k 1) ab
def Aqv uy:=Arv uy
def Aqo(j48:Bdx)(h:Int)(b:LU)(f a g:Int)(n:Bby)(m:LB)(o k:Int)(y:LB):Bj:=(Ae m (Ep o 8)).bind λ_=>(Ae m (Ep o 8)).bind λah=>(Es (Fu (Jb o 8) 0)).bind λ_=>(Ae y (Ep k 8)).bind λ_=>(Es (Fu (Jb k 8) 0)).bind λ_=>(Ae y (Ep k 8)).bind λai=>(Ae y (Ep k 8)).bind λ_=>Option.bind (Mh y (Ep k 8) (B? ai (Fc (Dq (Da ah (GI.toZ (Jb o 8)).toNat) 1) (GI.toZ (Jb k 8)).toNat))) λab=>j48 o k ab
def JH uy h b f a g n m:=Aqo (Aqv uy h b f a g n m) h b f a g n m
def LV(j47:Bdx)(j50:Bcg)(b:LU)(a g h f:Int)(n:Bby)(m:LB)(o k:Int)(w:LB):Bj:=if(Bw o h)then
if(geq (Jb k 8) 0)then(Ay w ([(0:UInt8)]:LB)).bind λaj=>j47 o k aj
else
j47 o k w
else
j50 f n k w
def Pm(Uk:Bcg)(b:LU)(a g h f:Int)(n:Bby)(m:LB):Nat->Int->Int->LB->Bj
|0,_,_,_=>none
|q+1,o,k,w=>LV (JH (Pm Uk b a g h f n m q) h b f a g n m) (MA Uk b a g) b a g h f n m o k w
def KB Uk b a g h f n m:=Pm Uk b a g h f n m As
def KE(j44:Int->Int-> (List (Int×Int×UInt64×UInt64×Unit))->LB->Int->Int->LB->Bj)(j52:Int->LB->Bj)(b:LU)(a g f:Int)(u:Bby)(v:Int)(p:LB):Bj:=if(Bw f (Aa b))then(Ae b f).bind λ_=>(Ae b f).bind λak=>(Es (Bb a 0)).bind λ_=>(Ae u (Jb f a)).bind λ_=>(Ae u (Jb f a)).bind λaa=>(nL ([]:LB) 0 aa.1 aa.2.1 aa.2.2.1 aa.2.2.2.1 ak).bind λ(m,h,al,am,an,ao,ad)=>if(Bb ad 0)then
some (([]:LB),ad)
else(Es (Bb a 0)).bind λ_=>(Ae u (Jb f a)).bind λ_=>(Mh u (Jb f a) (al,am,an,ao,())).bind λn=>j44 h f n m 0 v p
else
j52 v p
def Pe:Nat->Int-> (List (Int×Int×UInt64×UInt64×Unit))->Int->LB->Bj
|0,_,_,_,_=>none
|z+1,c,d,e,i=>KE (KB (Pe z) l8 Bam Ban) JX l8 Bam Ban c d e i
def Aqm b a g:=Pe b a g As
def NC(j27:LU->Jz3 ( (List (Int×Int×UInt64×UInt64×Unit))->Int->LB->Bj))(a g:Int)(ap aq:LX):Bj:=(JG a g ap aq).bind λ(b,ae)=>if(Bb ae 0)then
some (([]:LB),ae)
else(AV).bind λar=>j27 b a g 0 ar 0 ([]:LB)
def BQ:=NC Aqm
def To(b f g:Int)(h k:LB)(m:LX)(n:Bbw)(o:LB)(p:Bool)(u a:Int):Bcq:=some (b,f,g,h,([]:LB),([]:LX),([]:Bbw),([]:LB),false,a,a)
abbrev Bl:=Option (Int×Int×Int×LB×LB×LX×(List LB)×LB×Bool×Int×Int)
def Axi:Bl:=some (c,d,j,i,l5,U,l,N,E,I,0)
def VQ:=Axi
abbrev Bcy:=Int->LB->LX-> (List LB)->Bl
def CT(Yq:Bcy)(p:Int)(n:LB)(a b g:Int)(f:LB)(h:Bool)(k o:Int)(m:LB)(u:Int)(ao:LB)(ap:LX)(aq:Bbw):Bl:=Yq (Af u 1) ao ap aq
def Na Yq:=CT Yq
def Axp(j24:Bcy)(p:Int)(n:LB)(a b g:Int)(f:LB)(h:Bool)(k o:Int)(m:LB)(u ad:Int)(ae:LB)(af:LX)(ag:Bbw):Bl:=if(Bb ad 0)then(To a b g f ae af ag m h k ad).bind λ(ar,au,av,aw,ax,ay,az,ba,bb,bc,bd)=>some (ar,au,av,aw,ax,ay,az,ba,bb,bc,bd)
else
j24 u ae af ag
def Ko Yq p n a b g f h k o m:=Axp (Na Yq p n a b g f h k o m) p n a b g f h k o m
abbrev Bcr:=Int->Int->LB->LX-> (List LB)->Bl
def CO(j23:Bcr)(p:Int)(n:LB)(a b g:Int)(f:LB)(h:Bool)(k o:Int)(m:LB)(u:Int)(ab:LX)(v:Bbw)(be:Int):Bl:=j23 u be ([]:LB) ab v
def DI Yq p n a b g f h k o m:=CO (Ko Yq p n a b g f h k o m) p n a b g f h k o m
def UY(j23:Bcr)(p:Int)(n:LB)(a b g:Int)(f:LB)(h:Bool)(k o:Int)(m:LB)(u:Int)(ac:Bbw):Bl:=j23 u 0 ([]:LB) ([]:LX) ac
def SH Yq p n a b g f h k o m:=UY (Ko Yq p n a b g f h k o m) p n a b g f h k o m
def Axl(j23:Bcr)(j21:Int->LX-> (List LB)->Int->Bl)(j22:Int-> (List LB)->Bl)(p:Int)(n:LB)(a b g:Int)(f:LB)(h:Bool)(k o:Int)(m:LB)(u:Int)(aa:LB)(w:LX)(v:Bbw):Bl:=(Qd b aa).bind λ(bf,ah)=>if(Bb ah 0)then
j23 u ah aa w v
else(Ay w bf).bind λab=>if(Bw (Aa ab) (Ch o a))then
j23 u 0 ([]:LB) ab v
else(Nz f).bind λ(bg,ai)=>if(Bb ai 0)then
j21 u ab v ai
else(BQ a b bg ab).bind λ(bh,aj)=>if(Bb aj 0)then
j21 u ab v aj
else(Ay v ([bh]:Bbw)).bind λac=>j22 u ac
def RL Yq p n a b g f h k o m:=Axl (Ko Yq p n a b g f h k o m) (DI Yq p n a b g f h k o m) (SH Yq p n a b g f h k o m) p n a b g f h k o m
def UD(j24:Bcy)(j23:Bcr)(j20:Bcy)(j26:Jz3 (LB->Bool->Int->LB->LX-> (List LB)->LB->Bl))(p:Int)(n:LB)(a b g:Int)(f:LB)(h:Bool)(k o:Int)(m:LB)(u:Int)(y:LB)(w:LX)(v:Bbw):Bl:=if(Bw u (Aa n))then(Ae n u).bind λbi=>(Ay y ([bi]:LB)).bind λaa=>if(Bw (Aa aa) p)then
j24 u aa w v
else(Ur a b g f aa w v m h k o).bind λbj=>(HX a b g f aa w v m h k (Af (Aa v) 1) (Af bj 1)).bind λbk=>if(!bk)then
j23 u 18 aa w v
else
j20 u aa w v
else
j26 a b g f h k y w v m
def Km:Nat->Int->LB->LX-> (List LB)->Bl
|0,_,_,_,_=>none
|z+1,d,e,j,l=>UD (Na (Km z) c i B X l6 R E I o7 l5) (Ko (Km z) c i B X l6 R E I o7 l5) (RL (Km z) c i B X l6 R E I o7 l5) VQ c i B X l6 R E I o7 l5 d e j l
def Ayo p n a b g f h k o m:=Km p n a b g f h k o m As
def bT(j14:Int->LB->Jz3 (LB->Bool->Int->Int->LB->Int->LB->LX-> (List LB)->Bl))(bl bm bn:Int)(bp bq:LB)(br:LX)(bs:Bbw)(bt:LB)(bu:Bool)(bv:Int)(n:LB):Bl:=(EI bl bm bn bp bq br bs bt bu bv).bind λ(a,b,g,f,ak,al,am,m,h,k,o,an)=>if(Bb an 0)then
some (a,b,g,f,ak,al,am,m,h,k,an)
else(Zm a b).bind λp=>j14 p n a b g f h k o m 0 ak al am
def WU:=bT Ayo
def QP:Bcd:=if(Dr (Aa z) 64)then
some (0,2)
else
if(geq (Aa z) 0)then
some (1,0)
else
some (2,0)
abbrev Kw:=Option (LB×Int)
def Ab7:Kw:=(Xn z).bind λ(c,d)=>(Mc (Am c:UInt64) 4).bind λ(e,i)=>(Ay z e).bind λj=>some (j,0)
def bP:=Ab7
def bM(j6:LB->Kw)(CD:Int->LB->Kw)(b f g h k m:Int)(a:LB):Kw:=if(Bw m 5)then(Ae ([b,f,g,h,k]:LI) m).bind λw=>(Ae ([(2:Int),(2:Int),(2:Int),(4:Int),(4:Int)]:LI) m).bind λy=>(Mc (Am w:UInt64) y).bind λ(n,v)=>(Ay a n).bind λo=>CD (Af m 1) o
else
j6 a
def Vv:Nat->Int->LB->Kw
|0,_,_=>none
|z+1,e,i=>bM bP (Vv z) c d j D F e i
def Abw b f g h k:=Vv b f g h k As
def bV(j4:Jz6 (LB->Kw))(b f g h k:Int):Kw:=(HD b f g h k).bind λp=>if(Bb p 0)then
some (([]:LB),p)
else
j4 b f g h k 0 ([(84:UInt8),(84:UInt8),(65:UInt8),(49:UInt8)]:LB)
def XS:=bV Abw
abbrev Fs:=Option (LB×Int)
def Aap:Fs:=some (z,0)
def Ac1:=Aap
def Ab9(j14:LB->Fs)(b:LB):Fs:=(Xn b).bind λ(m,u)=>(Mc (Am m:UInt64) 4).bind λ(n,v)=>(Ay b n).bind λg=>j14 g
def ZX:=Ab9 Ac1
def Acn(bk8:Int->LB->Fs)(a:LI)(f:Int)(h:LB):Fs:=bk8 (Af f 1) h
def aQ bk8:=Acn bk8
def iP(j11:Int->LB->Fs)(j13:LB->Fs)(a:LI)(f:Int)(b:LB):Fs:=if(Bw f (Aa a))then(Ae a f).bind λo=>(Mc (Am o:UInt64) 4).bind λ(p,w)=>(Ay b p).bind λh=>j11 f h
else
j13 b
def Yt:Nat->Int->LB->Fs
|0,_,_=>none
|z+1,c,d=>iP (aQ (Yt z) A) ZX A c d
def Atm a:=Yt a As
def dR(j8:LI->Int->LB->Fs)(a:LI):Fs:=(Se a).bind λk=>if(Bb k 0)then
some (([]:LB),k)
else
j8 a 0 ([]:LB)
def ON:=dR Atm
abbrev Gx:=Option (LB×Int)
def FO(f g h:Int)(b k:LB)(m:LX)(a:Bbw)(n:LB)(o:Bool)(p:Int)(u:LB)(v:LI):Gx:=(ON v).bind λ(aa,y)=>if(Bb y 0)then
some (([]:LB),y)
else(
(Ay u aa).bind λab=>(Ce a).bind λac=>(Ay ab ac).bind λad=>some (ad,0))
def aP:=FO
def aI(j8:Jz3 (LB->LB->LX-> (List LB)->LB->Bool->Int->LB->LI->Gx))(bk6:Int->LI->Gx)(a:Bbw)(f g h:Int)(b k:LB)(m:LX)(n:LB)(o:Bool)(p:Int)(u:LB)(w:Int)(v:LI):Gx:=if(Bw w (Aa a))then(Ae a w).bind λai=>(Ay v ([(Aa ai)]:LI)).bind λaj=>bk6 (Af w 1) aj
else
j8 f g h b k m a n o p u v
def Wh:Nat->Int->LI->Gx
|0,_,_=>none
|z+1,c,d=>aI aP (Wh z) l p8 Bao M p9 Ba3 Bap Ba4 Bbp Bbq Bbr c d
def Abo a f g h b k m n o p u:=Wh a f g h b k m n o p u As
def bR(j6:(List LB)->Jz3 (LB->LB->LX->LB->Bool->Int->LB->Int->LI->Gx))(f g h:Int)(b k:LB)(m:LX)(a:Bbw)(n:LB)(o:Bool)(p:Int)(u:LB):Gx:=j6 a f g h b k m n o p u 0 ([]:LI)
def Aa4:=bR Abo
def ZK(j5:Jz3 (LB->LB->LX-> (List LB)->LB->Bool->Int->LB->Gx))(f g h:Int)(b k:LB)(m:LX)(a:Bbw)(n:LB)(o:Bool)(p ak:Int):Gx:=(QP b).bind λ(al,ae)=>if(Bb ae 0)then
some (([]:LB),ae)
else(XS al f g h ak).bind λ(af,ag)=>if(Bb ag 0)then
some (([]:LB),ag)
else
if(b !=([]:LB))then(HS b).bind λ(am,ah)=>if(Bb ah 0)then
some (([]:LB),ah)
else(Ay af am).bind λan=>j5 f g h b k m a n o p an
else
j5 f g h b k m a n o p af
def YQ:=ZK Aa4
abbrev Kn:=Option (Int×Int×Int×LB×LB×LX×(List LB)×LB×Bool×Int×Int)
def Atg:Kn:=(YQ d j D i l5 Bap Bbd N E I c).bind λ(z,e)=>if(Bb e 0)then(To d j D i l5 Bap Bbd N E I e).bind λ(l,A,B,C,F,G,J,L,M,O,P)=>some (l,A,B,C,F,G,J,L,M,O,P)
else
some (d,j,D,i,([]:LB),([]:LX),([]:Bbw),z,true,0,0)
def AW:=Atg
abbrev Bcs:=Jz4 (LB->Bool->Int->LB->LB->LX-> (List LB)->Kn)
def Atj(j4:Bcs)(o a b g:Int)(f:LB)(k:Bool)(m:Int)(h n:LB)(ad:Int)(ae:LX)(af:Bbw):Kn:=if(Bb ad 0)then(To a b g f h ae af n k m ad).bind λ(au,v,w,av,aw,ax,y,aa,ay,az,ba)=>some (au,v,w,av,aw,ax,y,aa,ay,az,ba)
else
j4 o a b g f k m h n ae af
def NR:=Atj AW
def Avg(j3:Jz4 (LB->Bool->Int->LB->LB->Int->LX-> (List LB)->Kn))(j4:Bcs)(bb bc bd:Int)(be bf:LB)(bg:LX)(bh:Bbw)(bi:LB)(bj:Bool)(bk:Int):Kn:=(EI bb bc bd be bf bg bh bi bj bk).bind λ(a,b,g,f,h,p,u,n,k,m,bl,ag)=>if(Bb ag 0)then
some (a,b,g,f,h,p,u,n,k,m,ag)
else(Ur a b g f h p u n k m bl).bind λo=>if((Dr (Aa h) 0)||(geq o 0))then(To a b g f h p u n k m 24).bind λ(bm,bn,bp,bq,br,bs,bt,bu,bv,bw,bx)=>some (bm,bn,bp,bq,br,bs,bt,bu,bv,bw,bx)
else
if(Dr (Aa p) 0)then(Nz f).bind λ(bz,ah)=>if(Bb ah 0)then
j3 o a b g f k m h n ah p u
else(BQ a b bz p).bind λ(da,ai)=>if(Bb ai 0)then
j3 o a b g f k m h n ai p u
else(Ay u ([da]:Bbw)).bind λdb=>j3 o a b g f k m h n 0 ([]:LX) db
else
j4 o a b g f k m h n p u
def IU:=Avg NR AW
abbrev Gi:=Option (LB×Int)
def Ata(aw bf bg bh:Int)(bi:LB)(bj:Bool)(bk:Int)(bl:LB)(bm:LX)(bn:Bbw)(bc:LB):Gi:=if(Bb aw 0)then
some (([]:LB),aw)
else
some (bc,0)
def OJ:=Ata
abbrev Bct:=Jz4 (LB->Bool->Int->LB->LX-> (List LB)->LB->Gi)
def Avl(j6:Bct)(w a y aa ab:Int)(ac:LB)(ad:Bool)(ae b f g:Int)(h k:LB)(m:LX)(n:Bbw)(o:LB)(p:Bool)(u:Int)(af:LB)(ag:LX)(ah:Bbw)(ai:LB):Gi:=j6 w y aa ab ac ad ae af ag ah ai
def Aul:=Avl OJ
abbrev Bca:=Jz5 (LB->Bool->Int->Int->Int->Int->LB->LB->LX-> (List LB)->LB->Bool->Int->LB->LX-> (List LB)->LB->Gi)
def Asm(j6:Bct)(j5:Bca)(v a aj ak al:Int)(am:LB)(an:Bool)(ao b f g:Int)(h k:LB)(m:LX)(n:Bbw)(o:LB)(p:Bool)(u:Int)(ap:LB)(aq:LX)(ar:Bbw)(au:LB):Gi:=if(Bb v 0)then
j6 v 0 0 0 ([]:LB) false 0 ([]:LB) ([]:LX) ([]:Bbw) ([]:LB)
else(IU aj ak al am ap aq ar au an ao).bind λ(y,aa,ab,ac,af,ag,ah,ai,ad,ae,w)=>j5 w a y aa ab ac ad ae b f g h k m n o p u af ag ah ai
def Ava:=Asm OJ Aul
def Au7(j4:Bca)(ax av ay:Int)(az:LX)(bd:LB):Gi:=(XA ax av ay az).bind λba=>if(Bb ba 0)then
some (([]:LB),ba)
else(Ki av az).bind λ(be,bb)=>if(Bb bb 0)then
some (([]:LB),bb)
else(fU ax av ay bd).bind λ(b,f,g,h,k,m,n,o,p,u,a)=>if(Bb a 0)then
some (([]:LB),a)
else(WU b f g h k m n o p u be).bind λ(aj,ak,al,am,ap,aq,ar,au,an,ao,v)=>j4 v a aj ak al am an ao b f g h k m n o p u ap aq ar au
def IN:=Au7 Ava
abbrev Ac:=Option (LB×LB×LB)
def Afu:Ac:=some (([119,104,97,116]:LB),z,e)
def Yc:=Afu
def Aj6:Ac:=some (i,z,e)
def Nv:=Aj6
def Agy:Ac:=some (z,i,e)
def Ai3:=Agy
abbrev Bbz:=LB->LB->LB->Ac
def Aje(j100:Bbz)(g a hr:LB):Ac:=j100 g a hr
def Ajv:=Aje Nv
def Ajo(j101:Bbz)(ag a al:LB):Ac:=j101 ag a al
def Akc:=Ajo Ai3
def Ajf(j98:Bbz)(j99:Bbz)(g a:LB)(k:LI):Ac:=(Ae k 0).bind λ_=>(Ae k 0).bind λhs=>(Bi g 0 hs).bind λht=>(Bk ht).bind λal=>if(Bb (0:Int) (0:Int))then(Ak 0).bind λdr=>j98 g a dr
else
if(Dr (Aa al) 100000)then(Ak 4).bind λds=>j98 g a ds
else(strconv_Itoa (Aa al)).bind λag=>j99 ag a al
def Ok:=Ajf Ajv Akc
def Aj8:Ac:=some (z,e,i)
def Aet:=Aj8
def Ag8(j128:Bbz)(aa aj:Int)(ah:UInt8)(ab ai:Int)(g a:LB):Ac:=(Ek ([(Am ah:Int),ab,ai]:LI) aa).bind λdt=>j128 dt g a
def Xf:=Ag8 Aet
def Agt:Ac:=some (z,e,i)
def Yj:=Agt
def Aga:Ac:=some (z,e,i)
def Xz:=Aga
def Agx:Ac:=some (z,e,i)
def Xq:=Agx
def Aho:Ac:=some (i,z,e)
def Nw:=Aho
def Afd:Ac:=some (z,i,e)
def Agu:=Afd
def Af7(j135:Bbz)(g a hv:LB):Ac:=j135 g a hv
def Afc:=Af7 Nw
def Ags(j136:Bbz)(br a ax:LB):Ac:=j136 br a ax
def Afb:=Ags Agu
def Af6(j133:Bbz)(j134:Bbz)(g a:LB)(k:LI):Ac:=(Ae k 0).bind λ_=>(Ae k 1).bind λ_=>(Ae k 0).bind λhw=>(Ae k 1).bind λbs=>(dX g hw (Am bs:UInt8)).bind λ(ax,gs)=>if(Bb gs 0)then(Ak gs).bind λhx=>j133 g a hx
else
if(Dr (Aa ax) 100000)then(Ak 4).bind λhy=>j133 g a hy
else(strconv_Itoa (Aa ax)).bind λbr=>j134 br a ax
def Xj:=Af6 Afc Afb
def Aic:Ac:=some (i,z,e)
def Nk:=Aic
def Afs:Ac:=some (z,i,e)
def Afn:=Afs
def Agd(j139:Bbz)(g a ka:LB):Ac:=j139 g a ka
def Xl:=Agd Nk
def Aff(j140:Bbz)(ay a am:LB):Ac:=j140 ay a am
def Yi:=Aff Afn
def Afm:Ac:=some (z,e,i)
def Aj9:=Afm
def Af8(j142:Bbz)(bt bu:Int)(g a:LB):Ac:=(Ek ([bt]:LI) bu).bind λdu=>j142 du g a
def Xo:=Af8 Aj9
def Aeo:Ac:=some (z,e,i)
def Afo:=Aeo
def Aft:Ac:=some (z,i,e)
def Afa:=Aft
def Agw(j149:Bbz)(g a dv:LB):Ac:=j149 dv g a
def Afq:=Agw Afo
def Aig(j150:Bbz)(bv a az:LB):Ac:=j150 bv a az
def Aj4:=Aig Afa
def Agb(j147:Bbz)(j148:Bbz)(g a:LB)(p u v:Int)(ac:LX):Ac:=(IN p u v ac a).bind λ(az,gt)=>if(Bb gt 0)then(Ak gt).bind λkb=>j147 g a kb
else
if(Dr (Aa az) 100000)then(Ak 4).bind λkc=>j147 g a kc
else(strconv_Itoa (Aa az)).bind λbv=>j148 bv a az
def Xy:=Agb Afq Aj4
def Xm(j146:LB->LB->Jz3 (LX->Ac))(Au8:Int->LX->Ac)(w:LI)(g a:LB)(p u v af:Int)(ac:LX):Ac:=if(Bw af (Aa w))then(Ae w af).bind λkd=>(Ay ac ([(Am kd:Int32)]:LX)).bind λke=>Au8 (Af af 1) ke
else
j146 g a p u v ac
def Jg:Nat->Int->LX->Ac
|0,_,_=>none
|z+1,c,d=>Xm Xy (Jg z) A i o9 B X l6 c d
def Aew w g a p u v:=Jg w g a p u v As
def Yk(j144:LI->LB->LB->Jz4 (LX->Ac))(g a:LB)(k:LI)(p u v:Int):Ac:=(Bi k 3 (Aa k)).bind λw=>j144 w g a p u v 0 ([]:LX)
def Ajb:=Yk Aew
abbrev Bd8:=LB->LB->Ac
abbrev Bda:=Int->Int->UInt8->Int->Int->LB->LB->Ac
def Ou(j100:Bbz)(j97:LB->LB->LI->Ac)(j126:Bd8)(j127:Bda)(j129:Bbz)(j130:Bbz)(j131:Bbz)(j135:Bbz)(j132:LB->LB->LI->Ac)(j139:Bbz)(j137:Bbz)(j138:Bbz)(j141:Int->Int->LB->LB->Ac)(j143:LB->LB->LI->Jz3 Ac)(h g a:LB)(k:LI):Ac:=if(h==[99,117,116])then
if((true&&(Fu (Aa k) 1))&&(TH (Aa k) 1))then(Ae k 0).bind λ_=>(Ae k 0).bind λbw=>if(Bw bw 0)then(Ak 2).bind λaq=>j100 g a aq
else(Ae k 0).bind λ_=>(Ae k 0).bind λdw=>if(Dr dw (Aa g))then(Ak 2).bind λdx=>j100 g a dx
else
j97 g a k
else
j126 g a
else
if(h==[112,108,97,99,101])then
if((true&&(Fu (Aa k) 1))&&(TH (Aa k) 1))then(Ae k 0).bind λ_=>(
(
(
(Ae k 0).bind λan=>(
(Mi g a an).bind λ(aj,ah,ab,ai,aa)=>j127 aa aj ah ab ai g a))))
else
j126 g a
else
if(h==[102,114,97,109,101])then
if((true&&(Fu (Aa k) 1))&&(TH (Aa k) 1))then(Ae k 0).bind λ_=>(Ae k 0).bind λdy=>(Pa g a dy).bind λ(dz,fa)=>(Ei dz fa).bind λbn=>j129 bn g a
else
j126 g a
else
if(h==[102,114,111,109])then
if((true&&(Fu (Aa k) 1))&&(TH (Aa k) 1))then(Ae k 0).bind λ_=>(Ae k 0).bind λfb=>(Xp g a fb).bind λ(fc,fd)=>(Ei fc fd).bind λbp=>j130 bp g a
else
j126 g a
else
if(h==[97,116])then
if((true&&(Fu (Aa k) 1))&&(TH (Aa k) 1))then(Ae k 0).bind λ_=>(Ae k 0).bind λfe=>(WC g a fe).bind λ(ff,fg)=>(Ei ff fg).bind λbq=>j131 bq g a
else
j126 g a
else
if(h==[102,108,105,112])then
if((true&&(Fu (Aa k) 2))&&(TH (Aa k) 2))then(Ae k 1).bind λ_=>(Ae k 1).bind λfh=>if(Bw fh 0)then(Ak 2).bind λfi=>j135 g a fi
else(Ae k 1).bind λ_=>(Ae k 1).bind λfj=>if(Dr fj 255)then(Ak 2).bind λfk=>j135 g a fk
else
j132 g a k
else
j126 g a
else
if(h==[98,117,114,115,116])then
if((true&&(Fu (Aa k) 2))&&(TH (Aa k) 2))then(Ae k 1).bind λ_=>(Ae k 1).bind λbs=>if(Bw bs 0)then(Ak 2).bind λfl=>j139 g a fl
else(Ae k 0).bind λ_=>(Ae k 1).bind λ_=>(Ae k 0).bind λfm=>(Ae k 1).bind λfn=>(HP g fm (Am fn:UInt32)).bind λ(am,bx)=>if(Bb bx 0)then(Ak bx).bind λfo=>j137 g a fo
else
if(Dr (Aa am) 100000)then(Ak 4).bind λfp=>j137 g a fp
else(strconv_Itoa (Aa am)).bind λay=>j138 ay a am
else
j126 g a
else
if(h==[119,97,121,115])then
if((true&&(Fu (Aa k) 2))&&(TH (Aa k) 2))then(Ae k 0).bind λ_=>(Ae k 1).bind λ_=>(Ae k 0).bind λfq=>(Ae k 1).bind λfs=>(OW a g fq fs).bind λ(bt,bu)=>j141 bt bu g a
else
j126 g a
else
if(h==[99,108,105,112])then
if((true&&(Fu (Aa k) 3))&&(TH (Aa k) 3000))then(Ae k 0).bind λ_=>(Ae k 1).bind λ_=>(Ae k 2).bind λ_=>(Ae k 0).bind λp=>(Ae k 1).bind λu=>(Ae k 2).bind λv=>(
j143 g a k p u v)
else
j126 g a
else
if((false&&(Fu (Aa k) 0))&&(TH (Aa k) 0))then
none
else
j126 g a
def Pk:=Ou Nv Ok Yc Xf Yj Xz Xq Nw Xj Nk Xl Yi Xo Ajb
def BY(j96:LB->LB->LB->LI->Ac)(Aw1:Int->LI->Ac)(h:LB)(m:Bbw)(g a:LB)(y:Int)(k:LI):Ac:=if(Bw y (Aa m))then(Ae m y).bind λbw=>(Hg bw).bind λ(kf,kg)=>if(!kg)then
some (([119,104,97,116]:LB),g,a)
else(Ay k ([kf]:LI)).bind λn=>Aw1 (Af y 1) n
else
j96 h g a k
def Jv:Nat->Int->LI->Ac
|0,_,_=>none
|c+1,d,e=>BY Pk (Jv c) z l N p9 d e
def BC h m g a:=Jv h m g a As
def Cm(j94:LB-> (List LB)->LB->LB->Int->LI->Ac)(h:LB)(m:Bbw)(g a:LB):Ac:=j94 h m g a 0 ([]:LI)
def Zf:=Cm BC
abbrev Bcz:=LB-> (List LB)->LB->LB->Ac
def Cu(j93:Bcz)(h:LB)(m:Bbw)(kh:LB)(ki:Bool)(g a:LB):Ac:=if ki then
some (kh,g,a)
else
j93 h m g a
def Dg:=Cu Zf
abbrev Bb9:=LB-> (List LB)->LB->Bool->LB->LB->Ac
def Pj(j92:Bb9)(h:LB)(m:Bbw)(f b:LB):Ac:=j92 h m ([]:LB) false f b
def Zl:=Pj Dg
def Pn(j92:Bb9)(h:LB)(m:Bbw)(f b kj:LB):Ac:=j92 h m kj true f b
def BK:=Pn Dg
def Oy(j92:Bb9)(bz h:LB)(m:Bbw)(b ar:LB):Ac:=j92 h m bz true ar b
def Zz:=Oy Dg
def Nh(j92:Bb9)(h:LB)(m:Bbw)(f b kk:LB):Ac:=j92 h m kk true f b
def Yl:=Nh Dg
def Nf(j92:Bb9)(da h:LB)(m:Bbw)(b ao:LB):Ac:=j92 h m da true ao b
def Xr:=Nf Dg
def Gm(j92:Bb9)(db h:LB)(m:Bbw)(f b:LB):Ac:=j92 h m db true f b
def Jc:=Gm Dg
abbrev Bcv:=LB->LB-> (List LB)->LB->LB->Ac
def Xg(j157:Bcv)(h:LB)(m ad:Bbw)(f b:LB):Ac:=(HK ad ([32]:LB)).bind λdb=>j157 db h m f b
def Ah1:=Xg Jc
def Yn(j156:LB-> (List LB)-> (List LB)->LB->LB->Ac)(Au9:Int-> (List LB)->Ac)(n:Bb5)(h:LB)(m:Bbw)(f b:LB)(ae:Int)(ad:Bbw):Ac:=if(Bw ae (Aa n))then(Ae n ae).bind λ_=>(Ae n ae).bind λgu=>(strconv_Itoa gu.1).bind λdr=>(Ay dr ([58]:LB)).bind λds=>(strconv_Itoa (Aa gu.2.1)).bind λag=>(Ay ds ag).bind λkl=>(Ay ad ([kl]:Bbw)).bind λkm=>Au9 (Af ae 1) km
else
j156 h m ad f b
def Jd(n:Bb5)(h:LB)(m:Bbw)(f b:LB):Nat->Int-> (List LB)->Ac
|0,_,_=>none
|q+1,ae,ad=>Yn Ah1 (Jd n h m f b q) n h m f b ae ad
def Ag9 n h m f b:=Jd n h m f b As
def Xx(j157:Bcv)(j154:(List (Int×LB×Unit))->LB-> (List LB)->LB->LB->Int-> (List LB)->Ac)(ap:Int)(h:LB)(m:Bbw)(n:Bb5)(f b:LB):Ac:=if(Bb ap 0)then(Ak ap).bind λdb=>j157 db h m f b
else
j154 n h m f b 0 ([]:Bbw)
def Aem:=Xx Jc Ag9
abbrev Bdk:=LB-> (List LB)->LB->LB->LB->Ac
def Ot(j92:Bb9)(j82:Bdk)(j83:Bcv)(j151:Bdk)(j152:Bcv)(j153:Int->LB-> (List LB)-> (List (Int×LB×Unit))->LB->LB->Ac)(j91:Bcz)(h:LB)(m:Bbw)(f b:LB):Ac:=if((h==([112,97,115,115,119,111,114,100]:LB))&&(geq (Aa m) 1))then(Ae m 0).bind λft=>if(Dr (Aa ft) 64)then(Ak 2).bind λba=>j92 h m ba true f b
else(Ae m 0).bind λfu=>j92 h m ([111,107]:LB) true f fu
else
if(((h==([102,105,108,101]:LB))||(h==([97,100,100]:LB)))&&(geq (Aa m) 1))then(Ae m 0).bind λfv=>(Im fv).bind λ(ao,fw)=>if(!fw)then
j92 h m ([119,104,97,116]:LB) true f b
else
if(h==([97,100,100]:LB))then(Ce ([f,ao]:Bbw)).bind λar=>if(Bb (0:Int) (0:Int))then(Ak 0).bind λfx=>j82 h m f b fx
else
if(Dr (Aa ar) 100000)then(Ak 4).bind λfy=>j82 h m f b fy
else(strconv_Itoa (Aa ar)).bind λbz=>j83 bz h m b ar
else
if(Bb (0:Int) (0:Int))then(Ak 0).bind λfz=>j151 h m f b fz
else
if(Dr (Aa ao) 100000)then(Ak 4).bind λga=>j151 h m f b ga
else(strconv_Itoa (Aa ao)).bind λda=>j152 da h m b ao
else
if((h==([115,99,114,105,112,116]:LB))||(h==([112,101,97,107]:LB)))then(Ux m).bind λ(dc,gb)=>if(!gb)then
j92 h m ([119,104,97,116]:LB) true f b
else
if(h==([112,101,97,107]:LB))then(NS b f dc).bind λ(ak,au,av)=>(Ek ([ak,au]:LI) av).bind λgc=>j92 h m gc true f b
else(
(
(
(Uz b f dc).bind λ(gd,kn,dd,de,df,ko,dg,kp,kq,kr,ks,dh,n,ap)=>j153 ap h m n f b)))
else
j91 h m f b
def Pg:=Ot Dg BK Zz Yl Xr Aem Zl
def Akd:Ac:=some (([119,104,97,116]:LB),z,e)
def BS:=Akd
def Ajw:Ac:=some (([111,107]:LB),z,([]:LB))
def AH:=Ajw
def Ajs:Ac:=some (z,e,i)
def Akf:=Ajs
def Ajr:Ac:=some (z,([]:LB),e)
def Ak8:=Ajr
def Ajp(j68:Bbz)(f b ge:LB):Ac:=j68 ge f b
def Yv:=Ajp Akf
def Ajd(j69:Bd8)(bb b:LB):Ac:=j69 bb b
def BL:=Ajd Ak8
def Agg:Ac:=some (z,e,i)
def Yb:=Agg
def Age:Ac:=some (i,z,e)
def Af9:=Age
def Aiq(j160:Bbz)(ak bc bd be bf bg bh bi:Int)(bj:UInt8)(bk bl:Int)(f b:LB)(bm:LI):Ac:=if(Bb ak 0)then(Ak ak).bind λku=>j160 f b ku
else(oX bc bd be bf bg bh bm bi bj bk bl).bind λ(kv,aw)=>if(Bb aw 0)then(Ak aw).bind λgd=>j160 f b gd
else(Ge kv ([10]:LB)).bind λkw=>(Wq kw ([10]:LB) ([32,47,32]:LB)).bind λdj=>j160 f b dj
def Yd:=Aiq Af9
def Ah7:Ac:=some (z,e,i)
def Aid:=Ah7
def Afp(j162:Bbz)(dk au:Int)(av:UInt8)(aw dl:Int)(f b:LB):Ac:=(Ek ([au,(Am av:Int),aw,dl]:LI) dk).bind λdj=>j162 dj f b
def Xk:=Afp Aid
def Afe:Ac:=some (z,e,i)
def Xs:=Afe
def Agv:Ac:=some (z,e,i)
def Ym:=Agv
def Afr:Ac:=some (z,e,i)
def Xu:=Afr
def Agf:Ac:=some (z,e,i)
def Yh:=Agf
def Agz:Ac:=some (z,e,i)
def Ya:=Agz
def Oq(j65:LB->Ac)(j66:Bbz)(j67:Bd8)(j158:Bbz)(j159:Jz8 (UInt8->Int->Int->LB->LB->LI->Ac))(j161:Bda)(j163:Bbz)(j164:Bbz)(j165:Bbz)(j166:Bbz)(j167:Bbz)(j80:Bd8)(j81:Bcz)(h:LB)(m:Bbw)(f b:LB):Ac:=if(geq (Aa m) 0)then
if(h==[112,97,115,115,119,111,114,100])then
j65 f
else
if(h==[102,105,108,101])then
if(Bb (0:Int) (0:Int))then(Ak 0).bind λgf=>j66 f b gf
else
if(Dr (0:Int) (100000:Int))then(Ak 4).bind λba=>j66 f b ba
else(strconv_Itoa 0).bind λbb=>j67 bb b
else
if(h==[104,101,120])then(Ei f 0).bind λdi=>j158 di f b
else
if(h==[114,101,112,111,114,116])then(
(
(
(rK f b).bind λ(bc,bd,be,bf,bg,bh,bm,bi,bj,bk,bl,ak)=>j159 ak bc bd be bf bg bh bi bj bk bl f b bm)))
else
if(h==[116,111,108,100])then(
(
(
(EP f b).bind λ(au,av,aw,dl,dk)=>j161 dk au av aw dl f b)))
else
if(h==[115,97,109,112,108,101,115])then(Rv f b).bind λ(dd,de,df,gg,dg)=>(Gb dd de df gg dg).bind λdm=>j163 dm f b
else
if(h==[98,97,100])then(YK f b).bind λ(gh,gi)=>(Ek gh gi).bind λaq=>j164 aq f b
else
if(h==[115,107,105,112])then(
(
(
(Qk f b 1).bind λ(dh,gj,ap,al,kx,ab)=>(Gb dh gj ap al ab).bind λag=>j165 ag f b)))
else
if(h==[115,105,108,101,110,116])then(
(
(
(Qk f b 2).bind λ(aa,gk,gl,gm,ky,gn)=>(Gb aa gk gl gm gn).bind λdn=>j166 dn f b)))
else
if(h==[119,97,118])then(EK f b).bind λ(go,gp)=>(Ei go gp).bind λdp=>j167 dp f b
else
j80 f b
else
j81 h m f b
def On:=Oq AH Yv BL Yb Yd Xk Xs Ym Xu Yh Ya BS Pg
def Qr(j64:Bcz)(f b:LB)(o:Bbw):Ac:=(Ae o 0).bind λh=>(Bi o 1 (Aa o)).bind λm=>j64 h m f b
def Di:=Qr On
def Ez(f b:LB):List LB->List LB->Option (LB×LB×LB)
|[],o=>Di f b o
|x::xs,o=>if(x==[])=true then some ([119,104,97,116],f,b)else Option.bind (Ay o [x]) λgq=>Ez f b xs gq
def Cd:Option (LB×LB×LB):=Option.bind (vX 32 i) λc=>Ez z e c []
def Mo:List LB->LB->LB->LB->Option (LB×Int)
|[],b,f,a=>(Es (decide (Aa a<=17179869184))).bind λ_=>some (a,0)
|g::xs,b,f,a=>(Ge g ([10]:LB)).bind λk=>(Cd b f k).bind λ(m,n,o)=>(Ay m ([10]:LB)).bind λp=>(Ay a p).bind λu=>Mo xs n o u
def Xw:Bck:=(Qa z).bind λc=>if(Bb c 0)then
some (([]:LB),c)
else(q! z).bind λd=>Mo d ([]:LB) ([]:LB) ([]:LB)
def NH:Bbx:=(Xw z).bind λ(c,d)=>some ((geq d 0)&&(c==e))
def Pd:Bbx:=(lU ([99,108,105,112,32,49,32,56,32,49,32,49,32,50,10,115,97,109,112,108,101,115,10,114,101,112,111,114,116,10,102,108,105,112,32,52,53,32,49,10,116,111,108,100,10,115,105,108,101,110,116,10,115,99,114,105,112,116,32,102,52,48,32,100,57,32,102,57,32,101,10,119,104,97,116,10]:LB)).bind λ(a,b)=>if((geq b 0)&&(geq a 8))then(NH ([99,108,105,112,32,49,32,56,32,49,32,49,32,50,10,115,97,109,112,108,101,115,10,114,101,112,111,114,116,10,102,108,105,112,32,52,53,32,49,10,116,111,108,100,10,115,105,108,101,110,116,10,115,99,114,105,112,116,32,102,52,48,32,100,57,32,102,57,32,101,10,119,104,97,116,10]:LB) ([52,54,10,49,32,50,10,102,111,114,109,97,116,32,49,32,99,104,97,110,110,101,108,115,32,49,32,98,105,116,115,32,56,32,114,97,116,101,32,49,32,99,111,117,110,116,32,50,32,47,32,102,114,97,109,101,115,32,51,52,58,32,54,32,54,32,47,32,102,111,117,110,100,32,48,32,48,32,48,32,50,10,52,54,10,50,50,32,53,32,49,32,49,10,49,32,48,10,48,58,48,32,48,58,49,32,50,50,58,48,32,50,50,58,48,10,119,104,97,116,10]:LB)).bind λf=>some f
else
some false
def Lh:Bbv:=if((Dr (Aa z) 3000)||(Dr c 40))then
some 4
else
if(Dr (Aa z) 0)then(Ae z (Ag (Aa z) 1)).bind λd=>if(Bb d 10)then
some 12
else
some 0
else
some 0
def CK:=Lh
def Qp(j6:LB->Int->Option Int)(CD:Bdi)(a:LB)(b f:Int):Bbv:=if(Bw f (Aa a))then(Ae a f).bind λg=>if(geq g 10)then
CD (Af b 1) (Af f 1)
else
CD b (Af f 1)
else
j6 a b
def Ht:Nat->Int->Int->Option Int
|0,_,_=>none
|c+1,d,e=>Qp CK (Ht c) z d e
def Al8 a:=Ht a As
def CM(j4:LB->Int->Int->Option Int)(a:LB):Bbv:=j4 a 0 0
def Gh:=CM Al8
abbrev Ey:=Option ((List LB))
def CF:Ey:=some l
def Qq:=CF
def Hr(j6:(List LB)->Ey)(CD:Int->Int-> (List LB)->Ey)(a:LB)(g b:Int)(f:Bbw):Ey:=if(Bw b (Aa a))then(Ae a b).bind λh=>if(geq h 10)then(Bi a g b).bind λk=>(Ay f ([k]:Bbw)).bind λm=>CD (Af b 1) (Af b 1) m
else
CD g (Af b 1) f
else
j6 f
def Cf:Nat->Int->Int-> (List LB)->Ey
|0,_,_,_=>none
|c+1,d,e,i=>Hr Qq (Cf c) z d e i
def Alc a:=Cf a As
def CE(j4:LB->Int->Int-> (List LB)->Ey)(a:LB):Ey:=j4 a 0 0 ([]:Bbw)
def Ld:=CE Alc
def Ww:Bbx:=(Gh z).bind λc=>if(Bb c 0)then
some (Dr (Aa z) 3500)
else
if(Dr (Aa z) 800)then
some true
else(Ld z).bind λd=>some (Dr (Aa d) 15)
def Ny:Bbx:=(Ww z).bind λc=>if(!c)then(Gh z).bind λd=>some (geq d 0)
else
some false
def Kx:Option ((List LB)×Bool):=(Xw z).bind λ(c,d)=>if(Bb d 0)then
some (([]:Bbw),false)
else
if(Dr (Aa c) 0)then(Ae c (Ag (Aa c) 1)).bind λe=>if(Bb e 10)then
some (([]:Bbw),false)
else(Ld c).bind λi=>some (i,true)
else(Ld c).bind λj=>some (j,true)
def Fi:Option LB:=if decide (0<=c/\c<=9223372036854775807)=true then some (gN 20 c.toNat [])else none
def Kz:Bbx:=(Ay z ([102,105,108,101,10]:LB)).bind λc=>(Ay c p9).bind λd=>(Ay d ([10,116,111,108,100,10,115,97,109,112,108,101,115,10,104,101,120,10]:LB)).bind λe=>(Kx e).bind λ(i,j)=>if((E&&j)&&(Fu (Aa i) 5))then(Ae i (Ag (Aa i) 5)).bind λ_=>(Ae i (Ag (Aa i) 5)).bind λA=>if(A==([48]:LB))then(Ae i (Ag (Aa i) 4)).bind λ_=>(Ae i (Ag (Aa i) 4)).bind λB=>(Fi (Ep (Aa N) 2)).bind λC=>if(B==C)then(Ae i (Ag (Aa i) 3)).bind λ_=>(Ae l (Ag (Aa l) 3)).bind λ_=>(Ae i (Ag (Aa i) 3)).bind λD=>(Ae l (Ag (Aa l) 3)).bind λF=>if(D==F)then(Ae i (Ag (Aa i) 2)).bind λ_=>(Ae l (Ag (Aa l) 2)).bind λ_=>(Ae i (Ag (Aa i) 2)).bind λG=>(Ae l (Ag (Aa l) 2)).bind λI=>if(G==I)then(Ae i (Ag (Aa i) 1)).bind λ_=>(Ae i (Ag (Aa i) 1)).bind λJ=>some (J==N)
else
some false
else
if false then(Ae i (Ag (Aa i) 1)).bind λ_=>(Ae i (Ag (Aa i) 1)).bind λL=>some (L==N)
else
some false
else
if false then(Ae i (Ag (Aa i) 2)).bind λ_=>(Ae l (Ag (Aa l) 2)).bind λ_=>(Ae i (Ag (Aa i) 2)).bind λM=>(Ae l (Ag (Aa l) 2)).bind λO=>if(M==O)then(Ae i (Ag (Aa i) 1)).bind λ_=>(Ae i (Ag (Aa i) 1)).bind λP=>some (P==N)
else
some false
else
if false then(Ae i (Ag (Aa i) 1)).bind λ_=>(Ae i (Ag (Aa i) 1)).bind λR=>some (R==N)
else
some false
else
if false then(Ae i (Ag (Aa i) 3)).bind λ_=>(Ae l (Ag (Aa l) 3)).bind λ_=>(Ae i (Ag (Aa i) 3)).bind λU=>(Ae l (Ag (Aa l) 3)).bind λV=>if(U==V)then(Ae i (Ag (Aa i) 2)).bind λ_=>(Ae l (Ag (Aa l) 2)).bind λ_=>(Ae i (Ag (Aa i) 2)).bind λX=>(Ae l (Ag (Aa l) 2)).bind λY=>if(X==Y)then(Ae i (Ag (Aa i) 1)).bind λ_=>(Ae i (Ag (Aa i) 1)).bind λZ=>some (Z==N)
else
some false
else
if false then(Ae i (Ag (Aa i) 1)).bind λ_=>(Ae i (Ag (Aa i) 1)).bind λl5=>some (l5==N)
else
some false
else
if false then(Ae i (Ag (Aa i) 2)).bind λ_=>(Ae l (Ag (Aa l) 2)).bind λ_=>(Ae i (Ag (Aa i) 2)).bind λl6=>(Ae l (Ag (Aa l) 2)).bind λl7=>if(l6==l7)then(Ae i (Ag (Aa i) 1)).bind λ_=>(Ae i (Ag (Aa i) 1)).bind λl8=>some (l8==N)
else
some false
else
if false then(Ae i (Ag (Aa i) 1)).bind λ_=>(Ae i (Ag (Aa i) 1)).bind λl9=>some (l9==N)
else
some false
else
if false then(Ae i (Ag (Aa i) 4)).bind λ_=>(Ae i (Ag (Aa i) 4)).bind λo7=>(Fi (Ep (Aa N) 2)).bind λo8=>if(o7==o8)then(Ae i (Ag (Aa i) 3)).bind λ_=>(Ae l (Ag (Aa l) 3)).bind λ_=>(Ae i (Ag (Aa i) 3)).bind λo9=>(Ae l (Ag (Aa l) 3)).bind λp8=>if(o9==p8)then(Ae i (Ag (Aa i) 2)).bind λ_=>(Ae l (Ag (Aa l) 2)).bind λ_=>(Ae i (Ag (Aa i) 2)).bind λq8=>(Ae l (Ag (Aa l) 2)).bind λq9=>if(q8==q9)then(Ae i (Ag (Aa i) 1)).bind λ_=>(Ae i (Ag (Aa i) 1)).bind λw9=>some (w9==N)
else
some false
else
if false then(Ae i (Ag (Aa i) 1)).bind λ_=>(Ae i (Ag (Aa i) 1)).bind λy5=>some (y5==N)
else
some false
else
if false then(Ae i (Ag (Aa i) 2)).bind λ_=>(Ae l (Ag (Aa l) 2)).bind λ_=>(Ae i (Ag (Aa i) 2)).bind λy7=>(Ae l (Ag (Aa l) 2)).bind λy8=>if(y7==y8)then(Ae i (Ag (Aa i) 1)).bind λ_=>(Ae i (Ag (Aa i) 1)).bind λy9=>some (y9==N)
else
some false
else
if false then(Ae i (Ag (Aa i) 1)).bind λ_=>(Ae i (Ag (Aa i) 1)).bind λBac=>some (Bac==N)
else
some false
else
if false then(Ae i (Ag (Aa i) 3)).bind λ_=>(Ae l (Ag (Aa l) 3)).bind λ_=>(Ae i (Ag (Aa i) 3)).bind λBae=>(Ae l (Ag (Aa l) 3)).bind λBaf=>if(Bae==Baf)then(Ae i (Ag (Aa i) 2)).bind λ_=>(Ae l (Ag (Aa l) 2)).bind λ_=>(Ae i (Ag (Aa i) 2)).bind λBag=>(Ae l (Ag (Aa l) 2)).bind λBah=>if(Bag==Bah)then(Ae i (Ag (Aa i) 1)).bind λ_=>(Ae i (Ag (Aa i) 1)).bind λBai=>some (Bai==N)
else
some false
else
if false then(Ae i (Ag (Aa i) 1)).bind λ_=>(Ae i (Ag (Aa i) 1)).bind λBaj=>some (Baj==N)
else
some false
else
if false then(Ae i (Ag (Aa i) 2)).bind λ_=>(Ae l (Ag (Aa l) 2)).bind λ_=>(Ae i (Ag (Aa i) 2)).bind λBak=>(Ae l (Ag (Aa l) 2)).bind λBal=>if(Bak==Bal)then(Ae i (Ag (Aa i) 1)).bind λ_=>(Ae i (Ag (Aa i) 1)).bind λBam=>some (Bam==N)
else
some false
else
if false then(Ae i (Ag (Aa i) 1)).bind λ_=>(Ae i (Ag (Aa i) 1)).bind λBan=>some (Ban==N)
else
some false
def Ry:=Kz
def Lc(j2:LB->Bool-> (List LB)->LB->LB->Option Bool)(g:LB):Bbx:=(Pd).bind λh=>(Ny g).bind λbs=>if((!bs)||(!h))then
some h
else(Ay g ([116,111,108,100,10,115,97,109,112,108,101,115,10,104,101,120,10]:LB)).bind λbt=>(Kx bt).bind λ(b,bu)=>if((!bu)||(Bw (Aa b) 3))then
some false
else(Ae b (Ag (Aa b) 1)).bind λ_=>(Ae b (Ag (Aa b) 1)).bind λf=>if(Dr (Af (Aa g) (Aa f)) 2900)then
some h
else
if(f !=([]:LB))then(Ay ([32]:LB) f).bind λbv=>(Ay ([102,105,108,101]:LB) bv).bind λbw=>j2 g h b f bw
else
j2 g h b f ([102,105,108,101]:LB)
def Je:=Lc Ry
end Go.Pl
