/- A part of a proof (see the text that ends in Proof). No conditions. -/
import Derived.Test.YtheamkpclkijmaaGreatDoorSsBA
set_option linter.unusedVariables false
namespace Go.Pl
open Go Go.Lv
abbrev LB:=List UInt8
abbrev LI:=List Int
abbrev LX:=List Int32
abbrev LU:=List UInt32
abbrev LQ:=List UInt64
variable(c E:LB)(z d e B D:Int)(l:LI)(G:Int)(i:LB)(C:Bool)(t:Int)(V Ayu:LB)(J Ayo Ay5 Ay6 Ay7:Int)(p8:LI)(Ay2:Int)(Ayh:LB)(Ayi:Bool)(Ayj:Int)(j:LX)(R:List LB)(q9:LB)(r9:Bool)(M o8:Int)(Azh:List LB)(Ay8 Azi Azj:Int)(w9:LB)(Azk:Bool)(Azl:Int)(Ay9:LB)(O:LX)(Aza:LB)(Azm:Bool)(Ayp:Int)(Azn:LB)(A:UInt64)(N:UInt32)(P:UInt64)(o9:LB)(Ayk:UInt64->Option UInt64)(Ayl:UInt64->Int->Option UInt64)(U:Int)(Ayv:LB)(Azb:Int)(l6:UInt64)(Y:Int)(p9:Option Int)(Aym:Int->Option Int)(F Ayy:Int32)(Ayf:LX)(I:Int)(Z l5:LX)(Ayw:Int32)(Ayx Ayz:UInt64)(Ayq:Int->Int->Option Int)(Ayr:LI)(o7 l7:Int)(Azo:Int->Option Int)(Azc:LI)(Ay0 Ay3:Int)(Ayn:UInt8)(Azf:UInt64)(X:Int)(T:LU)(L:List (UInt8×Int×Unit))(l9 Ayg:Int)(Ay4:LX)(Ays:Bool)(Azp:LQ)(Azq:Int->LI->Option (LI))(Azg:LI)(Azd:UInt64)(q8:Bool->Option Int)(Ayt:Bool)(Ay1:Int)(Aze:List LI)
def TN:Option (Int×Int):=
some (1,8)
def AB:Option Bool:=
if Ays then
some ((Kq X 0)&&(pP X 100000))
else
if(geq Ayn 3)then
some (geq X 0)
else
some false
def cG:=AB
def bR(j2:UInt8->Int->Bool->Option Bool)(a:UInt8)(b:Int):Option Bool:=
if(geq a 1)then
j2 a b (geq a 1)
else
j2 a b (geq a 2)
def aQ:=bR cG
def EX:Option Bool:=
(aQ Ayn X).bind λz=>
some (!z)
def rZ:Option Int:=
some 0
def tJ:=rZ
def tM:Option Int:=
if Ays then
some 2
else
p9
def tQ:=tM tJ
def sG:Option Int:=
q8 Ayt
def XK:=sG tQ
def sW:Option Int:=
q8 (Kq (-1:Int) (0:Int))
def XR:=sW XK
def XJ(Al6:Int->Option Int)(a:List (UInt8×Int×Unit))(b:Int):Option Int:=
Al6 (Ae b 1)
def ZA Al6:=XJ Al6
def YD(j18:Bool->Option Int)(j15:Int->Option Int)(a:List (UInt8×Int×Unit))(b:Int)(g:Bool):Option Int:=
if g then
j18 (Kq b 0)
else
j15 b
def HX Al6 a:=YD XK (ZA Al6 a) a
def Xl(j14:Int->Bool->Option Int)(j17:Option Int)(a:List (UInt8×Int×Unit))(b:Int):Option Int:=
if(Cj b (Ac a))then
(Ah a b).bind λh=>
(EX h.1 h.2.1).bind λg=>
j14 b g
else
j17
def Ms:Nat->Int->Option Int
|0,_=>none
|z+1,c=>Xl (HX (Ms z) L) XR L c
def tA a:=Ms a Ar
def MU(j11:(List (UInt8×Int×Unit))->Int->Option Int)(a:List (UInt8×Int×Unit)):Option Int:=
if(Dv (Ac a) 200)then
some 4
else
j11 a 0
def ER:=MU tA
def Rt:Option (Int×Int):=
if((Cj z 1)||(Dv z 1048576))then
some (0,2)
else
some ((oZ 1 (Cq (Ce 256 z) 245)),0)
abbrev WA:=Option (Int32×Int32×Int)
def yU:WA:=
if C then
(Jd (Kq (Al z 1) 0)).bind λ_=>
some ((oL (Eg (1:Int32) (GI.toZ (Al z 1)).toNat)),(Al (Eg (1:Int32) (GI.toZ (Al z 1)).toNat) 1),0)
else
some (0,0,2)
def H3:=yU
def zY(j2:Int->Bool->WA)(a:Int):WA:=
if(geq a 8)then
j2 a (geq a 8)
else
if(geq a 16)then
j2 a (geq a 16)
else
j2 a (geq a 24)
def CT:=zY H3
def Tt:Option Int:=
(CT d).bind λ(c,e,i)=>
if(((Bi i 0)||(Cj z 1))||(Dv z 6))then
some 2
else
some 0
def VZ:Option (Int×Bool):=
(Rt e).bind λ(c,j)=>
(Tt z d).bind λl=>
some (c,(((geq l 0)&&(geq j 0))&&(pP (Ac i) 64)))
def vK:Option (Int×Int×Int×LB×LB×LX×(List LB)×LB×Bool×Int×Int):=
(VZ z d e i).bind λ(c,j)=>
if(!j)then
some (0,0,0,([]:LB),([]:LB),([]:LX),([]:List LB),([]:LB),false,0,2)
else
some (z,d,e,i,([]:LB),([]:LX),([]:List LB),([]:LB),false,0,0)
def QN:Option Int:=
some (Cq (Ce z d) 8)
def G5:Option Int:=
some 0
def gI:=G5
def DK:Option Int:=
if(Cj I (Ac Ayf))then
(Ah Ayf I).bind λz=>
if((Cj z F)||(Dv z Ayy))then
some 16
else
Aym (Ae I 1)
else
p9
def Qv:Nat->Int->Option Int
|0,_=>none
|z+1,c=>DK gI (Qv z) F Ayy Ayf c
def xZ b f a:=Qv b f a Ar
def RS(j4:Int32->Int32->LX->Int->Option Int)(m:Int)(a:LX):Option Int:=
(CT m).bind λ(b,f,k)=>
if(Bi k 0)then
some k
else
if(Dv (Ac a) 4000)then
some 4
else
j4 b f a 0
def Wf:=RS xZ
def JG(a h k:Int)(m n:LB)(b:LX)(f:List LB)(o:LB)(p:Bool)(u g:Int):Option Int:=
(Jd (Bi a 0)).bind λ_=>
some (Ae (Ce (Ac f) g) (Cq (Ac b) a))
def bB(a g h:Int)(k m:LB)(n:LX)(o:List LB)(p:LB)(u:Bool)(v b f:Int):Option Bool:=
some ((pP b 1000)&&(pP (Ce f a) 4000))
def kC:Option Bool:=
some (!C)
def kE:=kC
def jO(j24:Bool->Option Bool)(y:Bool):Option Bool:=
j24 y
def OL:=jO kE
def kA(j23:Bool->Option Bool):Option Bool:=
j23 (Kq (-1:Int) (0:Int))
def NX:=kA OL
def kB(Hj:Int->Option Bool)(b:List LB)(f a h:Int):Option Bool:=
Hj (Ae h 1)
def jV Hj:=kB Hj
def kI(j23:Bool->Option Bool)(j20:Int->Option Bool)(b:List LB)(f a h:Int)(w:LB):Option Bool:=
if((Cj (Ac w) 5)||(Dv (Ac w) (Ae (Cq (Ae (Ce (Ce 81 f) a) 7) 8) 4)))then
j23 (Kq h 0)
else
j20 h
def NN Hj b f a:=kI OL (jV Hj b f a) b f a
def OA(j19:Int->LB->Option Bool)(j22:Option Bool)(b:List LB)(f a h:Int):Option Bool:=
if(Cj h (Ac b))then
(Ah b h).bind λw=>
j19 h w
else
j22
def Yu:Nat->Int->Option Bool
|0,_=>none
|z+1,c=>OA (NN (Yu z) R M o8) NX R M o8 c
def jN b f a:=Yu b f a Ar
def NM(j16:(List LB)->Int->Int->Int->Option Bool)(f a k o:Int)(p m:LB)(g:LX)(b:List LB)(n:LB)(u:Bool)(v:Int):Option Bool:=
j16 b f a 0
def kJ:=NM jN
def NS(j15:Int->Int->Int->Int->LB->LB->LX-> (List LB)->LB->Bool->Int->Option Bool)(f a k o:Int)(p m:LB)(g:LX)(b:List LB)(n:LB)(u:Bool)(v aa:Int):Option Bool:=
(JG a k o p m g b n u v f).bind λab=>
(bB a k o p m g b n u v aa ab).bind λac=>
if(!ac)then
some false
else
j15 f a k o p m g b n u v
def jS:=NS kJ
def OC(j14:Int->Int->Int->Int->LB->LB->LX-> (List LB)->LB->Bool->Int->Int->Option Bool)(f a k o:Int)(p m:LB)(g:LX)(b:List LB)(n:LB)(u:Bool)(v:Int):Option Bool:=
(Wf k g).bind λad=>
if(Bi ad 0)then
some false
else
if(Dv (Ac g) 0)then
j14 f a k o p m g b n u v (Ae (Ac b) 1)
else
j14 f a k o p m g b n u v (Ac b)
def NV:=OC jS
def QO(j13:Int->Int->Int->Int->LB->LB->LX-> (List LB)->LB->Bool->Int->Option Bool)(a k o:Int)(p m:LB)(g:LX)(b:List LB)(n:LB)(u:Bool)(v f:Int):Option Bool:=
if(Dv (Ac n) 0)then
if true then
if true then
if(true||(Dv (Ac b) 1000))then
some false
else
j13 f a k o p m g b n u v
else
(Jd (Bi a 0)).bind λ_=>
if((Kq (Cq (Ac g) a) f)||(Dv (Ac b) 1000))then
some false
else
j13 f a k o p m g b n u v
else
(Jd (Bi a 0)).bind λ_=>
if(Bi (Hk (Ac g) a) 0)then
if(true||(Dv (Ac b) 1000))then
some false
else
j13 f a k o p m g b n u v
else
(Jd (Bi a 0)).bind λ_=>
if((Kq (Cq (Ac g) a) f)||(Dv (Ac b) 1000))then
some false
else
j13 f a k o p m g b n u v
else
(QN a k).bind λae=>
if(Kq (Ac m) ae)then
if true then
if(true||(Dv (Ac b) 1000))then
some false
else
j13 f a k o p m g b n u v
else
(Jd (Bi a 0)).bind λ_=>
if((Kq (Cq (Ac g) a) f)||(Dv (Ac b) 1000))then
some false
else
j13 f a k o p m g b n u v
else
(Jd (Bi a 0)).bind λ_=>
if(Bi (Hk (Ac g) a) 0)then
if(true||(Dv (Ac b) 1000))then
some false
else
j13 f a k o p m g b n u v
else
(Jd (Bi a 0)).bind λ_=>
if((Kq (Cq (Ac g) a) f)||(Dv (Ac b) 1000))then
some false
else
j13 f a k o p m g b n u v
def cA:=QO NV
def VN:Option Int:=
(VZ z d e i).bind λ(c,l)=>
if(!l)then
some 8
else
if(Bi M 0)then
if(!(((((geq M 18)||(geq M 24))&&(!r9))&&(geq (Ae (Ae (Ac V) (Ac j)) (Ac R)) 0))&&(geq (Ac q9) 0)))then
some 8
else
some 0
else
if r9 then
if(!((geq (Ae (Ae (Ac V) (Ac j)) (Ac R)) 0)&&(pP (Ac q9) 100000)))then
some 8
else
some 0
else
(cA z d e i V j R q9 r9 M c).bind λt=>
if(!t)then
some 8
else
some 0
def Cw:Option (LB):=
(
(Ck ([]:LB) c).bind λz=>
some z)
def Dy:Option (LX):=
(
(Ck ([]:LX) j).bind λz=>
some z)
abbrev Ip:=Option (Int×Int×Int×LB×LB×LX×(List LB)×LB×Bool×Int)
def wO(b f g:Int)(h:LB)(a:List LB)(k:Bool)(m:Int)(u:List LB)(n:LB)(o:LX)(p:LB):Ip:=
some (b,f,g,h,n,o,u,p,k,m)
def cI:=wO
def cP(j8:Int->Int->Int->LB-> (List LB)->Bool->Int-> (List LB)->LB->LX->LB->Ip)(I9:Int-> (List LB)->Ip)(w a:List LB)(b f g:Int)(h:LB)(k:Bool)(m:Int)(n:LB)(o:LX)(p:LB)(v:Int)(u:List LB):Ip:=
if(Cj v (Ac (hH w a)))then
(Ah u v).bind λ_=>
(Ah u v).bind λy=>
(Cw y).bind λaa=>
(Ah u v).bind λ_=>
(Mc u v aa).bind λab=>
I9 (Ae v 1) ab
else
j8 b f g h a k m u n o p
def NI:Nat->Int-> (List LB)->Ip
|0,_,_=>none
|z+1,c,d=>cP cI (NI z) R Azh Ay8 Azi Azj w9 Azk Azl Ay9 O Aza c d
def wG w a b f g h k m n o p:=NI w a b f g h k m n o p Ar
def cK(j6:(List LB)-> (List LB)->Int->Int->Int->LB->Bool->Int->LB->LX->LB->Int-> (List LB)->Ip)(b f g:Int)(h:LB)(a:List LB)(k:Bool)(m:Int)(n:LB)(o:LX)(p:LB):Ip:=
(mkI (Ac a) ([]:LB)).bind λw=>
(Jd (geq (Ac a) (Ac a))).bind λ_=>
j6 w a b f g h k m n o p 0 (hH w a)
def wI:=cK wG
def bU(j5:Int->Int->Int->LB-> (List LB)->Bool->Int->LB->LX->LB->Ip)(b f g:Int)(h ac:LB)(ad:LX)(a:List LB)(ae:LB)(k:Bool)(m:Int):Ip:=
(Cw ac).bind λn=>
(Dy ad).bind λo=>
(Cw ae).bind λp=>
j5 b f g h a k m n o p
def aM:=bU wI
abbrev MO:=Option (Int×Int×Int×LB×LB×LX×(List LB)×LB×Bool×Int×Int×Int)
def rR:MO:=
(aM d e B i V j R q9 r9 M).bind λ(c,l,t,A,C,D,E,F,G,I)=>
some (c,l,t,A,C,D,E,F,G,I,z,o8)
def uA:=rR
def rK(j2:Int->Int->Int->Int->LB->LB->LX-> (List LB)->LB->Bool->Int->Int->MO)(g h b:Int)(k m:LB)(n:LX)(o:List LB)(p:LB)(f:Bool)(a:Int):MO:=
(VN g h b k m n o p f a).bind λv=>
if(Bi v 0)then
some (0,0,0,([]:LB),([]:LB),([]:LX),([]:List LB),([]:LB),false,0,0,v)
else
(Rt b).bind λ(u,aj)=>
if(Bi a 0)then
j2 u g h b k m n o p f a a
else
if f then
j2 u g h b k m n o p f a 36
else
j2 u g h b k m n o p f a aj
def WC:=rK uA
abbrev Cn:=Option (LX×Int)
def qD:Cn:=
some (j,0)
def UF:=qD
def oQ(Hj:Int->LX->Cn)(a:Int)(b:LB)(f:Int)(o:LX):Cn:=
Hj (Ae f (Cq a 8)) o
def DX Hj:=oQ Hj
def nU(j28:Int->LX->Cn)(a:Int)(b:LB)(f:Int)(k:Int32)(g:LX):Cn:=
(Jd (Kq (Al 32 a) 0)).bind λ_=>
(Jd (Kq (Al 32 a) 0)).bind λ_=>
(Ck g ([(Cs (Eg k (GI.toZ (Al 32 a)).toNat) (GI.toZ (Al 32 a)).toNat)]:LX)).bind λp=>
j28 f p
def UE Hj a b:=nU (DX Hj a b) a b
def TY(j27:Int->Int32->LX->Cn)(Av0:Int32->Int->Cn)(a:Int)(b:LB)(f:Int)(g:LX)(k:Int32)(h:Int):Cn:=
if(Cj h (Cq a 8))then
(Ah b (Ae f h)).bind λm=>
(Jd (Kq (Ce 8 h) 0)).bind λ_=>
Av0 (vL k (Eg (Ad m:Int32) (GI.toZ (Ce 8 h)).toNat)) (Ae h 1)
else
j27 f k g
def FN(Hj:Int->LX->Cn)(a:Int)(b:LB)(f:Int)(g:LX):Nat->Int32->Int->Cn
|0,_,_=>none
|q+1,k,h=>TY (UE Hj a b) (FN Hj a b f g q) a b f g k h
def US Hj a b f g:=FN Hj a b f g Ar
def VC(j28:Int->LX->Cn)(j25:Int->LX->Int32->Int->Cn)(j30:LX->Cn)(a:Int)(b:LB)(f:Int)(g:LX):Cn:=
if(Cj f (Ac b))then
if(geq a 8)then
(Ah b f).bind λm=>
(Ck g ([(Al (Ad m:Int32) 128)]:LX)).bind λu=>
j28 f u
else
j25 f g 0 0
else
j30 g
def Vp:Nat->Int->LX->Cn
|0,_,_=>none
|c+1,d,e=>VC (DX (Vp c) z i) (US (Vp c) z i) UF z i d e
def qS a b:=Vp a b Ar
def XN(j16:Int->LB->Int->LX->Cn)(a:Int)(b:LB):Cn:=
(CT a).bind λ(v,w,n)=>
if(Bi n 0)then
some (([]:LX),n)
else
(Jd (Bi (Cq a 8) 0)).bind λ_=>
if(Bi (Hk (Ac b) (Cq a 8)) 0)then
some (([]:LX),12)
else
(Jd (Bi (Cq a 8) 0)).bind λ_=>
if(Dv (Cq (Ac b) (Cq a 8)) 4000)then
some (([]:LX),4)
else
j16 a b 0 ([]:LX)
def kW:=XN qS
abbrev Cf:=Option (UInt64×Int)
def fV:Cf:=
some (A,0)
def fX:=fV
def eO(j30:UInt64->Cf)(h b:UInt64)(a:LB)(f:LQ):Cf:=
j30 h
def RR:=eO fX
def ED(j29:UInt64->UInt64->LB->LQ->Cf)(bM:UInt64->Int->Cf)(a:LB)(b:UInt64)(f:LQ)(h:UInt64)(m:Int):Cf:=
if(Cj m (Ac a))then
(Ah a m).bind λp=>
Option.bind (Ah f (GI.toZ (Yw (Ad (Cs h (GI.toZ (56:UInt64)).toNat):UInt8) p))) λ_=>
Option.bind (Ah f (GI.toZ (Yw (Ad (Cs h (GI.toZ (56:UInt64)).toNat):UInt8) p))) λu=>
bM (Yw (Eg h (GI.toZ (8:UInt64)).toNat) u) (Ae m 1)
else
j29 h b a f
def Ra:Nat->UInt64->Int->Cf
|0,_,_=>none
|z+1,d,e=>ED RR (Ra z) c A Azp d e
def QP a b f:=Ra a b f Ar
def QE(j27:LB->UInt64->LQ->UInt64->Int->Cf)(b:UInt64)(a:LB)(f:LQ):Cf:=
j27 a b f b 0
def RM:=QE QP
def eE(Hj:Int->LQ->Cf)(b:UInt64)(a:LB)(g:Int)(o:LQ):Cf:=
Hj (Ae g 1) o
def fA Hj:=eE Hj
def eS(j24:Int->LQ->Cf)(b:UInt64)(a:LB)(g:Int)(k:UInt64)(f:LQ):Cf:=
(Ah f g).bind λ_=>
(Mc f g k).bind λo=>
j24 g o
def DR Hj b a:=eS (fA Hj b a) b a
def DD(j23:Int->UInt64->LQ->Cf)(Asc:UInt64->Int->Cf)(b:UInt64)(a:LB)(g:Int)(f:LQ)(k:UInt64)(n:Int):Cf:=
if(Cj n 8)then
Asc (Yw (Eg k (GI.toZ (1:UInt64)).toNat) (Ce 4823603603198064275 (Cs k (GI.toZ (63:UInt64)).toNat))) (Ae n 1)
else
j23 g k f
def Ri(Hj:Int->LQ->Cf)(b:UInt64)(a:LB)(g:Int)(f:LQ):Nat->UInt64->Int->Cf
|0,_,_=>none
|q+1,k,n=>DD (DR Hj b a) (Ri Hj b a g f q) b a g f k n
def SL Hj b a g f:=Ri Hj b a g f Ar
def EG(j21:Int->LQ->UInt64->Int->Cf)(j26:UInt64->LB->LQ->Cf)(b:UInt64)(a:LB)(g:Int)(f:LQ):Cf:=
if(Cj g 256)then
j21 g f (Eg (Ad g:UInt64) (GI.toZ (56:UInt64)).toNat) 0
else
j26 b a f
def Nt:Nat->Int->LQ->Cf
|0,_,_=>none
|z+1,c,d=>EG (SL (Nt z) A o9) RM A o9 c d
def fL b a:=Nt b a Ar
def WB(j16:UInt64->LB->Int->LQ->Cf)(b:UInt64)(a:LB):Cf:=
if(Dv (Ac a) 100000)then
some (0,4)
else
j16 b a 0 (List.replicate 256 (0:UInt64))
def aV:=WB fL
def XH:Option (UInt64×Int):=
(aV 0 c).bind λ(z,d)=>
some (z,d)
def Ac6:Option (LX):=
some j
def yV:=Ac6
def bK(j6:LX->Option (LX))(Pa:Int->LX->Option (LX))(f:UInt64)(a:Int)(b:LX):Option (LX):=
if(Cj a 8)then
(Jd (Kq (Ce 8 a) 0)).bind λ_=>
(Ah b a).bind λ_=>
(Mc b a (Ad (Ad (Cs f (GI.toZ (Ce 8 a)).toNat):Int8):Int32)).bind λg=>
Pa (Ae a 1) g
else
j6 b
def IX:Nat->Int->LX->Option (LX)
|0,_,_=>none
|z+1,c,d=>bK yV (IX z) A c d
def Ac8 f:=IX f Ar
def E8(j4:UInt64->Int->LX->Option (LX))(f:UInt64):Option (LX):=
j4 f 0 (List.replicate 16 (0:Int32))
def U4:=E8 Ac8
def Tv:Option (LX×Int):=
if(Dv (Ac c) 64)then
some (([(0:Int32),(0:Int32),(0:Int32),(0:Int32),(0:Int32),(0:Int32),(0:Int32),(0:Int32),(0:Int32),(0:Int32),(0:Int32),(0:Int32),(0:Int32),(0:Int32),(0:Int32),(0:Int32)]:LX),2)
else
(XH c).bind λ(z,d)=>
if(Bi d 0)then
some (([(0:Int32),(0:Int32),(0:Int32),(0:Int32),(0:Int32),(0:Int32),(0:Int32),(0:Int32),(0:Int32),(0:Int32),(0:Int32),(0:Int32),(0:Int32),(0:Int32),(0:Int32),(0:Int32)]:LX),d)
else
(U4 z).bind λe=>
some (e,0)
def kU:Option Int:=
(Tt z d).bind λc=>
if(Bi c 0)then
some c
else
(Wf d j).bind λe=>
if(Bi e 0)then
some e
else
if(geq (Ac j) 0)then
some 2
else
(Jd (Bi z 0)).bind λ_=>
if(Bi (Hk (Ac j) z) 0)then
some 2
else
some 0
def XY:Option Int:=
if((Cj z 1)||(Dv z 6))then
some 2
else
if(Dv (Ac j) 4000)then
some 4
else
(Jd (Bi z 0)).bind λ_=>
if(Bi (Hk (Ac j) z) 0)then
some 2
else
some 0
abbrev Jc:=Option (LX×Int)
def wm:Jc:=
some (j,0)
def uF:=wm
def nu(WJ:Int->LX->Jc)(b a:Int)(u:LX):Jc:=
WJ (Ae a b) u
def yu WJ:=nu WJ
def Aaq(j20:Int->LX->Jc)(b a:Int)(g:LX):Jc:=
if(Dv (Al ((Ae a b)-a) 1) 0)then
(Jd (decide (0<= (Al ((Ae a b)-a) 1)/\ (Al ((Ae a b)-a) 1)<((Ae a b)-a)))).bind λ_=>
Option.bind (Jd (decide (0<= (Al (Al ((Ae a b)-a) 1) 1)/\ (Al (Al ((Ae a b)-a) 1) 1)<((Ae a b)-a)))) λ_=>
(Ah g (a+(Al ((Ae a b)-a) 1))).bind λk=>
(Ah g (a+(Al (Al ((Ae a b)-a) 1) 1))).bind λm=>
(Jd (decide (0<= (Al ((Ae a b)-a) 1)/\ (Al ((Ae a b)-a) 1)<((Ae a b)-a)))).bind λ_=>
(Mc g (a+(Al ((Ae a b)-a) 1)) (Al k (Cq m 2))).bind λn=>
j20 a n
else
j20 a g
def uI WJ b:=Aaq (yu WJ b) b
def uE(j19:Int->LX->Jc)(WK:Int->LX->Jc)(b a f:Int)(g:LX):Jc:=
if(Cj f (Al ((Ae a b)-a) 1))then
(Jd (decide (0<= (Ae f 1)/\ (Ae f 1)<((Ae a b)-a)))).bind λ_=>
(Jd (decide (0<=f/\f<((Ae a b)-a)))).bind λ_=>
(Ah g (a+(Ae f 1))).bind λk=>
(Ah g (a+f)).bind λm=>
(Jd (decide (0<=f/\f<((Ae a b)-a)))).bind λ_=>
(Mc g (a+f) (Al k m)).bind λn=>
WK (Ae f 1) n
else
j19 a g
def gH(WJ:Int->LX->Jc)(b a:Int):Nat->Int->LX->Jc
|0,_,_=>none
|q+1,f,g=>uE (uI WJ b) (gH WJ b a q) b a f g
def uT WJ b a:=gH WJ b a Ar
def uN(j17:Int->Int->LX->Jc)(j22:LX->Jc)(b a:Int)(h:LX):Jc:=
if(Cj a (Ac h))then
(aK (Ac h) a (Ae a b)).bind λ_=>
j17 a 0 h
else
j22 h
def iB:Nat->Int->LX->Jc
|0,_,_=>none
|c+1,d,e=>uN (uT (iB c) z) uF z d e
def lq b:=iB b Ar
def zU(j12:Int->Int->LX->Jc)(b:Int)(o:LX):Jc:=
(XY b o).bind λp=>
if(Bi p 0)then
some (([]:LX),p)
else
(Dy o).bind λv=>
j12 b 0 v
def Aff:=zU lq
abbrev mK:=Option (Int×LX×LX×Int)
def Aan:mK:=
if r9 then
some (10,j,(List.replicate 16 (0:Int32)),0)
else
if(geq z 16)then
some (9,j,(List.replicate 16 (0:Int32)),0)
else
some (0,(List.replicate 16 (0:Int32)),(List.replicate 16 (0:Int32)),2)
def qw:=Aan
def yg(j2:Int->LX->Bool->mK)(a:Int)(b:LX):mK:=
if(geq a 8)then
j2 a b (geq a 8)
else
j2 a b (geq a 24)
def qA:=yg qw
def tY:Option (Int×Int32×Int×LX×LX×Int):=
(qA z j).bind λ(c,d,e,i)=>
if(Bi i 0)then
some (0,0,0,(List.replicate 16 (0:Int32)),(List.replicate 16 (0:Int32)),i)
else
some (z,0,c,d,e,0)
def Wd(a:Int)(k:Int32)(b:Int)(f m:LX):Option Int:=
(qA a f).bind λ(g,n,o,h)=>
if((Bi h 0)||(Bi g b))then
some 8
else
some 0
def fP:Option (Int×Int):=
if(geq z 8)then
some (4,0)
else
if(geq z 16)then
if(geq z 16)then
some (5,0)
else
some (0,2)
else
if(geq z 24)then
some (5,0)
else
some (0,2)
def TC:Option Int32:=
(Jd (Kq z 0)).bind λ_=>
(Jd (Kq z 0)).bind λ_=>
some (Ad (Y5 (Al (Eg (Ad F:Int) (GI.toZ z).toNat) (Ad F:Int)) (GI.toZ z).toNat):Int32)
def Wg:Option (Int32×Int):=
(fP z).bind λ(c,d)=>
if(Bi d 0)then
some (0,d)
else
(TC c F).bind λe=>
some (e,0)
def IU(a:Int)(b f:LX):Option Int:=
if((Bi a 9)&&(Bi a 10))then
some 8
else
some 0
abbrev Sp:=Option (Int32×Int)
def lQ(h:Int32)(a:Int)(b f:LX):Sp:=
(Jd (Kq a 0)).bind λ_=>
some ((Cs h (GI.toZ a).toNat),0)
def VQ:=lQ
def JJ(j6:Int32->Int->LX->LX->Sp)(Pa:Int32->Int->Sp)(b:LX)(a:Int)(f:LX)(h:Int32)(g:Int):Sp:=
if(Cj g 16)then
(Ah b g).bind λm=>
(Ah f g).bind λ_=>
(Ah f g).bind λn=>
Pa (Ae h (Ce m n)) (Ae g 1)
else
j6 h a b f
def Tu:Nat->Int32->Int->Sp
|0,_,_=>none
|z+1,c,d=>JJ VQ (Tu z) j M O c d
def lF b a f:=Tu b a f Ar
def VM(j4:LX->Int->LX->Int32->Int->Sp)(a:Int)(b f:LX):Sp:=
(IU a b f).bind λk=>
if(Bi k 0)then
some (0,k)
else
(Jd (Kq (Al a 1) 0)).bind λ_=>
j4 b a f (Eg (1:Int32) (GI.toZ (Al a 1)).toNat) 0
def RN:=VM lF
def XB:Option Int32:=
if(geq z 0)then
some 4
else
if(Cj z 4)then
some 2
else
some 1
abbrev Rs:=Option (Int×LX×LX×Int)
def L5:Rs:=
some (z,j,O,0)
def lG:=L5
def JK(j6:Int->LX->LX->Rs)(Pa:Int->LX->Rs)(h:Int32)(f:LX)(g a:Int)(b:LX):Rs:=
if(Cj a 16)then
(Ah f a).bind λm=>
if(geq m 0)then
Pa (Ae a 1) b
else
if((Cj m 0)==(Cj h 0))then
(Ah b a).bind λ_=>
(Ah b a).bind λo=>
(XB a).bind λp=>
(Ah b a).bind λ_=>
(Mc b a (Ae o p)).bind λu=>
Pa (Ae a 1) u
else
(Ah b a).bind λ_=>
(Ah b a).bind λv=>
(XB a).bind λw=>
(Ah b a).bind λ_=>
(Mc b a (Al v w)).bind λy=>
Pa (Ae a 1) y
else
j6 g b f
def To:Nat->Int->LX->Rs
|0,_,_=>none
|z+1,c,d=>JK lG (To z) F Ayf I c d
def K3 h f g:=To h f g Ar
def VY(j4:Int32->LX->Int->Int->LX->Rs)(g:Int)(k f:LX)(h:Int32):Rs:=
(IU g k f).bind λn=>
if(Bi n 0)then
some (0,(List.replicate 16 (0:Int32)),(List.replicate 16 (0:Int32)),n)
else
if(geq h 0)then
some (g,k,f,0)
else
j4 h f g 0 k
def bL:=VY K3
abbrev gU:=Option (Int×LX×LX×Int)
def oK:gU:=
(Ah (Qr l5 1 ((16:Int)-(1:Int)) (KY l5 0 ((16:Int)-(0:Int)))) 0).bind λ_=>
(Mc (Qr l5 1 ((16:Int)-(1:Int)) (KY l5 0 ((16:Int)-(0:Int)))) 0 F).bind λz=>
some (I,Z,z,0)
def aO:=oK
def OZ(j2:Int32->Int->LX->LX->gU)(b:Int)(f a:LX)(g:Int32):gU:=
(IU b f a).bind λh=>
if(Bi h 0)then
some (0,(List.replicate 16 (0:Int32)),(List.replicate 16 (0:Int32)),h)
else
(
(aK 16 1 16).bind λ_=>
(aK 16 0 16).bind λ_=>
j2 g b f a)
def jI:=OZ aO
def ZI:Option (Int×LX×LX):=
(bL z j O Ayy).bind λ(c,d,e,i)=>
(jI c d e F).bind λ(l,t,A,B)=>
some (l,t,A)
def iL:Option (Int32×Int×LX×LX×Int):=
(RN z j O).bind λ(c,d)=>
if(Bi d 0)then
some (0,0,(List.replicate 16 (0:Int32)),(List.replicate 16 (0:Int32)),d)
else
(ZI z j O F (Al F c)).bind λ(e,i,l)=>
some ((Al F c),e,i,l,0)
def JE:Option (Int32×Int×Int32×Int×LX×LX×Int):=
(Wd z F I Z l5).bind λc=>
if(Bi c 0)then
some (0,0,0,0,(List.replicate 16 (0:Int32)),(List.replicate 16 (0:Int32)),c)
else
(Wg z F).bind λ(d,e)=>
(iL I Z l5 (Al Ayw d)).bind λ(i,j,l,t,A)=>
(
some (i,z,Ayw,j,l,t,A))
def O5:Option UInt32:=
some (Yw (Eg (Ad F:UInt32) (GI.toZ (1:UInt64)).toNat) (Ad (Cs F (GI.toZ (31:UInt64)).toNat):UInt32))
abbrev Dl:=Option (LU×Int)
def nG:Dl:=
some (T,0)
def SU:=nG
def SK(j12:LU->Dl)(Adc:Int-> (List (Int×Int32×(Int×LX×LX×Unit)×Unit))->LU->Dl)(b:LX)(a f g:Int)(k:List (Int×Int32×(Int×LX×LX×Unit)×Unit))(h:LU):Dl:=
if(Cj g (Ac b))then
(Ah b g).bind λ_=>
(Ah b g).bind λac=>
(Jd (Bi a 0)).bind λ_=>
(Ah k (Hk g a)).bind λ_=>
(Ah k (Hk g a)).bind λp=>
(JE p.1 p.2.1 p.2.2.1.1 p.2.2.1.2.1 p.2.2.1.2.2.1 ac).bind λ(u,ad,ae,v,af,ag,w)=>
if(Bi w 0)then
some (([]:LU),w)
else
(Mc k (Hk g a) (ad,ae,(v,af,ag,()),())).bind λah=>
(O5 u).bind λai=>
(Ck h ([ai]:LU)).bind λaj=>
Adc (Ae g 1) ah aj
else
j12 h
def AT:Nat->Int-> (List (Int×Int32×(Int×LX×LX×Unit)×Unit))->LU->Dl
|0,_,_,_=>none
|z+1,c,d,e=>SK SU (AT z) j M o8 c d e
def QI b a f:=AT b a f Ar
def TA(j10:LX->Int->Int->Int-> (List (Int×Int32×(Int×LX×LX×Unit)×Unit))->LU->Dl)(a f:Int)(b:LX)(m:List (Int×Int32×(Int×LX×LX×Unit)×Unit)):Dl:=
j10 b a f 0 m ([]:LU)
def nW:=TA QI
def TE(j9:Int->Int->LX-> (List (Int×Int32×(Int×LX×LX×Unit)×Unit))->Dl)(bk7:Int-> (List (Int×Int32×(Int×LX×LX×Unit)×Unit))->Dl)(a f:Int)(n b:LX)(o:Int)(m:List (Int×Int32×(Int×LX×LX×Unit)×Unit)):Dl:=
if(Cj o 6)then
(tY f n).bind λ(ak,al,u,am,an,v)=>
(Ah m o).bind λ_=>
(Mc m o (ak,al,(u,am,an,()),())).bind λao=>
bk7 (Ae o 1) ao
else
j9 a f b m
def EH:Nat->Int-> (List (Int×Int32×(Int×LX×LX×Unit)×Unit))->Dl
|0,_,_=>none
|c+1,e,i=>TE nW (EH c) z d j O e i
def rH a f n b:=EH a f n b Ar
def TQ(j7:Int->Int->LX->LX->Int-> (List (Int×Int32×(Int×LX×LX×Unit)×Unit))->Dl)(a f:Int)(n y:LX):Dl:=
(kU a f y).bind λaa=>
if(Bi aa 0)then
some (([]:LU),aa)
else
(Aff a y).bind λ(b,ab)=>
if(Bi ab 0)then
some (([]:LU),ab)
else
j7 a f n b 0 (List.replicate 6 ((0:Int),(0:Int32),((0:Int),(List.replicate 16 (0:Int32)),(List.replicate 16 (0:Int32)),()),()))
def eY:=TQ rH
def nR:Option (Int×Int×UInt64×UInt64):=
some (10,10,16384,16384)
abbrev Kh:=Option ((List (Int×Int×UInt64×UInt64×Unit)))
def qE(a:List (Int×Int×UInt64×UInt64×Unit)):Kh:=
some a
def UP:=qE
def UZ(j6:(List (Int×Int×UInt64×UInt64×Unit))->Kh)(Pa:Int-> (List (Int×Int×UInt64×UInt64×Unit))->Kh)(b:Int)(a:List (Int×Int×UInt64×UInt64×Unit)):Kh:=
if(Cj b 6)then
(nR).bind λ(f,g,h,k)=>
(Ah a b).bind λ_=>
(Mc a b (f,g,h,k,())).bind λm=>
Pa (Ae b 1) m
else
j6 a
def CY:Nat->Int-> (List (Int×Int×UInt64×UInt64×Unit))->Kh
|0,_,_=>none
|q+1,b,a=>UZ UP (CY q) b a
def qH:=CY Ar
def TO(j4:Int-> (List (Int×Int×UInt64×UInt64×Unit))->Kh):Kh:=
j4 0 (List.replicate 6 ((0:Int),(0:Int),(0:UInt64),(0:UInt64),()))
def gD:=TO qH
def Kk:Option Int:=
if(((Cj z 0)||(Dv z 330000))||(Bi (Ac c) (Y5 (Ae z 7) (GI.toZ (3:UInt64)).toNat)))then
some 8
else
if(Dv (Ex z 7) 0)then
(Ah c (Al (Ac c) 1)).bind λd=>
(Jd (Kq (Ex z 7) 0)).bind λ_=>
if(Bi (Cs d (GI.toZ (Ex z 7)).toNat) 0)then
some 8
else
some 0
else
some 0
def kR:Option Int:=
if(!((geq (Dx (oZ z 0) 24) z)&&((geq (Dx (oZ d 0) 24) d)&&((geq (Dx A 68719476735) A)&&((geq (Dx P 68719476735) P)&&true)))))then
some 8
else
some 0
def VJ:=kR
def JF(j4:Int->Int->UInt64->UInt64->Option Int)(a b:Int)(f g:UInt64):Option Int:=
(
(
j4 a b f g))
def WG:=JF VJ
def JL(j3:Int->Int->UInt64->UInt64->Option Int)(a b:Int)(f g:UInt64):Option Int:=
(
(
j3 a b f g))
def RZ:=JL WG
def IY(a f:Int)(g h:UInt64)(b:UInt32):Option (Int×UInt32):=
(Jd (Kq a 0)).bind λ_=>
if(geq (Cs b (GI.toZ a).toNat) 0)then
some (0,b)
else
(Jd (Kq a 0)).bind λ_=>
some (1,(Al b (Eg (1:UInt32) (GI.toZ a).toNat)))
def sN:Option (LB×Int):=
(Cw c).bind λd=>
some (d,z)
abbrev Ea:=Option (LB×Int×Int)
def T3:Ea:=
some (i,z,0)
def oP:=T3
def Y0(Al7:UInt64->Int->Int->LB->Ea)(b:UInt64)(a:Int)(m:UInt64)(h f:Int)(w:LB):Ea:=
(Jd (Kq (Dx h (Al 8 (Ex f 7))) 0)).bind λ_=>
Al7 (Cs m (GI.toZ (Dx h (Al 8 (Ex f 7)))).toNat) (Al h (Dx h (Al 8 (Ex f 7)))) (Ae f (Dx h (Al 8 (Ex f 7)))) w
def Z9 Al7:=Y0 Al7
def Y1(j19:UInt64->Int->Int->LB->Ea)(b:UInt64)(a:Int)(m:UInt64)(h f:Int)(u:LB):Ea:=
(Ah u (Al (Ac u) 1)).bind λ_=>
(Jd (Kq (Dx h (Al 8 (Ex f 7))) 0)).bind λ_=>
(Jd (Kq (Ex f 7) 0)).bind λ_=>
(Ah u (Al (Ac u) 1)).bind λad=>
(Ah u (Al (Ac u) 1)).bind λ_=>
Option.bind (Mc u (Al (Ac u) 1) (vL ad (Eg (Ad (Ex m (Al (Eg (1:UInt64) (GI.toZ (Dx h (Al 8 (Ex f 7)))).toNat) 1)):UInt8) (GI.toZ (Ex f 7)).toNat))) λw=>
j19 m h f w
def pB Al7 b a:=Y1 (Z9 Al7 b a) b a
def pG(j18:UInt64->Int->Int->LB->Ea)(j21:Int->LB->Ea)(b:UInt64)(a:Int)(m:UInt64)(h f:Int)(o:LB):Ea:=
if(Dv h 0)then
if(geq (Ex f 7) 0)then
(Ck o ([(0:UInt8)]:LB)).bind λaa=>
j18 m h f aa
else
j18 m h f o
else
j21 f o
def ZM:Nat->UInt64->Int->Int->LB->Ea
|0,_,_,_,_=>none
|z+1,c,d,e,i=>pG (pB (ZM z) A U) oP A U c d e i
def Z4 b a:=ZM b a Ar
def U8:Ea:=
some (i,z,0)
def qW:=U8
def X4(Al8:UInt64->Int->Int->LB->Ea)(b:UInt64)(a:Int)(n:UInt64)(k g:Int)(ab:LB):Ea:=
(Jd (Kq (Dx k (Al 8 (Ex g 7))) 0)).bind λ_=>
Al8 (Cs n (GI.toZ (Dx k (Al 8 (Ex g 7)))).toNat) (Al k (Dx k (Al 8 (Ex g 7)))) (Ae g (Dx k (Al 8 (Ex g 7)))) ab
def V7 Al8:=X4 Al8
def U9(j26:UInt64->Int->Int->LB->Ea)(b:UInt64)(a:Int)(n:UInt64)(k g:Int)(v:LB):Ea:=
(Ah v (Al (Ac v) 1)).bind λ_=>
(Jd (Kq (Dx k (Al 8 (Ex g 7))) 0)).bind λ_=>
(Jd (Kq (Ex g 7) 0)).bind λ_=>
(Ah v (Al (Ac v) 1)).bind λae=>
(Ah v (Al (Ac v) 1)).bind λ_=>
Option.bind (Mc v (Al (Ac v) 1) (vL ae (Eg (Ad (Ex n (Al (Eg (1:UInt64) (GI.toZ (Dx k (Al 8 (Ex g 7)))).toNat) 1)):UInt8) (GI.toZ (Ex g 7)).toNat))) λab=>
j26 n k g ab
def pV Al8 b a:=U9 (V7 Al8 b a) b a
def nX(j25:UInt64->Int->Int->LB->Ea)(j28:Int->LB->Ea)(b:UInt64)(a:Int)(n:UInt64)(k g:Int)(p:LB):Ea:=
if(Dv k 0)then
if(geq (Ex g 7) 0)then
(Ck p ([(0:UInt8)]:LB)).bind λw=>
j25 n k g w
else
j25 n k g p
else
j28 g p
def aB:Nat->UInt64->Int->Int->LB->Ea
|0,_,_,_,_=>none
|z+1,c,d,e,i=>nX (pV (aB z) A U) qW A U c d e i
def W9 b a:=aB b a Ar
def uS(j15:UInt64->Int->UInt64->Int->Int->LB->Ea)(j22:UInt64->Int->UInt64->Int->Int->LB->Ea)(ac:LB)(y:Int)(b:UInt64)(a:Int):Ea:=
(Kk ac y).bind λaf=>
if(Bi af 0)then
some (([]:LB),0,8)
else
if((Cj a 0)||(Dv a 64))then
some (([]:LB),0,2)
else
if(Cj a 64)then
(Jd (Kq a 0)).bind λ_=>
if(Bi (Cs b (GI.toZ a).toNat) 0)then
some (([]:LB),0,16)
else
if(Dv (Ae y a) 330000)then
some (([]:LB),0,18)
else
(sN ac y).bind λ(ag,ah)=>
j15 b a b a ah ag
else
if(Dv (Ae y a) 330000)then
some (([]:LB),0,18)
else
(sN ac y).bind λ(aa,ai)=>
j22 b a b a ai aa
def gJ:=uS Z4 W9
def PF:Option Bool:=
(Jd (Kq U 0)).bind λ_=>
some (Kq (Cs N (GI.toZ U).toNat) 48)
def qN:Option (Int×Int):=
if((Cj z 0)||(Dv z 48))then
some (0,2)
else
some ((Dx (Ae z 1) 48),0)
def vS:Option (LB×Int×Int):=
(Kk c z).bind λe=>
if(Bi e 0)then
some (([]:LB),0,e)
else
(qN d).bind λ(i,j)=>
if(Bi j 0)then
some (([]:LB),0,j)
else
(Jd (Kq d 0)).bind λ_=>
(gJ c z (Al (Eg (1:UInt64) (GI.toZ d).toNat) 1) i).bind λ(l,t,A)=>
some (l,t,A)
abbrev ZG:=Option (LB×Int×Int)
def L3:ZG:=
(vS c z d).bind λ(e,i,j)=>
if(Bi j 0)then
some (([]:LB),0,j)
else
(gJ e i (Ad N:UInt64) U).bind λ(l,t,A)=>
some (l,t,A)
def K7:=L3
def J6(j2:LB->Int->Int->UInt32->Int->ZG)(b:LB)(f:Int)(g:UInt32)(a:Int):ZG:=
(Kk b f).bind λk=>
if(Bi k 0)then
some (([]:LB),0,k)
else
if((Cj a 0)||(Dv a 24))then
some (([]:LB),0,2)
else
(Jd (Kq a 0)).bind λ_=>
(Jd (Kq a 0)).bind λ_=>
(PF g a).bind λaa=>
if aa then
j2 b f 48 g 32
else
j2 b f (Ad (Cs g (GI.toZ a).toNat):Int) (Ex g (Al (Eg (1:UInt32) (GI.toZ a).toNat) 1)) a
def A7:=J6 K7
abbrev Ix:=Option (LB×Int×Int×Int×UInt64×UInt64×Int)
def SV:Ix:=
(
(
some (o9,z,d,e,(Ae A (Al (Ad N:UInt64) (Cs A (GI.toZ (4:UInt64)).toNat))),P,0)))
def gX:=SV
def lM(j10:Int->Int->Int->UInt64->UInt32->UInt64->LB->Ix)(b:UInt32)(k n:Int)(a o:UInt64)(m:LB)(u:Int):Ix:=
j10 k u n a b o m
def K8:=lM gX
def kO(j9:UInt32->Int->Int->UInt64->UInt64->LB->Int->Ix)(b:UInt32)(f:Int)(a:UInt64)(k:Int)(m:LB)(n:Int)(o:UInt64):Ix:=
if(Dv f 0)then
(Jd (Kq f 0)).bind λ_=>
if(Cj (Ae a (Al (Ad b:UInt64) (Cs a (GI.toZ (4:UInt64)).toNat))) (Eg (16:UInt64) (GI.toZ f).toNat))then
j9 b k n a o m (Al f 1)
else
if(Cj f 24)then
(Jd (Kq f 0)).bind λ_=>
if(Dv (Ae a (Al (Ad b:UInt64) (Cs a (GI.toZ (4:UInt64)).toNat))) (Eg (32:UInt64) (GI.toZ f).toNat))then
j9 b k n a o m (Ae f 1)
else
j9 b k n a o m f
else
j9 b k n a o m f
else
if(Cj f 24)then
(Jd (Kq f 0)).bind λ_=>
if(Dv (Ae a (Al (Ad b:UInt64) (Cs a (GI.toZ (4:UInt64)).toNat))) (Eg (32:UInt64) (GI.toZ f).toNat))then
j9 b k n a o m (Ae f 1)
else
j9 b k n a o m f
else
j9 b k n a o m f
def kT:=kO K8
def kM(j8:UInt32->Int->UInt64->Int->LB->Int->UInt64->Ix)(b:UInt32)(f h:Int)(a g:UInt64)(ac k:Int)(m:LB):Ix:=
if(Bi ac 0)then
some (([]:LB),0,0,0,0,0,ac)
else
(IY f h a g b).bind λ(ag,p)=>
if(geq ag 1)then
if(Dv h 0)then
(Jd (Kq h 0)).bind λ_=>
if(Cj (Ae g (Al (Ad p:UInt64) (Cs g (GI.toZ (4:UInt64)).toNat))) (Eg (16:UInt64) (GI.toZ h).toNat))then
j8 b f a k m (Al h 1) (Ae g (Al (Ad p:UInt64) (Cs g (GI.toZ (4:UInt64)).toNat)))
else
if(Cj h 24)then
(Jd (Kq h 0)).bind λ_=>
if(Dv (Ae g (Al (Ad p:UInt64) (Cs g (GI.toZ (4:UInt64)).toNat))) (Eg (32:UInt64) (GI.toZ h).toNat))then
j8 b f a k m (Ae h 1) (Ae g (Al (Ad p:UInt64) (Cs g (GI.toZ (4:UInt64)).toNat)))
else
j8 b f a k m h (Ae g (Al (Ad p:UInt64) (Cs g (GI.toZ (4:UInt64)).toNat)))
else
j8 b f a k m h (Ae g (Al (Ad p:UInt64) (Cs g (GI.toZ (4:UInt64)).toNat)))
else
if(Cj h 24)then
(Jd (Kq h 0)).bind λ_=>
if(Dv (Ae g (Al (Ad p:UInt64) (Cs g (GI.toZ (4:UInt64)).toNat))) (Eg (32:UInt64) (GI.toZ h).toNat))then
j8 b f a k m (Ae h 1) (Ae g (Al (Ad p:UInt64) (Cs g (GI.toZ (4:UInt64)).toNat)))
else
j8 b f a k m h (Ae g (Al (Ad p:UInt64) (Cs g (GI.toZ (4:UInt64)).toNat)))
else
j8 b f a k m h (Ae g (Al (Ad p:UInt64) (Cs g (GI.toZ (4:UInt64)).toNat)))
else
j8 b f a k m h g
def K6:=kM kT
def lS(j7:UInt32->Int->Int->UInt64->UInt64->Int->Int->LB->Ix)(b:UInt32)(v:LB)(w f h:Int)(a g:UInt64):Ix:=
(IY f h a g b).bind λ(ad,ae)=>
(gJ v w (Ad ad:UInt64) 1).bind λ(y,aa,ab)=>
if((geq ab 0)&&(geq ad 0))then
(gJ y aa (Ad ae:UInt64) f).bind λ(ah,ai,aj)=>
j7 b f h a g aj ai ah
else
if(geq ab 0)then
(A7 y aa ae h).bind λ(ak,al,am)=>
j7 b f h a g am al ak
else
j7 b f h a g ab aa y
def J7:=lS K6
def lV(j6:UInt32->LB->Int->Int->Int->UInt64->UInt64->Ix)(v:LB)(w f h:Int)(a g:UInt64)(b:UInt32):Ix:=
(Kk v w).bind λan=>
if(Bi an 0)then
some (([]:LB),0,0,0,0,0,8)
else
(RZ f h a g).bind λao=>
if(Bi ao 0)then
some (([]:LB),0,0,0,0,0,8)
else
j6 b v w f h a g
def zQ:=lV J7
abbrev Cc:=Option (UInt32×Int)
def fF:Cc:=
some (N,0)
def QR:=fF
def FM(j30:UInt32->Cc)(Av1:UInt32->Int->Cc)(a:LB)(b:LU)(h:UInt32)(m:Int):Cc:=
if(Cj m (Ac a))then
(Ah a m).bind λp=>
(Ah b (GI.toZ (Yw (Ad h:UInt8) p))).bind λ_=>
(Ah b (GI.toZ (Yw (Ad h:UInt8) p))).bind λu=>
Av1 (Yw (Cs h (GI.toZ (8:UInt64)).toNat) u) (Ae m 1)
else
j30 h
def Rb:Nat->UInt32->Int->Cc
|0,_,_=>none
|z+1,d,e=>FM QR (Rb z) c T d e
def RI a b:=Rb a b Ar
def RA(j28:LB->LU->UInt32->Int->Cc)(f:UInt32)(a:LB)(b:LU):Cc:=
j28 a b f 0
def fG:=RA RI
def QU(j27:UInt32->LB->LU->Cc)(f:UInt32)(a:LB)(b:LU):Cc:=
j27 f a b
def RE:=QU fG
def eQ(Hj:Int->LU->Cc)(f:UInt32)(a:LB)(g:Int)(o:LU):Cc:=
Hj (Ae g 1) o
def gS Hj:=eQ Hj
def fS(j24:Int->LU->Cc)(f:UInt32)(a:LB)(g:Int)(k:UInt32)(b:LU):Cc:=
(Ah b g).bind λ_=>
(Mc b g k).bind λo=>
j24 g o
def EB Hj f a:=fS (gS Hj f a) f a
def DQ(j23:Int->UInt32->LU->Cc)(Asc:UInt32->Int->Cc)(f:UInt32)(a:LB)(g:Int)(b:LU)(k:UInt32)(n:Int):Cc:=
if(Cj n 8)then
Asc (Yw (Cs k (GI.toZ (1:UInt64)).toNat) (Ce 3988292384 (Ex k 1))) (Ae n 1)
else
j23 g k b
def Qs(Hj:Int->LU->Cc)(f:UInt32)(a:LB)(g:Int)(b:LU):Nat->UInt32->Int->Cc
|0,_,_=>none
|q+1,k,n=>DQ (EB Hj f a) (Qs Hj f a g b q) f a g b k n
def QC Hj f a g b:=Qs Hj f a g b Ar
def FO(j21:Int->LU->UInt32->Int->Cc)(j26:UInt32->LB->LU->Cc)(f:UInt32)(a:LB)(g:Int)(b:LU):Cc:=
if(Cj g 256)then
j21 g b (Ad g:UInt32) 0
else
j26 f a b
def Na:Nat->Int->LU->Cc
|0,_,_=>none
|z+1,c,d=>FO (QC (Na z) N o9) RE N o9 c d
def eV f a:=Na f a Ar
def VV(j16:UInt32->LB->Int->LU->Cc)(f:UInt32)(a:LB):Cc:=
if(Dv (Ac a) 100000)then
some (0,4)
else
j16 f a 0 (List.replicate 256 (0:UInt32))
def bC:=VV eV
def Xf:Option (UInt32×Int):=
(bC 4294967295 c).bind λ(z,d)=>
if(Bi d 0)then
some (0,d)
else
some ((D3 z),0)
def xI:Option Bool:=
if(geq U 8)then
some true
else
(Jd (Kq (Ce 8 U) 0)).bind λ_=>
some (geq (Cs A (GI.toZ (Ce 8 U)).toNat) 0)
abbrev BI:=Option (LB×Int)
def vM:BI:=
some (c,0)
def eK:=vM
def TU(j6:LB->BI)(Pa:Int->LB->BI)(f:UInt64)(g:LB)(a:Int)(b:LB):BI:=
if(Cj a (Ac g))then
(Jd (Kq (Ce 8 a) 0)).bind λ_=>
(Ah b a).bind λ_=>
(Mc b a (Ad (Cs f (GI.toZ (Ce 8 a)).toNat):UInt8)).bind λk=>
Pa (Ae a 1) k
else
j6 b
def CP:Nat->Int->LB->BI
|0,_,_=>none
|z+1,c,d=>TU eK (CP z) A o9 c d
def vN f g:=CP f g Ar
def fW(j4:UInt64->LB->Int->LB->BI)(f:UInt64)(h:Int):BI:=
if((Cj h 1)||(Dv h 8))then
some (([]:LB),2)
else
(xI f h).bind λm=>
if(!m)then
some (([]:LB),16)
else
(mkI h (0:UInt8)).bind λg=>
(Jd (geq h h)).bind λ_=>
j4 f g 0 g
def Zd:=fW vN
def PJ:Option (LB):=
some c
def Uu:=PJ
def Va(j16:LB->Option (LB))(iN:Int->LB->Option (LB))(a:List LB)(g:Int)(f:LB):Option (LB):=
if(Cj g (Ac a))then
(Ah a g).bind λn=>
(Ck f n).bind λo=>
iN (Ae g 1) o
else
j16 f
def Mh:Nat->Int->LB->Option (LB)
|0,_,_=>none
|z+1,c,d=>Va Uu (Mh z) R c d
def Uq a:=Mh a Ar
def Vb(j14:(List LB)->Int->LB->Option (LB))(a:List LB)(p:LB):Option (LB):=
j14 a 0 p
def PC:=Vb Uq
def Vn(j13:(List LB)->LB->Option (LB))(b:Int)(a:List LB):Option (LB):=
if(Dv (Al b (Al (0:Int) (0:Int))) 0)then
(aK 0 0 0).bind λ_=>
(mkI (Al b (Al (0:Int) (0:Int))) (0:UInt8)).bind λu=>
(Ck ([]:LB) u).bind λk=>
(aK (Ac k) 0 0).bind λ_=>
j13 a (KY k 0 ((0:Int)-(0:Int)))
else
j13 a ([]:LB)
def PD:=Vn PC
def Vc(j12:Int-> (List LB)->Option (LB))(a:List LB)(b:Int):Option (LB):=
if(Cj b 0)then
none
else
j12 b a
def PG:=Vc PD
def Wk(j11:(List LB)->Int->Option (LB))(bk9:Int->Int->Option (LB))(a:List LB)(b h:Int):Option (LB):=
if(Cj h (Ac a))then
(Ah a h).bind λm=>
if(Cj (Ae b (Ac m)) 0)then
none
else
bk9 (Ae b (Ac m)) (Ae h 1)
else
j11 a b
def Nr:Nat->Int->Int->Option (LB)
|0,_,_=>none
|z+1,c,d=>Wk PG (Nr z) R c d
def QL a:=Nr a Ar
def Wx(j9:(List LB)->Int->Int->Option (LB))(a:List LB):Option (LB):=
j9 a 0 0
def Lj:=Wx QL
abbrev Bu:=Option (LB×Int)
def mZ(v:Int)(p:LB):Bu:=
(Xf p).bind λ(af,ac)=>
if(Bi ac 0)then
some (([]:LB),ac)
else
(Zd (Ad af:UInt64) 4).bind λ(m,h)=>
if(Bi h 0)then
some (([]:LB),h)
else
(Lj ([p,m]:List LB)).bind λag=>
some (ag,0)
def RG:=mZ
def mN(bM:Int-> (List (Int×Int×UInt64×UInt64×Unit))->Int->LB->Bu)(b:LU)(a g f:Int)(n:List (Int×Int×UInt64×UInt64×Unit))(k:Int)(w:LB):Bu:=
bM (Ae f 1) n k w
def SO bM:=mN bM
def nO(J0:Int->Int->LB->Bu)(h:Int)(b:LU)(f a g:Int)(n:List (Int×Int×UInt64×UInt64×Unit))(m:LB)(o k:Int)(ab:LB):Bu:=
J0 (Ae o 1) (Ae k 1) ab
def mP J0:=nO J0
def mH(j48:Int->Int->LB->Bu)(h:Int)(b:LU)(f a g:Int)(n:List (Int×Int×UInt64×UInt64×Unit))(m:LB)(o k:Int)(y:LB):Bu:=
(Ah m (Cq o 8)).bind λ_=>
(Ah m (Cq o 8)).bind λah=>
(Jd (Kq (Hk o 8) 0)).bind λ_=>
(Ah y (Cq k 8)).bind λ_=>
(Jd (Kq (Hk k 8) 0)).bind λ_=>
(Ah y (Cq k 8)).bind λai=>
(Ah y (Cq k 8)).bind λ_=>
Option.bind (Mc y (Cq k 8) (vL ai (Eg (Ex (Cs ah (GI.toZ (Hk o 8)).toNat) 1) (GI.toZ (Hk k 8)).toNat))) λab=>
j48 o k ab
def QS J0 h b f a g n m:=mH (mP J0 h b f a g n m) h b f a g n m
def SM(j47:Int->Int->LB->Bu)(j50:Int-> (List (Int×Int×UInt64×UInt64×Unit))->Int->LB->Bu)(b:LU)(a g h f:Int)(n:List (Int×Int×UInt64×UInt64×Unit))(m:LB)(o k:Int)(w:LB):Bu:=
if(Cj o h)then
if(geq (Hk k 8) 0)then
(Ck w ([(0:UInt8)]:LB)).bind λaj=>
j47 o k aj
else
j47 o k w
else
j50 f n k w
def BE(bM:Int-> (List (Int×Int×UInt64×UInt64×Unit))->Int->LB->Bu)(b:LU)(a g h f:Int)(n:List (Int×Int×UInt64×UInt64×Unit))(m:LB):Nat->Int->Int->LB->Bu
|0,_,_,_=>none
|q+1,o,k,w=>SM (QS (BE bM b a g h f n m q) h b f a g n m) (SO bM b a g) b a g h f n m o k w
def RK bM b a g h f n m:=BE bM b a g h f n m Ar
def RQ(j44:Int->Int-> (List (Int×Int×UInt64×UInt64×Unit))->LB->Int->Int->LB->Bu)(j52:Int->LB->Bu)(b:LU)(a g f:Int)(u:List (Int×Int×UInt64×UInt64×Unit))(v:Int)(p:LB):Bu:=
if(Cj f (Ac b))then
(Ah b f).bind λ_=>
(Ah b f).bind λak=>
(Jd (Bi a 0)).bind λ_=>
(Ah u (Hk f a)).bind λ_=>
(Ah u (Hk f a)).bind λaa=>
(zQ ([]:LB) 0 aa.1 aa.2.1 aa.2.2.1 aa.2.2.2.1 ak).bind λ(m,h,al,am,an,ao,ad)=>
if(Bi ad 0)then
some (([]:LB),ad)
else
(Jd (Bi a 0)).bind λ_=>
(Ah u (Hk f a)).bind λ_=>
(Mc u (Hk f a) (al,am,an,ao,())).bind λn=>
j44 h f n m 0 v p
else
j52 v p
def BA:Nat->Int-> (List (Int×Int×UInt64×UInt64×Unit))->Int->LB->Bu
|0,_,_,_,_=>none
|z+1,c,d,e,i=>RQ (RK (BA z) T l9 Ayg) RG T l9 Ayg c d e i
def mE b a g:=BA b a g Ar
def TH(j27:LU->Int->Int->Int-> (List (Int×Int×UInt64×UInt64×Unit))->Int->LB->Bu)(a g:Int)(ap aq:LX):Bu:=
(eY a g ap aq).bind λ(b,ae)=>
if(Bi ae 0)then
some (([]:LB),ae)
else
(gD).bind λar=>
j27 b a g 0 ar 0 ([]:LB)
def SJ:=TH mE
def FV(b f g:Int)(h k:LB)(m:LX)(n:List LB)(o:LB)(p:Bool)(u a:Int):Option (Int×Int×Int×LB×LB×LX×(List LB)×LB×Bool×Int×Int):=
some (b,f,g,h,([]:LB),([]:LX),([]:List LB),([]:LB),false,a,a)
abbrev By:=Option (Int×Int×Int×LB×LB×LX×(List LB)×LB×Bool×Int×Int)
def rS:By:=
some (z,d,e,i,V,j,R,q9,C,t,0)
def YU:=rS
def rY(iN:Int->LB->LX-> (List LB)->By)(p:Int)(n:LB)(a b g:Int)(f:LB)(h:Bool)(k o:Int)(m:LB)(u:Int)(ao:LB)(ap:LX)(aq:List LB):By:=
iN (Ae u 1) ao ap aq
def HR iN:=rY iN
def sD(j24:Int->LB->LX-> (List LB)->By)(p:Int)(n:LB)(a b g:Int)(f:LB)(h:Bool)(k o:Int)(m:LB)(u ad:Int)(ae:LB)(af:LX)(ag:List LB):By:=
if(Bi ad 0)then
(FV a b g f ae af ag m h k ad).bind λ(ar,au,av,aw,ax,ay,az,ba,bb,bc,bd)=>
some (ar,au,av,aw,ax,ay,az,ba,bb,bc,bd)
else
j24 u ae af ag
def Rn iN p n a b g f h k o m:=sD (HR iN p n a b g f h k o m) p n a b g f h k o m
def rM(j23:Int->Int->LB->LX-> (List LB)->By)(p:Int)(n:LB)(a b g:Int)(f:LB)(h:Bool)(k o:Int)(m:LB)(u:Int)(ab:LX)(v:List LB)(be:Int):By:=
j23 u be ([]:LB) ab v
def tN iN p n a b g f h k o m:=rM (Rn iN p n a b g f h k o m) p n a b g f h k o m
def tP(j23:Int->Int->LB->LX-> (List LB)->By)(p:Int)(n:LB)(a b g:Int)(f:LB)(h:Bool)(k o:Int)(m:LB)(u:Int)(ac:List LB):By:=
j23 u 0 ([]:LB) ([]:LX) ac
def sK iN p n a b g f h k o m:=tP (Rn iN p n a b g f h k o m) p n a b g f h k o m
def rX(j23:Int->Int->LB->LX-> (List LB)->By)(j21:Int->LX-> (List LB)->Int->By)(j22:Int-> (List LB)->By)(p:Int)(n:LB)(a b g:Int)(f:LB)(h:Bool)(k o:Int)(m:LB)(u:Int)(aa:LB)(w:LX)(v:List LB):By:=
(kW b aa).bind λ(bf,ah)=>
if(Bi ah 0)then
j23 u ah aa w v
else
(Ck w bf).bind λab=>
if(Cj (Ac ab) (Ce o a))then
j23 u 0 ([]:LB) ab v
else
(Tv f).bind λ(bg,ai)=>
if(Bi ai 0)then
j21 u ab v ai
else
(SJ a b bg ab).bind λ(bh,aj)=>
if(Bi aj 0)then
j21 u ab v aj
else
(Ck v ([bh]:List LB)).bind λac=>
j22 u ac
def WZ iN p n a b g f h k o m:=rX (Rn iN p n a b g f h k o m) (tN iN p n a b g f h k o m) (sK iN p n a b g f h k o m) p n a b g f h k o m
def XX(j24:Int->LB->LX-> (List LB)->By)(j23:Int->Int->LB->LX-> (List LB)->By)(j20:Int->LB->LX-> (List LB)->By)(j26:Int->Int->Int->LB->Bool->Int->LB->LX-> (List LB)->LB->By)(p:Int)(n:LB)(a b g:Int)(f:LB)(h:Bool)(k o:Int)(m:LB)(u:Int)(y:LB)(w:LX)(v:List LB):By:=
if(Cj u (Ac n))then
(Ah n u).bind λbi=>
(Ck y ([bi]:LB)).bind λaa=>
if(Cj (Ac aa) p)then
j24 u aa w v
else
(JG a b g f aa w v m h k o).bind λbj=>
(bB a b g f aa w v m h k (Ae (Ac v) 1) (Ae bj 1)).bind λbk=>
if(!bk)then
j23 u 18 aa w v
else
j20 u aa w v
else
j26 a b g f h k y w v m
def Qu:Nat->Int->LB->LX-> (List LB)->By
|0,_,_,_,_=>none
|c+1,d,e,j,l=>XX (HR (Qu c) z i t J Ayo Ayh Ayi Ayj M w9) (Rn (Qu c) z i t J Ayo Ayh Ayi Ayj M w9) (WZ (Qu c) z i t J Ayo Ayh Ayi Ayj M w9) YU z i t J Ayo Ayh Ayi Ayj M w9 d e j l
def tK p n a b g f h k o m:=Qu p n a b g f h k o m Ar
def cS(j14:Int->LB->Int->Int->Int->LB->Bool->Int->Int->LB->Int->LB->LX-> (List LB)->By)(bl bm bn:Int)(bp bq:LB)(br:LX)(bs:List LB)(bt:LB)(bu:Bool)(bv:Int)(n:LB):By:=
(WC bl bm bn bp bq br bs bt bu bv).bind λ(a,b,g,f,ak,al,am,m,h,k,o,an)=>
if(Bi an 0)then
some (a,b,g,f,ak,al,am,m,h,k,an)
else
(QN a b).bind λp=>
j14 p n a b g f h k o m 0 ak al am
def Ry:=cS tK
def VW:Option (Int×Int×Int×LB×LB×LX×(List LB)×LB×Bool×Int×LB×Int):=
(VN z d e i V j R q9 r9 M).bind λc=>
if(Bi c 0)then
some (0,0,0,([]:LB),([]:LB),([]:LX),([]:List LB),([]:LB),false,0,([]:LB),c)
else
if(Cj o8 0)then
some (0,0,0,([]:LB),([]:LB),([]:LX),([]:List LB),([]:LB),false,0,([]:LB),2)
else
(aM z d e i V j R q9 r9 M).bind λ(l,t,A,B,C,D,E,F,G,I)=>
(Bk F 0 (Dx o8 (Ac F))).bind λJ=>
(Cw J).bind λL=>
(Bk F (Dx o8 (Ac F)) (Ac F)).bind λN=>
some (l,t,A,B,C,D,E,N,G,I,L,0)
def lW:Option (Int×Int):=
if(Dv (Ac c) 64)then
some (0,2)
else
if(geq (Ac c) 0)then
some (1,0)
else
some (2,0)
def IH(b f a g h:Int):Option Bool:=
some (((((((geq b 1)||(geq b 2))&&(Dv f 0))&&(pP f 6))&&(Dv g 0))&&(pP g 1048576))&&(Dv h 0))
def Rg:=IH
def IE(j2:Int->Int->Int->Int->Int->Option Bool)(b f a g h:Int):Option Bool:=
if(geq a 8)then
if(geq a 8)then
j2 b f a g h
else
some false
else
if(geq a 16)then
if(geq a 16)then
j2 b f a g h
else
some false
else
if(geq a 24)then
j2 b f a g h
else
some false
def Px:=IE Rg
def Zk:Option (Int×Int):=
(Rt z).bind λ(c,e)=>
if(Bi e 0)then
some (0,e)
else
if((Cj d 1)||(Dv d 4000))then
some (0,2)
else
(Jd (Bi c 0)).bind λ_=>
if(Dv (Cq (Al (Ae d c) 1) c) 1000)then
some (0,4)
else
some ((Cq (Al (Ae d c) 1) c),0)
def LR(k a m f b:Int):Option Bool:=
(Jd (Bi a 0)).bind λ_=>
if(Dv b (Cq 4000 a))then
some false
else
(Zk f b).bind λ(g,h)=>
some ((geq h 0)&&(pP g 1000))
def Rr:Option Int:=
(Px z d e B D).bind λc=>
if(!c)then
some 8
else
(LR z d e B D).bind λi=>
if(!i)then
some 8
else
some 0
abbrev Nl:=Option (LB×Int)
def wD:Nl:=
(Xf c).bind λ(z,d)=>
(Zd (Ad z:UInt64) 4).bind λ(e,i)=>
(Ck c e).bind λj=>
some (j,0)
def cO:=wD
def ND(j6:LB->Nl)(Pa:Int->LB->Nl)(b f g h k m:Int)(a:LB):Nl:=
if(Cj m 5)then
(Ah ([b,f,g,h,k]:LI) m).bind λw=>
(Ah ([(2:Int),(2:Int),(2:Int),(4:Int),(4:Int)]:LI) m).bind λy=>
(Zd (Ad w:UInt64) y).bind λ(n,v)=>
(Ck a n).bind λo=>
Pa (Ae m 1) o
else
j6 a
def Pc:Nat->Int->LB->Nl
|0,_,_=>none
|c+1,i,j=>ND cO (Pc c) z d e B D i j
def wJ b f g h k:=Pc b f g h k Ar
def cT(j4:Int->Int->Int->Int->Int->Int->LB->Nl)(b f g h k:Int):Nl:=
(Rr b f g h k).bind λp=>
if(Bi p 0)then
some (([]:LB),p)
else
j4 b f g h k 0 ([(84:UInt8),(84:UInt8),(65:UInt8),(49:UInt8)]:LB)
def pR:=cT wJ
def tB:Option (UInt64×Int):=
if(Dv (Ac c) 64)then
some (0,2)
else
(XH c).bind λ(z,d)=>
some (z,0)
def EV:Option (LB×Int):=
(tB c).bind λ(z,d)=>
if(Bi d 0)then
some (([]:LB),d)
else
(Zd z 8).bind λ(e,i)=>
some (e,i)
def D4:Option Int:=
some 0
def iM:=D4
def GB:Option Int:=
if(Cj l7 (Ac Ayr))then
(Ah Ayr l7).bind λz=>
if((Cj z 5)||(Dv z o7))then
some 8
else
Ayq (Al o7 z) (Ae l7 1)
else
p9
def Rc:Nat->Int->Int->Option Int
|0,_,_=>none
|z+1,c,d=>GB iM (Rc z) l c d
def gA a:=Rc a Ar
def FE(j4:LI->Int->Int->Option Int)(a:LI):Option Int:=
if((geq (Ac a) 0)||(Dv (Ac a) 1000))then
some 8
else
j4 a 100000 0
def Pv:=FE gA
abbrev Hf:=Option (LB×Int)
def wA:Hf:=
some (c,0)
def wM:=wA
def wE(j14:LB->Hf)(b:LB):Hf:=
(Xf b).bind λ(m,u)=>
(Zd (Ad m:UInt64) 4).bind λ(n,v)=>
(Ck b n).bind λg=>
j14 g
def bT:=wE wM
def wP(jh:Int->LB->Hf)(a:LI)(f:Int)(h:LB):Hf:=
jh (Ae f 1) h
def cD jh:=wP jh
def iD(j11:Int->LB->Hf)(j13:LB->Hf)(a:LI)(f:Int)(b:LB):Hf:=
if(Cj f (Ac a))then
(Ah a f).bind λo=>
(Zd (Ad o:UInt64) 4).bind λ(p,w)=>
(Ck b p).bind λh=>
j11 f h
else
j13 b
def PZ:Nat->Int->LB->Hf
|0,_,_=>none
|z+1,c,d=>iD (cD (PZ z) l) bT l c d
def H0 a:=PZ a Ar
def eZ(j8:LI->Int->LB->Hf)(a:LI):Hf:=
(Pv a).bind λk=>
if(Bi k 0)then
some (([]:LB),k)
else
j8 a 0 ([]:LB)
def gW:=eZ H0
abbrev Ie:=Option (LB×Int)
def MP(f g h:Int)(b k:LB)(m:LX)(a:List LB)(n:LB)(o:Bool)(p:Int)(u:LB)(v:LI):Ie:=
(gW v).bind λ(aa,y)=>
if(Bi y 0)then
some (([]:LB),y)
else
(
(Ck u aa).bind λab=>
(Lj a).bind λac=>
(Ck ab ac).bind λad=>
some (ad,0))
def cC:=MP
def bX(j8:Int->Int->Int->LB->LB->LX-> (List LB)->LB->Bool->Int->LB->LI->Ie)(I9:Int->LI->Ie)(a:List LB)(f g h:Int)(b k:LB)(m:LX)(n:LB)(o:Bool)(p:Int)(u:LB)(w:Int)(v:LI):Ie:=
if(Cj w (Ac a))then
(Ah a w).bind λai=>
(Ck v ([(Ac ai)]:LI)).bind λaj=>
I9 (Ae w 1) aj
else
j8 f g h b k m a n o p u v
def NC:Nat->Int->LI->Ie
|0,_,_=>none
|z+1,c,d=>bX cC (NC z) R M o8 Ay8 w9 Ay9 O Aza Azm Ayp Azn c d
def wH a f g h b k m n o p u:=NC a f g h b k m n o p u Ar
def cQ(j6:(List LB)->Int->Int->Int->LB->LB->LX->LB->Bool->Int->LB->Int->LI->Ie)(f g h:Int)(b k:LB)(m:LX)(a:List LB)(n:LB)(o:Bool)(p:Int)(u:LB):Ie:=
j6 a f g h b k m n o p u 0 ([]:LI)
def vZ:=cQ wH
def bN(j5:Int->Int->Int->LB->LB->LX-> (List LB)->LB->Bool->Int->LB->Ie)(f g h:Int)(b k:LB)(m:LX)(a:List LB)(n:LB)(o:Bool)(p ak:Int):Ie:=
(lW b).bind λ(al,ae)=>
if(Bi ae 0)then
some (([]:LB),ae)
else
(pR al f g h ak).bind λ(af,ag)=>
if(Bi ag 0)then
some (([]:LB),ag)
else
if(b !=([]:LB))then
(EV b).bind λ(am,ah)=>
if(Bi ah 0)then
some (([]:LB),ah)
else
(Ck af am).bind λan=>
j5 f g h b k m a n o p an
else
j5 f g h b k m a n o p af
def rG:=bN vZ
abbrev Mu:=Option (Int×Int×Int×LB×LB×LX×(List LB)×LB×Bool×Int×Int)
def oM:Mu:=
(rG d e B i V j R Ayu C t z).bind λ(c,l)=>
if(Bi l 0)then
(FV d e B i V j R Ayu C t l).bind λ(A,D,E,F,G,I,J,L,M,N,O)=>
some (A,D,E,F,G,I,J,L,M,N,O)
else
some (d,e,B,i,([]:LB),([]:LX),([]:List LB),c,true,0,0)
def UH:=oM
def oR(j4:Int->Int->Int->Int->LB->Bool->Int->LB->LB->LX-> (List LB)->Mu)(o a b g:Int)(f:LB)(k:Bool)(m:Int)(h n:LB)(ad:Int)(ae:LX)(af:List LB):Mu:=
if(Bi ad 0)then
(FV a b g f h ae af n k m ad).bind λ(au,v,w,av,aw,ax,y,aa,ay,az,ba)=>
some (au,v,w,av,aw,ax,y,aa,ay,az,ba)
else
j4 o a b g f k m h n ae af
def pC:=oR UH
def qU(j3:Int->Int->Int->Int->LB->Bool->Int->LB->LB->Int->LX-> (List LB)->Mu)(j4:Int->Int->Int->Int->LB->Bool->Int->LB->LB->LX-> (List LB)->Mu)(bb bc bd:Int)(be bf:LB)(bg:LX)(bh:List LB)(bi:LB)(bj:Bool)(bk:Int):Mu:=
(WC bb bc bd be bf bg bh bi bj bk).bind λ(a,b,g,f,h,p,u,n,k,m,bl,ag)=>
if(Bi ag 0)then
some (a,b,g,f,h,p,u,n,k,m,ag)
else
(JG a b g f h p u n k m bl).bind λo=>
if((Dv (Ac h) 0)||(geq o 0))then
(FV a b g f h p u n k m 24).bind λ(bm,bn,bp,bq,br,bs,bt,bu,bv,bw,bx)=>
some (bm,bn,bp,bq,br,bs,bt,bu,bv,bw,bx)
else
if(Dv (Ac p) 0)then
(Tv f).bind λ(bz,ah)=>
if(Bi ah 0)then
j3 o a b g f k m h n ah p u
else
(SJ a b bz p).bind λ(da,ai)=>
if(Bi ai 0)then
j3 o a b g f k m h n ai p u
else
(Ck u ([da]:List LB)).bind λdb=>
j3 o a b g f k m h n 0 ([]:LX) db
else
j4 o a b g f k m h n p u
def QG:=qU pC UH
abbrev Bo:=Option (Int×Int×Int×LB×LB×LX×(List LB)×LB×Bool×Int×(List (Int×LB×Unit))×Int)
def pH(f g h:Int)(k m:LB)(n:Bool)(o:Int)(a:LB)(w:List (Int×LB×Unit))(p:LB)(u:LX)(v:List LB):Bo:=
some (f,g,h,k,p,u,v,m,n,o,w,0)
def qY:=pH
def rI(j32:Int->Int->Int->LB->LB->Bool->Int->LB-> (List (Int×LB×Unit))->LB->LX-> (List LB)->Bo)(w:List (Int×LB×Unit))(f g h:Int)(k m:LB)(n:Bool)(o:Int)(a p:LB)(u:LX)(v:List LB):Bo:=
j32 f g h k m n o a w p u v
def UW:=rI qY
def pD(WK:Int->Int->Int->Int->LB->LB->Bool->Int->LB-> (List (Int×LB×Unit))->LB->LX-> (List LB)->Bo)(b:List (UInt8×Int×Unit))(y df dg dh:Int)(di dj:LB)(dk:Bool)(dl:Int)(dm:LB)(dn:List (Int×LB×Unit))(dp:LB)(dq:LX)(dr:List LB):Bo:=
WK (Ae y 1) df dg dh di dj dk dl dm dn dp dq dr
def Lf WK:=pD WK
def EE(j29:Int->Int->Int->Int->LB->LB->Bool->Int->LB-> (List (Int×LB×Unit))->LB->LX-> (List LB)->Bo)(b:List (UInt8×Int×Unit))(aa:UInt8×Int×Unit)(a:LB)(ab y f g h:Int)(k p:LB)(u:LX)(v:List LB)(m:LB)(n:Bool)(o ac ad ae:Int)(af:LB)(ag:Bool)(ah:Int)(w:List (Int×LB×Unit))(ai:LB)(aj:LX)(ak:List LB)(al:LB):Bo:=
(
(Bk a (Dx aa.2.1 (Ac a)) (Ac a)).bind λbm=>
(Ck w ([(ab,([]:LB),())]:List (Int×LB×Unit))).bind λbn=>
j29 y ac ad ae af al ag ah bm bn ai aj ak)
def TV WK b:=EE (Lf WK b) b
def qI(j29:Int->Int->Int->Int->LB->LB->Bool->Int->LB-> (List (Int×LB×Unit))->LB->LX-> (List LB)->Bo)(b:List (UInt8×Int×Unit))(an y f g h:Int)(k p:LB)(u:LX)(v:List LB)(m:LB)(n:Bool)(o:Int)(a:LB)(ao ap aq:Int)(ar au:LB)(av:Bool)(aw:Int)(ax:LB)(w:List (Int×LB×Unit))(ay:LB)(az:LX)(ba:List LB):Bo:=
(Ck w ([(an,ax,())]:List (Int×LB×Unit))).bind λds=>
j29 y ao ap aq ar au av aw a ds ay az ba
def UT WK b:=qI (Lf WK b) b
def oS(j29:Int->Int->Int->Int->LB->LB->Bool->Int->LB-> (List (Int×LB×Unit))->LB->LX-> (List LB)->Bo)(b:List (UInt8×Int×Unit))(bb y f g h:Int)(k p:LB)(u:LX)(v:List LB)(m:LB)(n:Bool)(o:Int)(a:LB)(bc bd be:Int)(bf:LB)(bg:Bool)(bh:Int)(w:List (Int×LB×Unit))(bi:LB)(bj:LX)(bk:List LB)(bl:LB):Bo:=
(Ck w ([(bb,([]:LB),())]:List (Int×LB×Unit))).bind λdt=>
j29 y bc bd be bf bl bg bh a dt bi bj bk
def UI WK b:=oS (Lf WK b) b
def EM(j26:(UInt8×Int×Unit)->LB->Int->Int->Int->Int->Int->LB->LB->LX-> (List LB)->LB->Bool->Int->Int->Int->Int->LB->Bool->Int-> (List (Int×LB×Unit))->LB->LX-> (List LB)->LB->Bo)(j33:Int->Int->Int->Int->Int->LB->LB->LX-> (List LB)->LB->Bool->Int->LB->Int->Int->Int->LB->LB->Bool->Int->LB-> (List (Int×LB×Unit))->LB->LX-> (List LB)->Bo)(j34:Int->Int->Int->Int->Int->LB->LB->LX-> (List LB)->LB->Bool->Int->LB->Int->Int->Int->LB->Bool->Int-> (List (Int×LB×Unit))->LB->LX-> (List LB)->LB->Bo)(j29:Int->Int->Int->Int->LB->LB->Bool->Int->LB-> (List (Int×LB×Unit))->LB->LX-> (List LB)->Bo)(j31:(List (Int×LB×Unit))->Int->Int->Int->LB->LB->Bool->Int->LB->LB->LX-> (List LB)->Bo)(b:List (UInt8×Int×Unit))(y f g h:Int)(k m:LB)(n:Bool)(o:Int)(a:LB)(w:List (Int×LB×Unit))(p:LB)(u:LX)(v:List LB):Bo:=
if(Cj y (Ac b))then
(Ah b y).bind λaa=>
if(geq aa.1 1)then
(
(
(
(Bk a 0 (Dx aa.2.1 (Ac a))).bind λam=>
(
(Ry f g h k p u v m n o am).bind λ(ac,ad,ae,af,ai,aj,ak,al,ag,ah,ab)=>
j26 aa a ab y f g h k p u v m n o ac ad ae af ag ah w ai aj ak al))))
else
if(geq aa.1 2)then
(
(
(
(VW f g h k p u v m n o aa.2.1).bind λ(ao,ap,aq,ar,ay,az,ba,au,av,aw,ax,an)=>
j33 an y f g h k p u v m n o a ao ap aq ar au av aw ax w ay az ba)))
else
if(geq aa.1 3)then
(
(
(
(QG f g h k p u v m n o).bind λ(bc,bd,be,bf,bi,bj,bk,bl,bg,bh,bb)=>
j34 bb y f g h k p u v m n o a bc bd be bf bg bh w bi bj bk bl)))
else
j29 y f g h k m n o a w p u v
else
j31 w f g h k m n o a p u v
def Lg:Nat->Int->Int->Int->Int->LB->LB->Bool->Int->LB-> (List (Int×LB×Unit))->LB->LX-> (List LB)->Bo
|0,_,_,_,_,_,_,_,_,_,_,_,_,_=>none
|z+1,c,d,e,i,j,l,t,A,B,C,D,E,F=>EM (TV (Lg z) L) (UT (Lg z) L) (UI (Lg z) L) (Lf (Lg z) L) UW L c d e i j l t A B C D E F
def oX b:=Lg b Ar
def YC(j17:(List (UInt8×Int×Unit))->Int->Int->Int->Int->LB->LB->Bool->Int->LB-> (List (Int×LB×Unit))->LB->LX-> (List LB)->Bo)(du dv dw:Int)(dx dy:LB)(b:List (UInt8×Int×Unit)):Bo:=
(ER b).bind λbq=>
if(Bi bq 0)then
some (0,0,0,([]:LB),([]:LB),([]:LX),([]:List LB),([]:LB),false,0,([]:List (Int×LB×Unit)),bq)
else
(vK du dv dw dx).bind λ(dz,fa,fb,fc,fd,fe,ff,fg,fh,fi,br)=>
if(Bi br 0)then
some (0,0,0,([]:LB),([]:LB),([]:LX),([]:List LB),([]:LB),false,0,([]:List (Int×LB×Unit)),br)
else
j17 b 0 dz fa fb fc fg fh fi dy ([]:List (Int×LB×Unit)) fd fe ff
def kN:=YC oX
def MT:Option (UInt64×UInt64):=
some ((Ae (Ae (Ce (Cs A (GI.toZ (32:UInt64)).toNat) (Cs P (GI.toZ (32:UInt64)).toNat)) (Cs (Ae (Ce (Cs A (GI.toZ (32:UInt64)).toNat) (Ex P 4294967295)) (Cs (Ce (Ex A 4294967295) (Ex P 4294967295)) (GI.toZ (32:UInt64)).toNat)) (GI.toZ (32:UInt64)).toNat)) (Cs (Ae (Ex (Ae (Ce (Cs A (GI.toZ (32:UInt64)).toNat) (Ex P 4294967295)) (Cs (Ce (Ex A 4294967295) (Ex P 4294967295)) (GI.toZ (32:UInt64)).toNat)) 4294967295) (Ce (Ex A 4294967295) (Cs P (GI.toZ (32:UInt64)).toNat))) (GI.toZ (32:UInt64)).toNat)),(Ce A P))
def Zs:Option (UInt64×UInt64):=
(MT A P).bind λ(z,c)=>
some (z,c)
abbrev Bg:=Option ((List (UInt8×Int×Unit)))
def Zu:Bg:=
some L
def Mo:=Zu
def Hq(j10:(List (UInt8×Int×Unit))->Bg)(jh:Int-> (List (UInt8×Int×Unit))->Bg)(b:Int)(a:List (UInt8×Int×Unit)):Bg:=
if(Cj b (Ac a))then
(
(aK (Ac a) b (Ac a)).bind λ_=>
(aK (Ac a) 0 b).bind λ_=>
jh (Ae b (FG ((Ac a)-b) (KY a 0 (b-(0:Int))).length)) (Qr a b ((Ac a)-b) (KY a 0 (b-(0:Int)))))
else
j10 a
def Hr:Nat->Int-> (List (UInt8×Int×Unit))->Bg
|0,_,_=>none
|q+1,b,a=>Hq Mo (Hr q) b a
def AY:=Hr Ar
def Nd(j8:Int-> (List (UInt8×Int×Unit))->Bg)(f:List (UInt8×Int×Unit))(g:UInt64):Bg:=
(mkI (Ad g:Int) ((0:UInt8),(0:Int),())).bind λk=>
(Jd (geq (Ad g:Int) (Ad g:Int))).bind λ_=>
j8 (FG (Ac k) f.length) (hH k f)
def AJ:=Nd AY
def Nn(j7:(List (UInt8×Int×Unit))->UInt64->Bg)(f:List (UInt8×Int×Unit))(h:Int):Bg:=
(Zs (Ad (Ac f):UInt64) (Ad h:UInt64)).bind λ(m,g)=>
if((Dv m 0)||(Dv g 9223372036854775807))then
none
else
j7 f g
def AP:=Nn AJ
def Nb(j6:(List (UInt8×Int×Unit))->Int->Bg)(f:List (UInt8×Int×Unit))(h:Int):Bg:=
if(Cj h 0)then
none
else
j6 f h
def Qh:=Nb AP
def uY:Option ((List (UInt8×Int×Unit))×Int):=
if((((((Cj z 0)||(Dv z 100000))||(Cj d 1))||(Dv d 100000))||(Cj e 0))||(Dv e 100000))then
some (([]:List (UInt8×Int×Unit)),2)
else
(Jd (Bi d 0)).bind λ_=>
if(Dv (Ae (Ce 2 (Cq (Al (Ae z d) 1) d)) 2) 200)then
some (([]:List (UInt8×Int×Unit)),4)
else
(Qh ([((1:UInt8),d,()),((2:UInt8),e,())]:List (UInt8×Int×Unit)) (Cq (Al (Ae z d) 1) d)).bind λc=>
(Ck c ([((3:UInt8),(0:Int),()),((2:UInt8),(100000:Int),())]:List (UInt8×Int×Unit))).bind λi=>
some (i,0)
def XQ:Option (LB):=
some c
def HS:=XQ
def Xp(j6:LB->Option (LB))(Pa:Int->LB->Option (LB))(a:List (Int×LB×Unit))(f:Int)(b:LB):Option (LB):=
if(Cj f (Ac a))then
(Ah a f).bind λg=>
(Ck b g.2.1).bind λh=>
Pa (Ae f 1) h
else
j6 b
def Mt(a:List (Int×LB×Unit)):Nat->Int->LB->Option (LB)
|0,_,_=>none
|q+1,f,b=>Xp HS (Mt a q) a f b
def tS a:=Mt a Ar
def WO(j4:(List (Int×LB×Unit))->Int->LB->Option (LB))(a:List (Int×LB×Unit)):Option (LB):=
j4 a 0 ([]:LB)
def Aq:=WO tS
def Sy:Option Bool:=
(TN).bind λ(g,h)=>
(kN g h 8000 ([]:LB) ([(128:UInt8)]:LB) ([((1:UInt8),(1:Int),()),((3:UInt8),(0:Int),()),((2:UInt8),(22:Int),()),((2:UInt8),(100:Int),())]:List (UInt8×Int×Unit))).bind λ(di,dj,dk,dl,dm,dn,dp,dq,k,dr,a,m)=>
(uY 5 2 0).bind λ(b,f)=>
if(((geq m 0)&&k)&&(geq (Ac a) 4))then
(Ah a 0).bind λ_=>
(Ah a 0).bind λn=>
if(geq n.1 0)then
(Ah a 1).bind λ_=>
(Ah a 1).bind λo=>
if(geq o.1 0)then
(Ah a 1).bind λ_=>
(Ah a 1).bind λp=>
if(geq (Ac p.2.1) 0)then
(Ah a 2).bind λ_=>
(Ah a 2).bind λu=>
if(geq (Ac u.2.1) 22)then
(Ah a 3).bind λ_=>
(Ah a 3).bind λv=>
if(geq (Ac v.2.1) 14)then
(Aq a).bind λw=>
some (((geq (Ac w) 36)&&(geq f 0))&&(geq (Ac b) 8))
else
some ((false&&(geq f 0))&&(geq (Ac b) 8))
else
if false then
(Aq a).bind λy=>
some (((geq (Ac y) 36)&&(geq f 0))&&(geq (Ac b) 8))
else
some ((false&&(geq f 0))&&(geq (Ac b) 8))
else
if false then
(Ah a 3).bind λ_=>
(Ah a 3).bind λaa=>
if(geq (Ac aa.2.1) 14)then
(Aq a).bind λab=>
some (((geq (Ac ab) 36)&&(geq f 0))&&(geq (Ac b) 8))
else
some ((false&&(geq f 0))&&(geq (Ac b) 8))
else
if false then
(Aq a).bind λac=>
some (((geq (Ac ac) 36)&&(geq f 0))&&(geq (Ac b) 8))
else
some ((false&&(geq f 0))&&(geq (Ac b) 8))
else
if false then
(Ah a 2).bind λ_=>
(Ah a 2).bind λad=>
if(geq (Ac ad.2.1) 22)then
(Ah a 3).bind λ_=>
(Ah a 3).bind λae=>
if(geq (Ac ae.2.1) 14)then
(Aq a).bind λaf=>
some (((geq (Ac af) 36)&&(geq f 0))&&(geq (Ac b) 8))
else
some ((false&&(geq f 0))&&(geq (Ac b) 8))
else
if false then
(Aq a).bind λag=>
some (((geq (Ac ag) 36)&&(geq f 0))&&(geq (Ac b) 8))
else
some ((false&&(geq f 0))&&(geq (Ac b) 8))
else
if false then
(Ah a 3).bind λ_=>
(Ah a 3).bind λah=>
if(geq (Ac ah.2.1) 14)then
(Aq a).bind λai=>
some (((geq (Ac ai) 36)&&(geq f 0))&&(geq (Ac b) 8))
else
some ((false&&(geq f 0))&&(geq (Ac b) 8))
else
if false then
(Aq a).bind λaj=>
some (((geq (Ac aj) 36)&&(geq f 0))&&(geq (Ac b) 8))
else
some ((false&&(geq f 0))&&(geq (Ac b) 8))
else
if false then
(Ah a 1).bind λ_=>
(Ah a 1).bind λak=>
if(geq (Ac ak.2.1) 0)then
(Ah a 2).bind λ_=>
(Ah a 2).bind λal=>
if(geq (Ac al.2.1) 22)then
(Ah a 3).bind λ_=>
(Ah a 3).bind λam=>
if(geq (Ac am.2.1) 14)then
(Aq a).bind λan=>
some (((geq (Ac an) 36)&&(geq f 0))&&(geq (Ac b) 8))
else
some ((false&&(geq f 0))&&(geq (Ac b) 8))
else
if false then
(Aq a).bind λao=>
some (((geq (Ac ao) 36)&&(geq f 0))&&(geq (Ac b) 8))
else
some ((false&&(geq f 0))&&(geq (Ac b) 8))
else
if false then
(Ah a 3).bind λ_=>
(Ah a 3).bind λap=>
if(geq (Ac ap.2.1) 14)then
(Aq a).bind λaq=>
some (((geq (Ac aq) 36)&&(geq f 0))&&(geq (Ac b) 8))
else
some ((false&&(geq f 0))&&(geq (Ac b) 8))
else
if false then
(Aq a).bind λar=>
some (((geq (Ac ar) 36)&&(geq f 0))&&(geq (Ac b) 8))
else
some ((false&&(geq f 0))&&(geq (Ac b) 8))
else
if false then
(Ah a 2).bind λ_=>
(Ah a 2).bind λau=>
if(geq (Ac au.2.1) 22)then
(Ah a 3).bind λ_=>
(Ah a 3).bind λav=>
if(geq (Ac av.2.1) 14)then
(Aq a).bind λaw=>
some (((geq (Ac aw) 36)&&(geq f 0))&&(geq (Ac b) 8))
else
some ((false&&(geq f 0))&&(geq (Ac b) 8))
else
if false then
(Aq a).bind λax=>
some (((geq (Ac ax) 36)&&(geq f 0))&&(geq (Ac b) 8))
else
some ((false&&(geq f 0))&&(geq (Ac b) 8))
else
if false then
(Ah a 3).bind λ_=>
(Ah a 3).bind λay=>
if(geq (Ac ay.2.1) 14)then
(Aq a).bind λaz=>
some (((geq (Ac az) 36)&&(geq f 0))&&(geq (Ac b) 8))
else
some ((false&&(geq f 0))&&(geq (Ac b) 8))
else
if false then
(Aq a).bind λba=>
some (((geq (Ac ba) 36)&&(geq f 0))&&(geq (Ac b) 8))
else
some ((false&&(geq f 0))&&(geq (Ac b) 8))
else
if false then
(Ah a 1).bind λ_=>
(Ah a 1).bind λbb=>
if(geq bb.1 0)then
(Ah a 1).bind λ_=>
(Ah a 1).bind λbc=>
if(geq (Ac bc.2.1) 0)then
(Ah a 2).bind λ_=>
(Ah a 2).bind λbd=>
if(geq (Ac bd.2.1) 22)then
(Ah a 3).bind λ_=>
(Ah a 3).bind λbe=>
if(geq (Ac be.2.1) 14)then
(Aq a).bind λbf=>
some (((geq (Ac bf) 36)&&(geq f 0))&&(geq (Ac b) 8))
else
some ((false&&(geq f 0))&&(geq (Ac b) 8))
else
if false then
(Aq a).bind λbg=>
some (((geq (Ac bg) 36)&&(geq f 0))&&(geq (Ac b) 8))
else
some ((false&&(geq f 0))&&(geq (Ac b) 8))
else
if false then
(Ah a 3).bind λ_=>
(Ah a 3).bind λbh=>
if(geq (Ac bh.2.1) 14)then
(Aq a).bind λbi=>
some (((geq (Ac bi) 36)&&(geq f 0))&&(geq (Ac b) 8))
else
some ((false&&(geq f 0))&&(geq (Ac b) 8))
else
if false then
(Aq a).bind λbj=>
some (((geq (Ac bj) 36)&&(geq f 0))&&(geq (Ac b) 8))
else
some ((false&&(geq f 0))&&(geq (Ac b) 8))
else
if false then
(Ah a 2).bind λ_=>
(Ah a 2).bind λbk=>
if(geq (Ac bk.2.1) 22)then
(Ah a 3).bind λ_=>
(Ah a 3).bind λbl=>
if(geq (Ac bl.2.1) 14)then
(Aq a).bind λbm=>
some (((geq (Ac bm) 36)&&(geq f 0))&&(geq (Ac b) 8))
else
some ((false&&(geq f 0))&&(geq (Ac b) 8))
else
if false then
(Aq a).bind λbn=>
some (((geq (Ac bn) 36)&&(geq f 0))&&(geq (Ac b) 8))
else
some ((false&&(geq f 0))&&(geq (Ac b) 8))
else
if false then
(Ah a 3).bind λ_=>
(Ah a 3).bind λbp=>
if(geq (Ac bp.2.1) 14)then
(Aq a).bind λbq=>
some (((geq (Ac bq) 36)&&(geq f 0))&&(geq (Ac b) 8))
else
some ((false&&(geq f 0))&&(geq (Ac b) 8))
else
if false then
(Aq a).bind λbr=>
some (((geq (Ac br) 36)&&(geq f 0))&&(geq (Ac b) 8))
else
some ((false&&(geq f 0))&&(geq (Ac b) 8))
else
if false then
(Ah a 1).bind λ_=>
(Ah a 1).bind λbs=>
if(geq (Ac bs.2.1) 0)then
(Ah a 2).bind λ_=>
(Ah a 2).bind λbt=>
if(geq (Ac bt.2.1) 22)then
(Ah a 3).bind λ_=>
(Ah a 3).bind λbu=>
if(geq (Ac bu.2.1) 14)then
(Aq a).bind λbv=>
some (((geq (Ac bv) 36)&&(geq f 0))&&(geq (Ac b) 8))
else
some ((false&&(geq f 0))&&(geq (Ac b) 8))
else
if false then
(Aq a).bind λbw=>
some (((geq (Ac bw) 36)&&(geq f 0))&&(geq (Ac b) 8))
else
some ((false&&(geq f 0))&&(geq (Ac b) 8))
else
if false then
(Ah a 3).bind λ_=>
(Ah a 3).bind λbx=>
if(geq (Ac bx.2.1) 14)then
(Aq a).bind λbz=>
some (((geq (Ac bz) 36)&&(geq f 0))&&(geq (Ac b) 8))
else
some ((false&&(geq f 0))&&(geq (Ac b) 8))
else
if false then
(Aq a).bind λda=>
some (((geq (Ac da) 36)&&(geq f 0))&&(geq (Ac b) 8))
else
some ((false&&(geq f 0))&&(geq (Ac b) 8))
else
if false then
(Ah a 2).bind λ_=>
(Ah a 2).bind λdb=>
if(geq (Ac db.2.1) 22)then
(Ah a 3).bind λ_=>
(Ah a 3).bind λdc=>
if(geq (Ac dc.2.1) 14)then
(Aq a).bind λdd=>
some (((geq (Ac dd) 36)&&(geq f 0))&&(geq (Ac b) 8))
else
some ((false&&(geq f 0))&&(geq (Ac b) 8))
else
if false then
(Aq a).bind λde=>
some (((geq (Ac de) 36)&&(geq f 0))&&(geq (Ac b) 8))
else
some ((false&&(geq f 0))&&(geq (Ac b) 8))
else
if false then
(Ah a 3).bind λ_=>
(Ah a 3).bind λdf=>
if(geq (Ac df.2.1) 14)then
(Aq a).bind λdg=>
some (((geq (Ac dg) 36)&&(geq f 0))&&(geq (Ac b) 8))
else
some ((false&&(geq f 0))&&(geq (Ac b) 8))
else
if false then
(Aq a).bind λdh=>
some (((geq (Ac dh) 36)&&(geq f 0))&&(geq (Ac b) 8))
else
some ((false&&(geq f 0))&&(geq (Ac b) 8))
def FK:Option Bool:=
some (((Dv (Ac c) 5000)&&(Cj (Ac c) 12000))||(Dv (Ac c) 12100))
def Pg:Option Bool:=
some (((Dv (Ac L) 60)&&(pP (Ac L) 200))||(Dv (Ac L) 210))
def cX:Option Int:=
some 0
def GO:=cX
def Jp:Option Int:=
if(Cj l9 (Ac L))then
(Ah L l9).bind λz=>
if((((Cj z.1 1)||(Dv z.1 3))||(Cj z.2.1 0))||(Dv z.2.1 100000))then
some 2
else
if((geq z.1 3)&&(Bi z.2.1 0))then
some 2
else
Aym (Ae l9 1)
else
p9
def Ee:Nat->Int->Option Int
|0,_=>none
|z+1,c=>Jp GO (Ee z) L c
def HL a:=Ee a Ar
def Of(j4:(List (UInt8×Int×Unit))->Int->Option Int)(a:List (UInt8×Int×Unit)):Option Int:=
if(Dv (Ac a) 200)then
some 4
else
j4 a 0
def Te:=Of HL
def Eu:Option Bool:=
(Pg L).bind λz=>
if(!z)then
(Te L).bind λc=>
some (geq c 0)
else
some false
def KZ:Option (LB×LB×Int×Int×Int×Int×Int×LI×Int×LB×Bool×Int×Int):=
if(Dv (Ac c) 64)then
some (([]:LB),([]:LB),0,0,0,0,0,([]:LI),0,([]:LB),false,0,2)
else
some (c,([]:LB),0,0,0,0,0,([]:LI),0,([]:LB),false,0,0)
def Hy:Option (LB):=
(
(Ck ([]:LB) c).bind λz=>
some z)
def Gf:Option (LI):=
(
(Ck ([]:LI) l).bind λz=>
some z)
def Dr:Option (LB×LB×Int×Int×Int×Int×Int×LI×Int×LB×Bool×Int):=
(Hy E).bind λj=>
(Hy i).bind λA=>
(Gf l).bind λF=>
some (c,j,z,d,e,B,D,F,G,A,C,t)
def Om:Option (LI):=
some l
def Jm:=Om
def Hg(j10:LI->Option (LI))(jh:Int->LI->Option (LI))(b:Int)(a:LI):Option (LI):=
if(Cj b (Ac a))then
(
(aK (Ac a) b (Ac a)).bind λ_=>
(aK (Ac a) 0 b).bind λ_=>
jh (Ae b (FG ((Ac a)-b) (KY a 0 (b-(0:Int))).length)) (Qr a b ((Ac a)-b) (KY a 0 (b-(0:Int)))))
else
j10 a
def Ey:Nat->Int->LI->Option (LI)
|0,_,_=>none
|q+1,b,a=>Hg Jm (Ey q) b a
def Zt:=Ey Ar
def Qe:Option (LI):=
(mkI (Ad Azd:Int) (0:Int)).bind λz=>
(Jd (geq (Ad Azd:Int) (Ad Azd:Int))).bind λ_=>
Azq (FG (Ac z) Azg.length) (hH z Azg)
def Zo:=Qe Zt
def Py(j7:LI->UInt64->Option (LI))(f:LI)(h:Int):Option (LI):=
(Zs (Ad (Ac f):UInt64) (Ad h:UInt64)).bind λ(m,g)=>
if((Dv m 0)||(Dv g 9223372036854775807))then
none
else
j7 f g
def Zv:=Py Zo
def Qc(j6:LI->Int->Option (LI))(f:LI)(h:Int):Option (LI):=
if(Cj h 0)then
none
else
j6 f h
def Oh:=Qc Zv
def SY:Option (LI):=
some l
def Yc:=SY
def Gs(j16:LI->Option (LI))(iN:Int->LI->Option (LI))(a:List LI)(g:Int)(f:LI):Option (LI):=
if(Cj g (Ac a))then
(Ah a g).bind λn=>
(Ck f n).bind λo=>
iN (Ae g 1) o
else
j16 f
def Em:Nat->Int->LI->Option (LI)
|0,_,_=>none
|z+1,c,d=>Gs Yc (Em z) Aze c d
def Ot a:=Em a Ar
def On(j14:(List LI)->Int->LI->Option (LI))(a:List LI)(p:LI):Option (LI):=
j14 a 0 p
def Ou:=On Ot
def Oo(j13:(List LI)->LI->Option (LI))(b:Int)(a:List LI):Option (LI):=
if(Dv (Al b (Al (0:Int) (0:Int))) 0)then
(aK 0 0 0).bind λ_=>
(mkI (Al b (Al (0:Int) (0:Int))) (0:Int)).bind λu=>
(Ck ([]:LI) u).bind λk=>
(aK (Ac k) 0 0).bind λ_=>
j13 a (KY k 0 ((0:Int)-(0:Int)))
else
j13 a ([]:LI)
def Xz:=Oo Ou
def Ox(j12:Int-> (List LI)->Option (LI))(a:List LI)(b:Int):Option (LI):=
if(Cj b 0)then
none
else
j12 b a
def Xw:=Ox Xz
def He(j11:(List LI)->Int->Option (LI))(bk9:Int->Int->Option (LI))(a:List LI)(b h:Int):Option (LI):=
if(Cj h (Ac a))then
(Ah a h).bind λm=>
if(Cj (Ae b (Ac m)) 0)then
none
else
bk9 (Ae b (Ac m)) (Ae h 1)
else
j11 a b
def Ew:Nat->Int->Int->Option (LI)
|0,_,_=>none
|z+1,c,d=>He Xw (Ew z) Aze c d
def Zj a:=Ew a Ar
def Qb(j9:(List LI)->Int->Int->Option (LI))(a:List LI):Option (LI):=
j9 a 0 0
def Nz:=Qb Zj
def RJ:Option (LI):=
(Nz ([l,p8]:List LI)).bind λz=>
some z
def TK:Option (LI×Int):=
(Zk z d).bind λ(c,e)=>
if(Bi e 0)then
some (([]:LI),e)
else
(Rt z).bind λ(i,j)=>
(Oh ([i]:LI) (Al c 1)).bind λl=>
(RJ l ([(Al d (Ce (Al c 1) i))]:LI)).bind λt=>
some (t,0)
def Dz:Option (LI×Int):=
(Rr z d e B D).bind λc=>
if(Bi c 0)then
some (([]:LI),c)
else
(TK B D).bind λ(i,j)=>
some (i,j)
def Nh(a f g h k:Int)(b:LB):Option Int:=
if((b==([]:LB)) !=(geq a 1))then
some 26
else
some 0
def bQ(y:Int)(o p:LB)(h b f k m:Int)(g:LI)(a:Int)(n:LB)(u:Bool)(v:Int):Option Bool:=
some (pP (Ac n) y)
def MW:=bQ
def Zy(j8:Int->LB->LB->Int->Int->Int->Int->Int->LI->Int->LB->Bool->Int->Option Bool)(I9:Int->Int->Option Bool)(w:LI)(o p:LB)(h b f k m:Int)(g:LI)(a:Int)(n:LB)(u:Bool)(v y aa:Int):Option Bool:=
if(Cj aa (Ac w))then
(Ah w aa).bind λac=>
I9 (Ae y (Cq (Ce (Ce ac b) f) 8)) (Ae aa 1)
else
j8 y o p h b f k m g a n u v
def Pb:Nat->Int->Int->Option Bool
|0,_,_=>none
|z+1,c,d=>Zy MW (Pb z) l i V J Ayo Ay5 Ay6 Ay7 p8 Ay2 Ayh Ayi Ayj c d
def cN w o p h b f k m g a n u v:=Pb w o p h b f k m g a n u v Ar
def MV(j6:LI->LB->LB->Int->Int->Int->Int->Int->LI->Int->LB->Bool->Int->Int->Int->Option Bool)(o p:LB)(h b f k m:Int)(g:LI)(a:Int)(n:LB)(u:Bool)(v:Int)(ab:LI):Option Bool:=
if(geq (Ac g) 0)then
some ((geq a 0)&&(geq (Ac n) 0))
else
(Pv g).bind λad=>
if((((Bi ad 0)||(Bi (Ac g) (Ac ab)))||(Cj a 0))||(Dv a (Ac ab)))then
some false
else
(Bk ab 0 a).bind λw=>
j6 w o p h b f k m g a n u v 0 0
def cL:=MV cN
def NB(j5:LB->LB->Int->Int->Int->Int->Int->LI->Int->LB->Bool->Int->LI->Option Bool)(o p:LB)(h b f k m:Int)(g:LI)(a:Int)(n:LB)(u:Bool)(v:Int):Option Bool:=
if((geq h 0)&&((geq b 0)&&((geq f 0)&&((geq k 0)&&((geq m 0)&&true)))))then
some (((geq (Ac g) 0)&&(geq a 0))&&(geq (Ac n) 0))
else
(Dz h b f k m).bind λ(ab,ae)=>
if(Bi ae 0)then
some false
else
(Nh h b f k m o).bind λaf=>
if(Bi af 0)then
some false
else
j5 o p h b f k m g a n u v ab
def Xe:=NB cL
def Ji:Option Bool:=
some (c==E)
def Lm:Option Bool:=
if(Kq (Ac c) (Ac E))then
(Bk c 0 (Ac E)).bind λz=>
(Ji z E).bind λd=>
some d
else
some false
abbrev Lp:=Option (Int×Int)
def sM:Lp:=
some (z,0)
def YG:=sM
def Xi(j6:Int->Lp)(Pa:Int->Int->Lp)(a:LB)(b f:Int):Lp:=
if(Cj f (Ac a))then
(Ah a f).bind λg=>
if(Dv g 127)then
some (0,12)
else
Pa (vL (Eg b (GI.toZ (7:UInt64)).toNat) (Ad g:Int)) (Ae f 1)
else
j6 b
def Mr:Nat->Int->Int->Lp
|0,_,_=>none
|z+1,d,e=>Xi YG (Mr z) c d e
def WU a:=Mr a Ar
def JA(j4:LB->Int->Int->Lp)(a:LB):Lp:=
if(Bi (Ac a) 4)then
some (0,2)
else
j4 a 0 0
def JI:=JA WU
abbrev Is:=Option (Int×Int)
def bZ:Is:=
if(Dv X 4000)then
some (0,4)
else
if(Cj (Ac c) X)then
some (0,24)
else
if(geq Ayn 16)then
(Bk c (Al X 10) X).bind λz=>
(Bk z 0 3).bind λd=>
if(d !=([51,68,73]:LB))then
some (0,12)
else
(Bk z 3 (Ac z)).bind λe=>
(Bk c 3 10).bind λi=>
(Ji e i).bind λj=>
if(!j)then
some (0,12)
else
some (X,0)
else
some (X,0)
def MN:=bZ
def cJ(j8:LB->UInt8->Int->Is)(a:LB)(g:Int)(b:UInt8):Is:=
if(geq b 16)then
j8 a b (Ae (Ae g 10) 10)
else
j8 a b (Ae g 10)
def NH:=cJ MN
def bO(j7:LB->Int->UInt8->Is)(a:LB)(g:Int)(b:UInt8)(m:Bool):Is:=
if m then
some (0,12)
else
j7 a g b
def MI:=bO NH
def NG(j6:LB->Int->UInt8->Bool->Is)(a:LB)(f b:UInt8):Is:=
(Bk a 6 10).bind λaa=>
(JI aa).bind λ(g,ab)=>
if(Bi ab 0)then
if true then
j6 a g b true
else
if(geq b 0)then
j6 a g b (!((Kq f 2)&&(pP f 4)))
else
if(geq b 16)then
j6 a g b (!(geq f 4))
else
j6 a g b (!false)
else
(Ah a 4).bind λac=>
if(Bi ac 0)then
j6 a g b true
else
if(geq b 0)then
j6 a g b (!((Kq f 2)&&(pP f 4)))
else
if(geq b 16)then
j6 a g b (!(geq f 4))
else
j6 a g b (!false)
def MQ:=NG MI
def AA(j5:LB->UInt8->UInt8->Is)(a:LB):Is:=
(Lm a ([(73:UInt8),(68:UInt8),(51:UInt8)]:LB)).bind λn=>
if(!n)then
some (0,6)
else
if(Cj (Ac a) 10)then
some (0,24)
else
(Ah a 3).bind λf=>
(Ah a 5).bind λb=>
(
(
(
j5 a f b)))
def OS:=AA MQ
abbrev BK:=Option (UInt64×Int)
def nk:BK:=
some (A,0)
def uZ:=nk
def UA(j6:UInt64->BK)(Pa:UInt64->Int->BK)(a:LB)(f:UInt64)(b:Int):BK:=
if(Cj b (Ac a))then
(Ah a b).bind λg=>
(Jd (Kq (Ce 8 b) 0)).bind λ_=>
Pa (vL f (Eg (Ad g:UInt64) (GI.toZ (Ce 8 b)).toNat)) (Ae b 1)
else
j6 f
def BT:Nat->UInt64->Int->BK
|0,_,_=>none
|z+1,d,e=>UA uZ (BT z) c d e
def vP a:=BT a Ar
def iJ(j4:LB->UInt64->Int->BK)(a:LB):BK:=
if((Cj (Ac a) 1)||(Dv (Ac a) 8))then
some (0,2)
else
j4 a 0 0
def fD:=iJ vP
def YA:Option (UInt64×Int):=
if(((Cj d 1)||(Dv d 8))||(Cj z 0))then
some (0,2)
else
if(Dv z (Al (Ac c) d))then
some (0,24)
else
(Bk c z (Ae z d)).bind λe=>
(fD e).bind λ(i,j)=>
some (i,j)
def E3:Option (LB):=
some c
def mR:=E3
def aD(j6:LB->Option (LB))(Pa:Int->LB->Option (LB))(a b:Int)(f:UInt64)(h:Int)(g:LB):Option (LB):=
if(Cj h (Ac ([(2000:UInt64),(Ad (Ae a 32):UInt64),(Ad b:UInt64),f,(0:UInt64),(0:UInt64)]:LQ)))then
(Ah ([(2000:UInt64),(Ad (Ae a 32):UInt64),(Ad b:UInt64),f,(0:UInt64),(0:UInt64)]:LQ) h).bind λ_=>
(Ah ([(2000:UInt64),(Ad (Ae a 32):UInt64),(Ad b:UInt64),f,(0:UInt64),(0:UInt64)]:LQ) h).bind λk=>
(Zd k 4).bind λ(m,o)=>
(Ck g m).bind λn=>
Pa (Ae h 1) n
else
j6 g
def BN:Nat->Int->LB->Option (LB)
|0,_,_=>none
|c+1,e,i=>aD mR (BN c) z d A e i
def yW a b f:=BN a b f Ar
def nF(j4:Int->Int->UInt64->Int->LB->Option (LB))(a b:Int)(f:UInt64):Option (LB):=
j4 a b f 0 ([(65:UInt8),(80:UInt8),(69:UInt8),(84:UInt8),(65:UInt8),(71:UInt8),(69:UInt8),(88:UInt8)]:LB)
def iT:=nF yW
def PQ:Option (Int×Int×Bool):=
(YA c 12 4).bind λ(z,d)=>
(YA c 16 4).bind λ(e,i)=>
if(((Cj z 32)||(Dv z 3032))||(Dv e 1000))then
some (0,0,false)
else
(iT (Al (Ad z:Int) 32) (Ad e:Int) A).bind λj=>
(Ji c j).bind λl=>
some ((Al (Ad z:Int) 32),(Ad e:Int),l)
def iW:Option (Int×Int):=
(Lm c ([(65:UInt8),(80:UInt8),(69:UInt8),(84:UInt8),(65:UInt8),(71:UInt8),(69:UInt8),(88:UInt8)]:LB)).bind λz=>
if(!z)then
some (0,6)
else
if(Cj (Ac c) 32)then
some (0,24)
else
(Bk c 0 32).bind λd=>
(PQ d 2684354560).bind λ(e,i,j)=>
if(!j)then
some (0,12)
else
if(Cj (Ac c) (Ae e 64))then
some (0,24)
else
(Bk c (Al (Ae e 64) 32) (Ae e 64)).bind λl=>
(iT e i 2147483648).bind λt=>
(Ji l t).bind λA=>
if(!A)then
some (0,12)
else
some ((Ae e 64),0)
def Wc:Option (Int×Int):=
(OS c).bind λ(z,d)=>
if(Bi d 6)then
some (z,d)
else
(iW c).bind λ(e,i)=>
some (e,i)
def Ts(b:List UInt8):Nat->Int->Option (Int×Int)
  |0,_=>none
  |q+1,x=>Option.bind (Bk b x (Ac b)) λs=>Option.bind (Wc s) λr=>
    if geq r.2 (6:Int)=true then some (x,0)
    else if(geq r.2 (0:Int)&&Dv (Ae x r.1) (4000:Int))=true then some (0,4)
    else if Bi r.2 (0:Int)=true then some (0,r.2)
    else Ts b q (Ae x r.1)
def Kz(b:List UInt8):Option (Int×Int):=Ts b Ar 0
def Aj:Option (Bool×Int):=
some (false,z)
def Gl:Option Bool:=
if(Kq (Ac c) (Ac E))then
(Bk c 0 (Ac E)).bind λz=>
some (z==E)
else
some false
def Ic:Option Bool:=
(Gl c E).bind λz=>
some z
def wF:Option Bool:=
some false
def bY:=wF
def Tj(j6:Option Bool)(Pa:Int->Option Bool)(a:LB)(b:Int):Option Bool:=
if(Cj b 2)then
(Ah ([([73,68,51]:LB),([65,80,69,84,65,71,69,88]:LB)]:List LB) b).bind λf=>
if(Cj (Ac a) (Ac f))then
(Ic f a).bind λg=>
if g then
some true
else
Pa (Ae b 1)
else
Pa (Ae b 1)
else
j6
def Je:Nat->Int->Option Bool
|0,_=>none
|z+1,d=>Tj bY (Je z) c d
def cB a:=Je a Ar
def MZ(j4:LB->Int->Option Bool)(a:LB):Option Bool:=
j4 a 0
def Pw:=MZ cB
abbrev Qf:=Option (Int×Int×Int×Int×Int×Int)
def gY:Qf:=
(Ah l 0).bind λ_=>
(Ah l 0).bind λz=>
(Ah l 1).bind λ_=>
(Ah l 1).bind λc=>
(Ah l 2).bind λ_=>
(Ah l 2).bind λd=>
(Ah l 3).bind λ_=>
(Ah l 3).bind λe=>
(Ah l 4).bind λ_=>
(Ah l 4).bind λi=>
(Px z c d e i).bind λj=>
if(!j)then
some (0,0,0,0,0,12)
else
(LR z c d e i).bind λt=>
if(!t)then
some (0,0,0,0,0,4)
else
some (z,c,d,e,i,0)
def DN:=gY
def DO(j6:LI->Qf)(Pa:Int->Int->LI->Qf)(b:LB)(g f:Int)(a:LI):Qf:=
if(Cj f 5)then
(Ah ([(2:Int),(2:Int),(2:Int),(4:Int),(4:Int)]:LI) f).bind λh=>
(YA b g h).bind λ(v,ae)=>
(Ah a f).bind λ_=>
(Mc a f (Ad v:Int)).bind λw=>
Pa (Ae g h) (Ae f 1) w
else
j6 a
def Mz:Nat->Int->Int->LI->Qf
|0,_,_,_=>none
|z+1,d,e,i=>DO DN (Mz z) c d e i
def QY b:=Mz b Ar
def RX(j4:LB->Int->Int->LI->Qf)(b:LB):Qf:=
(Bk b 0 (Dx 4 (Ac b))).bind λy=>
(Ic ([84,84,65,49]:LB) y).bind λaa=>
if(!aa)then
some (0,0,0,0,0,12)
else
if(Cj (Ac b) 22)then
some (0,0,0,0,0,24)
else
(YA b 18 4).bind λ(ab,af)=>
(Bk b 0 18).bind λac=>
(Xf ac).bind λ(ad,ag)=>
if(Bi (Ad ad:UInt64) ab)then
some (0,0,0,0,0,22)
else
j4 b 4 0 (List.replicate 5 (0:Int))
def Pk:=RX QY
def FR:Option (Bool×Int):=
(EV E).bind λ(z,d)=>
if((Bi d 0)||(Bi (Ac c) (Ac z)))then
some (false,2)
else
(Ji c z).bind λe=>
some (e,0)
abbrev Sn:=Option (LI×Int)
def lX:Sn:=
(Pv l).bind λz=>
if(Bi z 0)then
some (([]:LI),12)
else
some (l,0)
def JD:=lX
def JH(j6:LI->Sn)(Pa:Int->LI->Sn)(a:LB)(f:LI)(g:Int)(b:LI):Sn:=
if(Cj g (Ac f))then
(YA a (Ce 4 g) 4).bind λ(k,u)=>
(Ah b g).bind λ_=>
(Mc b g (Ad k:Int)).bind λm=>
Pa (Ae g 1) m
else
j6 b
def Tp:Nat->Int->LI->Sn
|0,_,_=>none
|z+1,d,e=>JH JD (Tp z) c l d e
def lE a f:=Tp a f Ar
def WI(j4:LB->LI->Int->LI->Sn)(a:LB)(h:Int):Sn:=
if((Cj h 1)||(Dv h 1000))then
some (([]:LI),2)
else
if(Cj (Ac a) (Ae (Ce 4 h) 4))then
some (([]:LI),24)
else
(YA a (Ce 4 h) 4).bind λ(n,v)=>
(Bk a 0 (Ce 4 h)).bind λo=>
(Xf o).bind λ(p,w)=>
if(Bi (Ad p:UInt64) n)then
some (([]:LI),22)
else
(mkI h (0:Int)).bind λf=>
(Jd (geq h h)).bind λ_=>
j4 a f 0 f
def RL:=WI lE
def Zg(f a b g h:Int):Option (Int×Int):=
some (a,b)
def EN:Option (LB×Int):=
if(Cj (Ac c) 5)then
some (([]:LB),24)
else
if(Dv (Ac c) 41254)then
some (([]:LB),4)
else
(Bk c 0 (Al (Ac c) 4)).bind λz=>
(Xf z).bind λ(d,e)=>
if(Bi e 0)then
some (([]:LB),e)
else
(Bk c (Al (Ac c) 4) (Ac c)).bind λi=>
(fD i).bind λ(j,l)=>
if((Bi l 0)||(Bi j (Ad d:UInt64)))then
some (([]:LB),22)
else
(Bk c 0 (Al (Ac c) 4)).bind λt=>
some (t,0)
def Z2:Option (LB×Int×Int):=
if(Dv (Ac c) 41250)then
some (([]:LB),0,4)
else
(Cw c).bind λz=>
some (z,(Ce 8 (Ac c)),0)
def Aap:Option UInt64:=
some A
def vO:=Aap
def gB(j6:UInt64->Option UInt64)(Pa:UInt64->Int->Option UInt64)(b f:Int)(h:LB)(k:Int)(g:UInt64)(a:Int):Option UInt64:=
if(Cj a f)then
(Ah h (Y5 (Ae b a) (GI.toZ (3:UInt64)).toNat)).bind λm=>
(Jd (Kq (Ex (Ae b a) 7) 0)).bind λ_=>
(Jd (Kq (Dx (Al f a) (Al 8 (Ex (Ae b a) 7))) 0)).bind λ_=>
(Jd (Kq a 0)).bind λ_=>
Pa (vL g (Eg (Ad (Ex (Cs m (GI.toZ (Ex (Ae b a) 7)).toNat) (Al (Eg (1:UInt8) (GI.toZ (Dx (Al f a) (Al 8 (Ex (Ae b a) 7)))).toNat) 1)):UInt64) (GI.toZ a).toNat)) (Ae a (Dx (Al f a) (Al 8 (Ex (Ae b a) 7))))
else
j6 g
def KN:Nat->UInt64->Int->Option UInt64
|0,_,_=>none
|c+1,e,j=>gB vO (KN c) z d i t e j
def rz b f h k:=KN b f h k Ar
def uJ(j4:Int->Int->LB->Int->UInt64->Int->Option UInt64)(h:LB)(k b f:Int):Option UInt64:=
j4 b f h k 0 0
def qM:=uJ rz
abbrev Fj:=Option (LB×Int×Int)
def qP:Fj:=
some (i,z,0)
def ZP:=qP
def pJ(bM:Int->Int->LB->Fj)(a:Int)(g:LB)(b f h:Int)(u:LB):Fj:=
bM (Ae f 64) h u
def OR bM:=pJ bM
def pL(J0:UInt64->Int->Int->LB->Fj)(a f:Int)(g:LB)(b:Int)(m n:UInt64)(k h:Int)(w:LB):Fj:=
(Jd (Kq (Dx k (Al 8 (Ex h 7))) 0)).bind λ_=>
J0 (Cs n (GI.toZ (Dx k (Al 8 (Ex h 7)))).toNat) (Al k (Dx k (Al 8 (Ex h 7)))) (Ae h (Dx k (Al 8 (Ex h 7)))) w
def pZ J0:=pL J0
def rE(j48:UInt64->Int->Int->LB->Fj)(a f:Int)(g:LB)(b:Int)(m n:UInt64)(k h:Int)(v:LB):Fj:=
(Ah v (Al (Ac v) 1)).bind λ_=>
(Jd (Kq (Dx k (Al 8 (Ex h 7))) 0)).bind λ_=>
(Jd (Kq (Ex h 7) 0)).bind λ_=>
(Ah v (Al (Ac v) 1)).bind λaa=>
(Ah v (Al (Ac v) 1)).bind λ_=>
Option.bind (Mc v (Al (Ac v) 1) (vL aa (Eg (Ad (Ex n (Al (Eg (1:UInt64) (GI.toZ (Dx k (Al 8 (Ex h 7)))).toNat) 1)):UInt8) (GI.toZ (Ex h 7)).toNat))) λw=>
j48 n k h w
def OY J0 a f g b m:=rE (pZ J0 a f g b m) a f g b m
def OX(j47:UInt64->Int->Int->LB->Fj)(j50:Int->Int->LB->Fj)(a:Int)(g:LB)(b f:Int)(m n:UInt64)(k h:Int)(u:LB):Fj:=
if(Dv k 0)then
if(geq (Ex h 7) 0)then
(Ck u ([(0:UInt8)]:LB)).bind λab=>
j47 n k h ab
else
j47 n k h u
else
j50 f h u
def Pm(bM:Int->Int->LB->Fj)(a:Int)(g:LB)(b f:Int)(m:UInt64):Nat->UInt64->Int->Int->LB->Fj
|0,_,_,_,_=>none
|q+1,n,k,h,u=>OX (OY (Pm bM a g b f m q) a f g b m) (OR bM a g b) a g b f m n k h u
def aW bM a g b f m:=Pm bM a g b f m Ar
def aR(j44:Int->UInt64->UInt64->Int->Int->LB->Fj)(j52:Int->LB->Fj)(a:Int)(g:LB)(b f o:Int)(p:LB):Fj:=
if(Cj f a)then
(qM g b f (Dx 64 (Al a f))).bind λm=>
j44 f m m (Dx 64 (Al a f)) o p
else
j52 o p
def Xd:Nat->Int->Int->LB->Fj
|0,_,_,_=>none
|c+1,d,e,j=>aR (aW (Xd c) z i t) ZP z i t d e j
def nT a g b:=Xd a g b Ar
def gG(j27:Int->LB->Int->Int->Int->LB->Fj)(g:LB)(b y a:Int):Fj:=
(Kk g b).bind λac=>
if(Bi ac 0)then
some (([]:LB),0,8)
else
if(((Cj y 0)||(Dv y a))||(Dv a b))then
some (([]:LB),0,2)
else
j27 a g b y 0 ([]:LB)
def fY:=gG nT
def FB:Option (UInt64×Int):=
(Kk c z).bind λi=>
if(Bi i 0)then
some (0,8)
else
if(((Cj e 0)||(Dv e 64))||(Cj d 0))then
some (0,2)
else
if(Dv d (Al z e))then
some (0,24)
else
(qM c z d e).bind λj=>
some (j,0)
def Gq:Option Int:=
if(geq A 0)then
some 64
else
(Ah ([(0:UInt8),(1:UInt8),(56:UInt8),(2:UInt8),(57:UInt8),(49:UInt8),(28:UInt8),(3:UInt8),(61:UInt8),(58:UInt8),(42:UInt8),(50:UInt8),(38:UInt8),(29:UInt8),(17:UInt8),(4:UInt8),(62:UInt8),(47:UInt8),(59:UInt8),(36:UInt8),(45:UInt8),(43:UInt8),(51:UInt8),(22:UInt8),(53:UInt8),(39:UInt8),(33:UInt8),(30:UInt8),(24:UInt8),(18:UInt8),(12:UInt8),(5:UInt8),(63:UInt8),(55:UInt8),(48:UInt8),(27:UInt8),(60:UInt8),(41:UInt8),(37:UInt8),(16:UInt8),(46:UInt8),(35:UInt8),(44:UInt8),(21:UInt8),(52:UInt8),(32:UInt8),(23:UInt8),(11:UInt8),(54:UInt8),(26:UInt8),(40:UInt8),(15:UInt8),(34:UInt8),(20:UInt8),(31:UInt8),(10:UInt8),(25:UInt8),(14:UInt8),(19:UInt8),(9:UInt8),(13:UInt8),(8:UInt8),(7:UInt8),(6:UInt8)]:LB) (GI.toZ (Cs (Ce (Ex A (oL A)) 285870213051353865) (GI.toZ (58:UInt64)).toNat))).bind λz=>
some (Ad z:Int)
abbrev Ii:=Option (Int×Int×Int)
def zL:Ii:=
some (0,0,24)
def zI:=zL
def K9(j10:Ii):Ii:=
j10
def K0:=K9 zI
def kX(j9:Ii)(f a:Int):Ii:=
if(geq f 48)then
some (f,(Ae 0 (Ae a f)),0)
else
j9
def lJ:=kX K0
def lD(j8:Int->Int->Ii)(f b a:Int):Ii:=
if(Cj f (Dx 48 (Al b a)))then
some (f,(Ae (Ae (0:Int) (1:Int)) (Ae a f)),0)
else
j8 f a
def lP:=lD lJ
def lN(j7:Int->Int->Int->Ii)(h:Int)(k:UInt64)(a:Int)(g:LB)(b:Int):Ii:=
if(Bi h 0)then
some (0,0,h)
else
(Gq (D3 k)).bind λf=>
j7 f b a
def VO:=lN lP
def Zr(j6:Int->UInt64->Int->LB->Int->Ii)(g:LB)(b a:Int):Ii:=
(Kk g b).bind λm=>
if(Bi m 0)then
some (0,0,m)
else
if(Cj a 0)then
some (0,0,2)
else
if(Kq a b)then
some (0,0,24)
else
(
(
(FB g b a (Dx 48 (Al b a))).bind λ(k,h)=>
j6 h k a g b))
def IV:=Zr VO
abbrev gK:=Option (UInt32×Int×Int)
def aG:gK:=
(FB i t d J).bind λ(c,j)=>
if(Bi j 0)then
some (0,0,j)
else
if(Cj e 48)then
(Jd (Kq z 0)).bind λ_=>
some ((vL (Eg (Ad e:UInt32) (GI.toZ z).toNat) (Ad c:UInt32)),(Ae d J),0)
else
(PF (Ad c:UInt32) z).bind λl=>
if(!l)then
some (0,0,12)
else
some ((Ad c:UInt32),(Ae d J),0)
def aZ:=aG
def pX(j2:Int->Int->Int->LB->Int->Int->gK)(g:LB)(h v a:Int):gK:=
(Kk g h).bind λo=>
if(Bi o 0)then
some (0,0,o)
else
if((Cj a 0)||(Dv a 24))then
some (0,0,2)
else
(IV g h v).bind λ(f,b,p)=>
if(Bi p 0)then
some (0,0,p)
else
if(geq f 48)then
j2 a b f g h 32
else
j2 a b f g h a
def jC:=pX aZ
abbrev Lb:=Option (UInt32×Int×Int×Int×UInt64×UInt64×Int)
def kQ:Lb:=
some (N,U,Azb,Y,(Ae Ayx (Al (Ad N:UInt64) (Cs Ayx (GI.toZ (4:UInt64)).toNat))),Ayz,0)
def lB:=kQ
def qK(j10:UInt32->Int->Int->Int->UInt64->UInt64->Lb)(f:UInt32)(k m:Int)(b n:UInt64)(w:Int):Lb:=
j10 f k w m b n
def nY:=qK lB
def rB(j9:UInt32->Int->Int->UInt64->UInt64->Int->Lb)(f:UInt32)(k a:Int)(b:UInt64)(m:Int)(n:UInt64):Lb:=
if(Dv a 0)then
(Jd (Kq a 0)).bind λ_=>
if(Cj (Ae b (Al (Ad f:UInt64) (Cs b (GI.toZ (4:UInt64)).toNat))) (Eg (16:UInt64) (GI.toZ a).toNat))then
j9 f k m b n (Al a 1)
else
if(Cj a 24)then
(Jd (Kq a 0)).bind λ_=>
if(Dv (Ae b (Al (Ad f:UInt64) (Cs b (GI.toZ (4:UInt64)).toNat))) (Eg (32:UInt64) (GI.toZ a).toNat))then
j9 f k m b n (Ae a 1)
else
j9 f k m b n a
else
j9 f k m b n a
else
if(Cj a 24)then
(Jd (Kq a 0)).bind λ_=>
if(Dv (Ae b (Al (Ad f:UInt64) (Cs b (GI.toZ (4:UInt64)).toNat))) (Eg (32:UInt64) (GI.toZ a).toNat))then
j9 f k m b n (Ae a 1)
else
j9 f k m b n a
else
j9 f k m b n a
def FY:=rB nY
def ZQ(j8:UInt32->Int->Int->UInt64->Int->UInt64->Lb)(a h:Int)(b g:UInt64)(f:UInt32)(k:Int):Lb:=
(IY a h b g f).bind λ(ad,o)=>
if(geq ad 1)then
if(Dv h 0)then
(Jd (Kq h 0)).bind λ_=>
if(Cj (Ae g (Al (Ad o:UInt64) (Cs g (GI.toZ (4:UInt64)).toNat))) (Eg (16:UInt64) (GI.toZ h).toNat))then
j8 f k a b (Al h 1) (Ae g (Al (Ad o:UInt64) (Cs g (GI.toZ (4:UInt64)).toNat)))
else
if(Cj h 24)then
(Jd (Kq h 0)).bind λ_=>
if(Dv (Ae g (Al (Ad o:UInt64) (Cs g (GI.toZ (4:UInt64)).toNat))) (Eg (32:UInt64) (GI.toZ h).toNat))then
j8 f k a b (Ae h 1) (Ae g (Al (Ad o:UInt64) (Cs g (GI.toZ (4:UInt64)).toNat)))
else
j8 f k a b h (Ae g (Al (Ad o:UInt64) (Cs g (GI.toZ (4:UInt64)).toNat)))
else
j8 f k a b h (Ae g (Al (Ad o:UInt64) (Cs g (GI.toZ (4:UInt64)).toNat)))
else
if(Cj h 24)then
(Jd (Kq h 0)).bind λ_=>
if(Dv (Ae g (Al (Ad o:UInt64) (Cs g (GI.toZ (4:UInt64)).toNat))) (Eg (32:UInt64) (GI.toZ h).toNat))then
j8 f k a b (Ae h 1) (Ae g (Al (Ad o:UInt64) (Cs g (GI.toZ (4:UInt64)).toNat)))
else
j8 f k a b h (Ae g (Al (Ad o:UInt64) (Cs g (GI.toZ (4:UInt64)).toNat)))
else
j8 f k a b h (Ae g (Al (Ad o:UInt64) (Cs g (GI.toZ (4:UInt64)).toNat)))
else
j8 f k a b h g
def ZU:=ZQ FY
def ZX(j7:Int->Int->UInt64->UInt64->UInt32->Int->Lb)(p:Int)(u:LB)(v a h:Int)(b g:UInt64):Lb:=
(FB u v p 1).bind λ(ae,aa)=>
if(Bi aa 0)then
some (0,0,0,0,0,0,aa)
else
if(geq ae 0)then
(FB u v (Ae p 1) a).bind λ(af,ab)=>
if(Bi ab 0)then
some (0,0,0,0,0,0,ab)
else
j7 a h b g (Ad af:UInt32) (Ae (Ae p 1) a)
else
(jC u v (Ae p 1) h).bind λ(y,ag,ac)=>
if(Bi ac 0)then
some (0,0,0,0,0,0,ac)
else
(Jd (Kq a 0)).bind λ_=>
if(Cj (Ae y (Eg (1:UInt32) (GI.toZ a).toNat)) y)then
some (0,0,0,0,0,0,12)
else
j7 a h b g (Ae y (Eg (1:UInt32) (GI.toZ a).toNat)) ag
def rC:=ZX ZU
def bI(j6:Int->LB->Int->Int->Int->UInt64->UInt64->Lb)(u:LB)(v p a h:Int)(b g:UInt64):Lb:=
(Kk u v).bind λah=>
if(Bi ah 0)then
some (0,0,0,0,0,0,8)
else
(RZ a h b g).bind λai=>
if(Bi ai 0)then
some (0,0,0,0,0,0,8)
else
j6 p u v a h b g
def IK:=bI rC
abbrev Ca:=Option (LU×Int×Int)
def mV:Ca:=
some (T,z,0)
def SA:=mV
def RY(Hj:Int->Int-> (List (Int×Int×UInt64×UInt64×Unit))->LU->Ca)(a f:Int)(g:LB)(b k v:Int)(w:UInt32)(h:Int)(ah:List (Int×Int×UInt64×UInt64×Unit))(n:LU):Ca:=
(Ck n ([w]:LU)).bind λak=>
Hj (Ae k v) (Ae h 1) ah ak
def QH Hj:=RY Hj
def AN(j22:Int->Int->UInt32->Int-> (List (Int×Int×UInt64×UInt64×Unit))->LU->Ca)(a f:Int)(g:LB)(b k h y:Int)(w:UInt32)(v:Int)(m:List (Int×Int×UInt64×UInt64×Unit))(n:LU)(aa ab:Int)(ac ad:UInt64):Ca:=
if(Bi y 0)then
some (([]:LU),0,y)
else
(Jd (Bi a 0)).bind λ_=>
(Ah m (Hk h a)).bind λ_=>
(Mc m (Hk h a) (aa,ab,ac,ad,())).bind λah=>
j22 k v w h ah n
def Sg Hj a f g b:=AN (QH Hj a f g b) a f g b
def Tc(j21:Int->Int->Int->UInt32->Int-> (List (Int×Int×UInt64×UInt64×Unit))->LU->Int->Int->UInt64->UInt64->Ca)(j24:Int->LU->Ca)(a f:Int)(g:LB)(b k h:Int)(m:List (Int×Int×UInt64×UInt64×Unit))(n:LU):Ca:=
if(Cj h (Ce f a))then
(fY g b k (Dx (Ae k 81) b)).bind λ(ag,ae,af)=>
if(Bi af 0)then
some (([]:LU),0,af)
else
(Jd (Bi a 0)).bind λ_=>
(Ah m (Hk h a)).bind λ_=>
(
(
(Ah m (Hk h a)).bind λo=>
(
(IK ag ae 0 o.1 o.2.1 o.2.2.1 o.2.2.2.1).bind λ(w,v,aa,ab,ac,ad,y)=>
j21 k h y w v m n aa ab ac ad)))
else
j24 k n
def My:Nat->Int->Int-> (List (Int×Int×UInt64×UInt64×Unit))->LU->Ca
|0,_,_,_,_=>none
|c+1,e,j,l,A=>Tc (Sg (My c) z d i t) SA z d i t e j l A
def SN a f g b:=My a f g b Ar
def QB(j16:Int->Int->LB->Int->Int->Int-> (List (Int×Int×UInt64×UInt64×Unit))->LU->Ca)(a f:Int)(g:LB)(b:Int)(p:List (Int×Int×UInt64×UInt64×Unit)):Ca:=
j16 a f g b 0 0 p ([]:LU)
def PY:=QB SN
def QJ(j15:Int->Int->LB->Int-> (List (Int×Int×UInt64×UInt64×Unit))->Ca)(Al9:Int-> (List (Int×Int×UInt64×UInt64×Unit))->Ca)(a f:Int)(g:LB)(b u:Int)(p:List (Int×Int×UInt64×UInt64×Unit)):Ca:=
if(Cj u 6)then
(nR).bind λ(al,ae,af,am)=>
(Ah p u).bind λ_=>
(Mc p u (al,ae,af,am,())).bind λan=>
Al9 (Ae u 1) an
else
j15 a f g b p
def AL:Nat->Int-> (List (Int×Int×UInt64×UInt64×Unit))->Ca
|0,_,_=>none
|c+1,e,j=>QJ PY (AL c) z d i t e j
def BJ a f g b:=AL a f g b Ar
def EJ(j13:Int->Int->LB->Int->Int-> (List (Int×Int×UInt64×UInt64×Unit))->Ca)(a f:Int)(g:LB)(b:Int):Ca:=
j13 a f g b 0 (List.replicate 6 ((0:Int),(0:Int),(0:UInt64),(0:UInt64),()))
def EK:=EJ BJ
def Xq:Option Int32:=
some (Yw (Ad (Cs N (GI.toZ (1:UInt64)).toNat):Int32) (oL (Ad (Ex N 1):Int32)))
def iA:Option (Int32×Int×LX×LX×Int):=
(RN z j O).bind λ(c,d)=>
if(Bi d 0)then
some (0,0,(List.replicate 16 (0:Int32)),(List.replicate 16 (0:Int32)),d)
else
(ZI z j O (Ae F c) F).bind λ(e,i,l)=>
some ((Ae F c),e,i,l,0)
def Lo:Option (Int32×Int×Int32×Int×LX×LX×Int):=
(Wd z F I Z l5).bind λc=>
if(Bi c 0)then
some (0,0,0,0,(List.replicate 16 (0:Int32)),(List.replicate 16 (0:Int32)),c)
else
(Wg z F).bind λ(d,e)=>
(iA I Z l5 Ayw).bind λ(i,j,l,t,A)=>
(
some ((Ae i d),z,(Ae i d),j,l,t,A))
abbrev Gw:=Option (LX×Int)
def V8:Gw:=
some (j,0)
def oT:=V8
def pS(WJ:Int->LX->Gw)(b a:Int)(h:LX):Gw:=
WJ (Ae a b) h
def aL WJ:=pS WJ
def OU(j20:Int->LX->Gw)(L8:Int->LX->Gw)(b a g:Int)(h:LX):Gw:=
if(Kq g 0)then
(Jd (decide (0<= (Ae g 1)/\ (Ae g 1)<((Ae a b)-a)))).bind λ_=>
(Jd (decide (0<=g/\g<((Ae a b)-a)))).bind λ_=>
(Ah h (a+(Ae g 1))).bind λn=>
(Ah h (a+g)).bind λo=>
(Jd (decide (0<=g/\g<((Ae a b)-a)))).bind λ_=>
(Mc h (a+g) (Al n o)).bind λp=>
L8 (Al g 1) p
else
j20 a h
def Xn(WJ:Int->LX->Gw)(b a:Int):Nat->Int->LX->Gw
|0,_,_=>none
|q+1,g,h=>OU (aL WJ b) (Xn WJ b a q) b a g h
def ZO WJ b a:=Xn WJ b a Ar
def ZE(j18:Int->Int->LX->Gw)(b a:Int)(u:LX):Gw:=
j18 a (Al (Al ((Ae a b)-a) 1) 1) u
def aS WJ b:=ZE (ZO WJ b) b
def ZK(j17:Int->LX->Gw)(j22:LX->Gw)(b a:Int)(f:LX):Gw:=
if(Cj a (Ac f))then
(aK (Ac f) a (Ae a b)).bind λ_=>
if(Dv (Al ((Ae a b)-a) 1) 0)then
(Jd (decide (0<= (Al ((Ae a b)-a) 1)/\ (Al ((Ae a b)-a) 1)<((Ae a b)-a)))).bind λ_=>
Option.bind (Jd (decide (0<= (Al (Al ((Ae a b)-a) 1) 1)/\ (Al (Al ((Ae a b)-a) 1) 1)<((Ae a b)-a)))) λ_=>
(Ah f (a+(Al ((Ae a b)-a) 1))).bind λv=>
(Ah f (a+(Al (Al ((Ae a b)-a) 1) 1))).bind λw=>
(Jd (decide (0<= (Al ((Ae a b)-a) 1)/\ (Al ((Ae a b)-a) 1)<((Ae a b)-a)))).bind λ_=>
(Mc f (a+(Al ((Ae a b)-a) 1)) (Ae v (Cq w 2))).bind λy=>
j17 a y
else
j17 a f
else
j22 f
def Sm:Nat->Int->LX->Gw
|0,_,_=>none
|c+1,d,e=>ZK (aS (Sm c) z) oT z d e
def pY b:=Sm b Ar
def iG(j12:Int->Int->LX->Gw)(b:Int)(k:LX):Gw:=
(XY b k).bind λm=>
if(Bi m 0)then
some (([]:LX),m)
else
(Dy k).bind λaa=>
j12 b 0 aa
def pF:=iG pY
abbrev Cl:=Option (LX×Int)
def NP:Cl:=
(pF z j).bind λ(c,e)=>
if(Bi e 0)then
some (([]:LX),e)
else
(Wf d c).bind λi=>
if(Bi i 0)then
some (([]:LX),i)
else
some (c,0)
def Lu:=NP
def OB(Al9:Int-> (List (Int×Int32×(Int×LX×LX×Unit)×Unit))->LX->Cl)(a:Int)(f:LU)(b g:Int)(y:Int32)(v:Int)(h:List (Int×Int32×(Int×LX×LX×Unit)×Unit))(k:LX)(aa:Int)(w:Int32)(ab:Int)(ac ad:LX):Cl:=
if(Bi v 0)then
some (([]:LX),v)
else
(Mc h (Hk g a) (aa,w,(ab,ac,ad,()),())).bind λai=>
(Ck k ([y]:LX)).bind λaj=>
Al9 (Ae g 1) ai aj
def Yo Al9:=OB Al9
def Lt(j16:Int->Int32->Int-> (List (Int×Int32×(Int×LX×LX×Unit)×Unit))->LX->Int->Int32->Int->LX->LX->Cl)(j18:Int->Int->LX->Cl)(f:LU)(a b g:Int)(h:List (Int×Int32×(Int×LX×LX×Unit)×Unit))(k:LX):Cl:=
if(Cj g (Ac f))then
(Ah f g).bind λag=>
(Jd (Bi a 0)).bind λ_=>
(Ah h (Hk g a)).bind λ_=>
(
(Ah h (Hk g a)).bind λm=>
(
(Xq ag).bind λae=>
(
(Lo m.1 m.2.1 m.2.2.1.1 m.2.2.1.2.1 m.2.2.1.2.2.1 ae).bind λ(y,aa,w,ab,ac,ad,v)=>
j16 g y v h k aa w ab ac ad)))
else
j18 a b k
def Ja:Nat->Int-> (List (Int×Int32×(Int×LX×LX×Unit)×Unit))->LX->Cl
|0,_,_,_=>none
|z+1,c,d,e=>Lt (Yo (Ja z) l9 T Ayg) Lu T l9 Ayg c d e
def OQ f a b:=Ja f a b Ar
def OI(j13:LU->Int->Int->Int-> (List (Int×Int32×(Int×LX×LX×Unit)×Unit))->LX->Cl)(f:LU)(a b:Int)(n:List (Int×Int32×(Int×LX×LX×Unit)×Unit)):Cl:=
j13 f a b 0 n ([]:LX)
def OP:=OI OQ
def OM(j12:LU->Int->Int-> (List (Int×Int32×(Int×LX×LX×Unit)×Unit))->Cl)(Adc:Int-> (List (Int×Int32×(Int×LX×LX×Unit)×Unit))->Cl)(f:LU)(a b:Int)(o:LX)(p:Int)(n:List (Int×Int32×(Int×LX×LX×Unit)×Unit)):Cl:=
if(Cj p 6)then
(tY b o).bind λ(ak,af,ae,al,am,w)=>
(Ah n p).bind λ_=>
(Mc n p (ak,af,(ae,al,am,()),())).bind λan=>
Adc (Ae p 1) an
else
j12 f a b n
def Yy:Nat->Int-> (List (Int×Int32×(Int×LX×LX×Unit)×Unit))->Cl
|0,_,_=>none
|z+1,c,d=>OM OP (Yy z) T l9 Ayg Ay4 c d
def Yt f a b o:=Yy f a b o Ar
def BH(j10:LU->Int->Int->LX->Int-> (List (Int×Int32×(Int×LX×LX×Unit)×Unit))->Cl)(a b:Int)(o:LX)(f:LU):Cl:=
j10 f a b o 0 (List.replicate 6 ((0:Int),(0:Int32),((0:Int),(List.replicate 16 (0:Int32)),(List.replicate 16 (0:Int32)),()),()))
def Tk:=BH Yt
def Qq:Option (LX×Int):=
(Tt z d).bind λc=>
if(Bi c 0)then
some (([]:LX),c)
else
if(Cj M 1)then
some (([]:LX),2)
else
(Jd (Bi z 0)).bind λ_=>
if(Dv M (Cq 4000 z))then
some (([]:LX),2)
else
(EN w9).bind λ(e,i)=>
if(Bi i 0)then
some (([]:LX),i)
else
(Z2 e).bind λ(l,t,A)=>
if(Bi A 0)then
some (([]:LX),A)
else
(EK z M l t).bind λ(B,C,D)=>
if(Bi D 0)then
some (([]:LX),D)
else
if(Kq (Al t C) 8)then
some (([]:LX),12)
else
(FB l t C (Al t C)).bind λ(E,F)=>
if((Bi F 0)||(Bi E 0))then
some (([]:LX),12)
else
(Tk z d j B).bind λ(G,I)=>
some (G,I)
abbrev Ds:=Option (LB×Int)
def wC:Ds:=
some (c,0)
def cR:=wC
def cM(Hj:Int->LB->Ds)(b:Int)(a:LX)(f:Int)(h:LB):Ds:=
Hj (Ae f 1) h
def MR Hj:=cM Hj
def Zz(j28:Int->LB->Ds)(Ade:Int->LB->Ds)(b:Int)(a:LX)(k:Int32)(f m:Int)(h:LB):Ds:=
if(Cj m (Cq b 8))then
(Jd (Kq (Ce 8 m) 0)).bind λ_=>
(Ck h ([(Ad (Cs k (GI.toZ (Ce 8 m)).toNat):UInt8)]:LB)).bind λp=>
Ade (Ae m 1) p
else
j28 f h
def Jh(Hj:Int->LB->Ds)(b:Int)(a:LX)(k:Int32)(f:Int):Nat->Int->LB->Ds
|0,_,_=>none
|q+1,m,h=>Zz (MR Hj b a) (Jh Hj b a k f q) b a k f m h
def NJ Hj b a k f:=Jh Hj b a k f Ar
def MH(j26:Int32->Int->Int->LB->Ds)(b:Int)(a:LX)(f:Int)(g:LB)(k:Int32):Ds:=
j26 k f 0 g
def Pd Hj b a:=MH (NJ Hj b a) b a
def AE(j25:Int->LB->Int32->Ds)(j30:LB->Ds)(b:Int)(a:LX)(f:Int)(g:LB):Ds:=
if(Cj f (Ac a))then
(Ah a f).bind λn=>
if(geq b 8)then
j25 f g (Ae n 128)
else
j25 f g n
else
j30 g
def Gi:Nat->Int->LB->Ds
|0,_,_=>none
|c+1,d,e=>AE (Pd (Gi c) z j) cR z j d e
def wL b a:=Gi b a Ar
def RT(j16:Int->LX->Int->LB->Ds)(b:Int)(a:LX):Ds:=
(Wf b a).bind λo=>
if(Bi o 0)then
some (([]:LB),o)
else
j16 b a 0 ([]:LB)
def Rq:=RT wL
def Zq:Option Int:=
some (-1:Int)
def Mn:=Zq
def Ej:Option Int:=
if(Cj l7 (Ac Ayr))then
(Ah Ayr l7).bind λz=>
if(geq o7 z)then
some l7
else
Aym (Ae l7 1)
else
p9
def Bw:Nat->Int->Option Int
|0,_=>none
|z+1,c=>Ej Mn (Bw z) l G c
def Mp a b:=Bw a b Ar
def Hh(j4:LI->Int->Int->Option Int)(a:LI)(b:Int):Option Int:=
j4 a b 0
def Ij:=Hh Mp
def Hc:Option Bool:=
(Ij l G).bind λz=>
some (Kq z 0)
def Qa:Option Bool:=
(Hc ([(4:Int),(12:Int),(16:Int),(22:Int),(24:Int),(26:Int),(38:Int)]:LI) z).bind λc=>
some c
def UY:Option Int:=
if(!C)then
some 8
else
some 0
def Bm:=UY
def UJ:Option Int:=
q8 ((true==true)&&((geq (0:Int) (0:Int))&&true))
def Vf:=UJ Bm
def SZ:Option Int:=
q8 ((Ayt==true)&&((geq Ay1 0)&&true))
def Eh:=SZ Bm
def VB(j13:Bool->Int->Option Int)(g ax:LB)(ay az ab ba af b:Int)(n:Bool)(o:Int)(f:LI)(k:LB):Option Int:=
(Nh ay az ab ba af g).bind λdi=>
(Aj di).bind λ(dj,ai)=>
j13 dj ai
def Uv:=VB Eh
def TR:Option Int:=
q8 ((Ayt==true)&&((geq Ay1 0)&&true))
def Ik:=TR Bm
def TG(j25:Bool->Int->Option Int)(g a:LB)(h p m u v b:Int)(n:Bool)(o:Int)(f:LI)(k:LB)(de:Int):Option Int:=
(Dz h p m u v).bind λ(dm,be)=>
if(Bi be 0)then
(Aj be).bind λ(aj,bg)=>
j25 aj bg
else
(Bk a de (Ac a)).bind λdn=>
(RL dn (Ac dm)).bind λ(dp,ab)=>
if(geq ab 24)then
j25 true 0
else
if(Bi ab 0)then
(Aj ab).bind λ(dq,af)=>
j25 dq af
else
(Bk a (Ae (Ae de (Ce 4 (Ac dp))) 4) (Ac a)).bind λfc=>
j25 false 0
def Iy:=TG Ik
def TL(j25:Bool->Int->Option Int)(j24:LB->LB->Int->Int->Int->Int->Int->Int->Bool->Int->LI->LB->Int->Option Int)(bh:Bool)(bf:Int)(g a:LB)(h p m u v b:Int)(n:Bool)(o:Int)(f:LI)(k:LB):Option Int:=
if(Bi bf 0)then
(Aj bf).bind λ(dr,be)=>
j25 dr be
else
if(!bh)then
(Aj 26).bind λ(aj,bg)=>
j25 aj bg
else
j24 g a h p m u v b n o f k 8
def UO:=TL Ik Iy
def UU(j15:Bool->Int->LB->LB->Int->Int->Int->Int->Int->Int->Bool->Int->LI->LB->Option Int)(g a:LB)(h p m u v b:Int)(n:Bool)(o:Int)(f:LI)(k:LB):Option Int:=
(Bk a 0 8).bind λds=>
(FR ds g).bind λ(bh,bf)=>
j15 bh bf g a h p m u v b n o f k
def Ut:=UU UO
def TF:Option Int:=
q8 ((Ayt==true)&&((geq Ay1 0)&&true))
def Fm:=TF Bm
def Vk(j28:Bool->Int->Option Int)(y ac:Int)(g a:LB)(h p m u v b:Int)(n:Bool)(o:Int)(ak:LX)(f:LI)(k:LB):Option Int:=
if(Bi ac 0)then
(Aj ac).bind λ(bi,bj)=>
j28 bi bj
else
(Rq m ak).bind λ(bk,bb)=>
if(Bi bb 0)then
(Aj bb).bind λ(bl,bm)=>
j28 bl bm
else
(Ck k bk).bind λdv=>
(
(Bk a y (Ac a)).bind λdw=>
j28 false 0)
def GJ:=Vk Fm
def EP(j27:Int->Int->LB->LB->Int->Int->Int->Int->Int->Int->Bool->Int->LX->LI->LB->Option Int)(y:Int)(g a:LB)(h p m u v b:Int)(n:Bool)(o:Int)(bc:LX)(ag f:LI)(k:LB):Option Int:=
(Ah ag b).bind λ_=>
(Bk a 0 y).bind λdx=>
(Ah ag b).bind λdy=>
(Zg h p m u v).bind λ(dz,bd)=>
(Qq dz bd bc dy dx).bind λ(ak,ac)=>
j27 y ac g a h p m u v b n o ak f k
def DG:=EP GJ
def Xm(j13:Bool->Int->Option Int)(j12:LB->LB->Int->Int->Int->Int->Int->Int->Bool->Int->LI->LB->Option Int)(j25:Bool->Int->Option Int)(j23:LB->LB->Int->Int->Int->Int->Int->Int->Bool->Int->LI->LB->Option Int)(j24:LB->LB->Int->Int->Int->Int->Int->Int->Bool->Int->LI->LB->Int->Option Int)(j28:Bool->Int->Option Int)(j26:Int->LB->LB->Int->Int->Int->Int->Int->Int->Bool->Int->LX->LI->LI->LB->Option Int)(j22:Bool->Option Int)(j21:Option Int)(al am:LB)(an ao ap aq ar:Int)(au:LI)(ad:Int)(ae:LB)(aa:Bool)(w:Int):Option Int:=
if(Dv (Ac al) 64)then
some 8
else
if((geq w 0)&&(!aa))then
(Dr al am an ao ap aq ar au ad ae aa w).bind λ(g,a,h,p,m,u,v,f,b,k,n,o)=>
(Xe al am an ao ap aq ar au ad ae aa w).bind λbn=>
if bn then
if(geq h 0)then
(Kz a).bind λ(ah,av)=>
if(geq av 24)then
j13 true 0
else
if(Bi av 0)then
(Aj av).bind λ(bp,bq)=>
j13 bp bq
else
(Bk a ah (Ac a)).bind λbr=>
(Pw br).bind λaj=>
if aj then
j13 true 0
else
(Bk a ah (Ac a)).bind λbs=>
(Pk bs).bind λ(ay,az,ab,ba,af,aw)=>
if(geq aw 24)then
j13 true 0
else
if(Bi aw 0)then
(Aj aw).bind λ(bt,bu)=>
j13 bt bu
else
(
(Bk a (Ae ah 22) (Ac a)).bind λax=>
(
j12 g ax ay az ab ba af b n o f k))
else
if(geq (Ac f) 0)then
if(geq h 2)then
if(Cj (Ac a) 8)then
j25 true 0
else
j23 g a h p m u v b n o f k
else
j24 g a h p m u v b n o f k 0
else
if(Cj b (Ac f))then
(Ah f b).bind λ_=>
(Ah f b).bind λy=>
if(Cj (Ac a) y)then
j28 true 0
else
(Tv g).bind λ(bc,ai)=>
if(Bi ai 0)then
(Aj ai).bind λ(bv,bw)=>
j28 bv bw
else
(Dz h p m u v).bind λ(ag,bx)=>
if((Bi bx 0)||(Kq b (Ac ag)))then
(Aj 8).bind λ(bz,da)=>
j28 bz da
else
j26 y g a h p m u v b n o bc ag f k
else
if(Dv (Ac a) 4000)then
(Aj 38).bind λ(db,bd)=>
j22 ((db==true)&&((geq bd 0)&&true))
else
j21
else
j22 false
else
if((geq (Ac am) 0)&&(geq (Ac au) 0))then
if((((geq an 0)&&((geq ao 0)&&((geq ap 0)&&((geq aq 0)&&((geq ar 0)&&true)))))&&(geq ad 0))&&(pP (Ac ae) 12000))then
if(geq w 0)then
j22 true
else
if(!aa)then
(Qa w).bind λdc=>
j22 dc
else
j22 false
else
j22 false
else
if((false&&(geq ad 0))&&(pP (Ac ae) 12000))then
if(geq w 0)then
j22 true
else
if(!aa)then
(Qa w).bind λdd=>
j22 dd
else
j22 false
else
j22 false
def Hi:=Xm Eh Uv Ik Ut Iy Fm DG Bm Vf
def Qg:Option (LB×LB×Int×Int×Int×Int×Int×LI×Int×LB×Bool×Int×Int):=
(Hi c E z d e B D l G i C t).bind λj=>
if(Bi j 0)then
some (([]:LB),([]:LB),0,0,0,0,0,([]:LI),0,([]:LB),false,0,j)
else
if(Bi t 0)then
(
(
(Dr c E z d e B D l G i C t).bind λ(A,F,I,J,L,M,N,O,P,R,T,U)=>
(
some (A,F,I,J,L,M,N,O,P,R,T,U,t))))
else
if C then
(Dr c E z d e B D l G i C t).bind λ(V,X,Y,Z,l5,l6,l7,l9,o7,o8,o9,p8)=>
some (V,X,Y,Z,l5,l6,l7,l9,o7,o8,o9,p8,36)
else
(Dr c E z d e B D l G i C t).bind λ(p9,q8,q9,r9,w9,Ayf,Ayg,Ayh,Ayi,Ayj,Ayk,Ayl)=>
some (p9,q8,q9,r9,w9,Ayf,Ayg,Ayh,Ayi,Ayj,Ayk,Ayl,0)
def bD(b g:LB)(h k m n o:Int)(p:LI)(u:Int)(f:LB)(v:Bool)(w a:Int):Option (LB×LB×Int×Int×Int×Int×Int×LI×Int×LB×Bool×Int×Int):=
some (b,([]:LB),0,0,0,0,0,([]:LI),0,f,false,a,a)
abbrev Ap:=Option (LB×LB×Int×Int×Int×Int×Int×LI×Int×LB×Bool×Int×Int)
def HT(PK:LB->Int->Int->Int->Int->Int->Int->LI->LB->Ap)(a:LB)(b:Bool)(f:Int)(av:LB)(aw ax ay az ba bb:Int)(dy:Bool)(dk:Int)(bc:LI)(bd:LB):Ap:=
if dy then
(Dr a av aw ax ay az ba bc bb bd b f).bind λ(dz,fa,fb,ap,be,ae,fc,fd,fe,ff,fg,af)=>
some (dz,fa,fb,ap,be,ae,fc,fd,fe,ff,fg,af,0)
else
if(Bi dk 0)then
(bD a av aw ax ay az ba bc bb bd b f dk).bind λ(fh,fi,fj,fk,fl,fm,fn,fo,fp,fq,fs,ft,fu)=>
some (fh,fi,fj,fk,fl,fm,fn,fo,fp,fq,fs,ft,fu)
else
PK av aw ax ay az ba bb bc bd
def Cb PK:=HT PK
def tU(j71:LB->Int->Int->Int->Int->Int->Int->Bool->Int->LI->LB->Ap)(a:LB)(b:Bool)(f:Int)(g:LB)(m o n p u h:Int)(k:LI)(v:LB):Ap:=
j71 g m o n p u h true 0 k v
def Xo PK a b f:=tU (Cb PK a b f) a b f
def tE(j71:LB->Int->Int->Int->Int->Int->Int->Bool->Int->LI->LB->Ap)(a:LB)(b:Bool)(f h:Int)(k:LI)(v:LB)(fv:Bool)(fw:Int)(fx:LB)(fy fz ga gb gc:Int):Ap:=
j71 fx fy fz ga gb gc h fv fw k v
def Mw PK a b f:=tE (Cb PK a b f) a b f
def YJ(j62:Int->LI->LB->Bool->Int->LB->Int->Int->Int->Int->Int->Ap)(a:LB)(b:Bool)(f:Int)(ag:LB)(ah ai y aj aa h:Int)(k:LI)(v:LB):Ap:=
(Nh ah ai y aj aa a).bind λgd=>
(Aj gd).bind λ(ge,ak)=>
j62 h k v ge ak ag ah ai y aj aa
def Qt PK a b f:=YJ (Mw PK a b f) a b f
def tC(j71:LB->Int->Int->Int->Int->Int->Int->Bool->Int->LI->LB->Ap)(a:LB)(b:Bool)(f m o n p u h:Int)(v:LB)(bf:Bool)(bg:Int)(bh:LB)(bi:LI):Ap:=
j71 bh m o n p u h bf bg bi v
def Ki PK a b f:=tC (Cb PK a b f) a b f
def Xv(j75:Int->Int->Int->Int->Int->Int->LB->Bool->Int->LB->LI->Ap)(a:LB)(b:Bool)(f:Int)(g:LB)(m o n p u h:Int)(k:LI)(v:LB)(dl:Int):Ap:=
(Dz m o n p u).bind λ(gf,ar)=>
if(Bi ar 0)then
(Aj ar).bind λ(al,bj)=>
j75 m o n p u h v al bj g k
else
(Bk g dl (Ac g)).bind λgg=>
(RL gg (Ac gf)).bind λ(dm,y)=>
if(geq y 24)then
j75 m o n p u h v true 0 g k
else
if(Bi y 0)then
(Aj y).bind λ(gh,aa)=>
j75 m o n p u h v gh aa g k
else
(Bk g (Ae (Ae dl (Ce 4 (Ac dm))) 4) (Ac g)).bind λgi=>
j75 m o n p u h v false 0 gi dm
def Mx PK a b f:=Xv (Ki PK a b f) a b f
def JB(j75:Int->Int->Int->Int->Int->Int->LB->Bool->Int->LB->LI->Ap)(j74:LB->Int->Int->Int->Int->Int->Int->LI->LB->Int->Ap)(a:LB)(b:Bool)(f:Int)(bk:Bool)(au:Int)(g:LB)(m o n p u h:Int)(k:LI)(v:LB):Ap:=
if(Bi au 0)then
(Aj au).bind λ(gj,ar)=>
j75 m o n p u h v gj ar g k
else
if(!bk)then
(Aj 26).bind λ(al,bj)=>
j75 m o n p u h v al bj g k
else
j74 g m o n p u h k v 8
def WQ PK a b f:=JB (Ki PK a b f) (Mx PK a b f) a b f
def IC(j64:Bool->Int->LB->Int->Int->Int->Int->Int->Int->LI->LB->Ap)(a:LB)(b:Bool)(f:Int)(g:LB)(m o n p u h:Int)(k:LI)(v:LB):Ap:=
(Bk g 0 8).bind λgk=>
(FR gk a).bind λ(bk,au)=>
j64 bk au g m o n p u h k v
def Xc PK a b f:=IC (WQ PK a b f) a b f
def sU(j71:LB->Int->Int->Int->Int->Int->Int->Bool->Int->LI->LB->Ap)(a:LB)(b:Bool)(f m o n p u:Int)(k:LI)(bl:Bool)(bm:Int)(bn:LB)(bp:Int)(bq:LB):Ap:=
j71 bn m o n p u bp bl bm k bq
def Mv PK a b f:=sU (Cb PK a b f) a b f
def Xk(j78:Int->Int->Int->Int->Int->LI->Bool->Int->LB->Int->LB->Ap)(a:LB)(b:Bool)(f w ab:Int)(g:LB)(m o n p u h:Int)(am:LX)(k:LI)(v:LB):Ap:=
if(Bi ab 0)then
(Aj ab).bind λ(br,bs)=>
j78 m o n p u k br bs g h v
else
(Rq n am).bind λ(bt,af)=>
if(Bi af 0)then
(Aj af).bind λ(bu,bv)=>
j78 m o n p u k bu bv g h v
else
(Ck v bt).bind λbw=>
(
(Bk g w (Ac g)).bind λbx=>
j78 m o n p u k false 0 bx (Ae h 1) bw)
def IP PK a b f:=Xk (Mv PK a b f) a b f
def IB(j77:Int->Int->LB->Int->Int->Int->Int->Int->Int->LX->LI->LB->Ap)(a:LB)(b:Bool)(f w:Int)(g:LB)(m o n p u h:Int)(aq:LX)(ac k:LI)(v:LB):Ap:=
(Ah ac h).bind λ_=>
(Bk g 0 w).bind λgl=>
(Ah ac h).bind λgm=>
(Zg m o n p u).bind λ(be,ae)=>
(Qq be ae aq gm gl).bind λ(am,ab)=>
j77 w ab g m o n p u h am k v
def Xu PK a b f:=IB (IP PK a b f) a b f
def Ht(j62:Int->LI->LB->Bool->Int->LB->Int->Int->Int->Int->Int->Ap)(j61:LB->Int->Int->Int->Int->Int->Int->LI->LB->Ap)(j75:Int->Int->Int->Int->Int->Int->LB->Bool->Int->LB->LI->Ap)(j73:LB->Int->Int->Int->Int->Int->Int->LI->LB->Ap)(j74:LB->Int->Int->Int->Int->Int->Int->LI->LB->Int->Ap)(j78:Int->Int->Int->Int->Int->LI->Bool->Int->LB->Int->LB->Ap)(j76:Int->LB->Int->Int->Int->Int->Int->Int->LX->LI->LI->LB->Ap)(j71:LB->Int->Int->Int->Int->Int->Int->Bool->Int->LI->LB->Ap)(j70:LB->Int->Int->Int->Int->Int->Int->LI->LB->Ap)(a:LB)(b:Bool)(f:Int)(g:LB)(m o n p u h:Int)(k:LI)(v:LB):Ap:=
if(geq m 0)then
(Kz g).bind λ(ad,an)=>
if(geq an 24)then
j62 h k v true 0 g m o n p u
else
if(Bi an 0)then
(Aj an).bind λ(bz,da)=>
j62 h k v bz da g m o n p u
else
(Bk g ad (Ac g)).bind λdb=>
(Pw db).bind λal=>
if al then
j62 h k v true 0 g m o n p u
else
(Bk g ad (Ac g)).bind λdc=>
(Pk dc).bind λ(ah,ai,y,aj,aa,ao)=>
if(geq ao 24)then
j62 h k v true 0 g m o n p u
else
if(Bi ao 0)then
(Aj ao).bind λ(dd,de)=>
j62 h k v dd de g m o n p u
else
(
(Bk g (Ae ad 22) (Ac g)).bind λag=>
(
j61 ag ah ai y aj aa h k v))
else
if(geq (Ac k) 0)then
if(geq m 2)then
if(Cj (Ac g) 8)then
j75 m o n p u h v true 0 g k
else
j73 g m o n p u h k v
else
j74 g m o n p u h k v 0
else
if(Cj h (Ac k))then
(Ah k h).bind λ_=>
(Ah k h).bind λw=>
if(Cj (Ac g) w)then
j78 m o n p u k true 0 g h v
else
(Tv a).bind λ(aq,ak)=>
if(Bi ak 0)then
(Aj ak).bind λ(df,dg)=>
j78 m o n p u k df dg g h v
else
(Dz m o n p u).bind λ(ac,dh)=>
if((Bi dh 0)||(Kq h (Ac ac)))then
(Aj 8).bind λ(di,ap)=>
j78 m o n p u k di ap g h v
else
j76 w g m o n p u h aq ac k v
else
if(Dv (Ac g) 4000)then
(Aj 38).bind λ(dj,ae)=>
j71 g m o n p u h dj ae k v
else
j70 g m o n p u h k v
def Be:Nat->LB->Int->Int->Int->Int->Int->Int->LI->LB->Ap
|0,_,_,_,_,_,_,_,_,_=>none
|z+1,d,e,i,j,l,A,B,D,E=>Ht (Mw (Be z) c C t) (Qt (Be z) c C t) (Ki (Be z) c C t) (Xc (Be z) c C t) (Mx (Be z) c C t) (Mv (Be z) c C t) (Xu (Be z) c C t) (Cb (Be z) c C t) (Xo (Be z) c C t) c C t d e i j l A B D E
def sV a b f:=Be a b f Ar
def Tm(j37:LB->Bool->Int->LB->Int->Int->Int->Int->Int->Int->LI->LB->Ap)(gn go:LB)(gp gq gr gs gt:Int)(gu:LI)(gv:Int)(gw:LB)(gx:Bool)(gy:Int)(gz:LB):Ap:=
(Qg gn go gp gq gr gs gt gu gv gw gx gy).bind λ(a,dn,dp,dq,dr,ds,dt,du,dv,dw,b,f,dx)=>
if(Bi dx 0)then
some (a,dn,dp,dq,dr,ds,dt,du,dv,dw,b,f,dx)
else
(Ck dn gz).bind λha=>
j37 a b f ha dp dq dr ds dt dv du dw
def Di:=Tm sV
def Tr:Option (LB×LB×Int×Int×Int×Int×Int×LI×Int×LB×Bool×Int×LB×Int):=
(Hi c E z d e B D l G i C t).bind λj=>
if(Bi j 0)then
some (([]:LB),([]:LB),0,0,0,0,0,([]:LI),0,([]:LB),false,0,([]:LB),j)
else
if(Cj J 0)then
some (([]:LB),([]:LB),0,0,0,0,0,([]:LI),0,([]:LB),false,0,([]:LB),2)
else
(Dr c E z d e B D l G i C t).bind λ(A,F,I,L,M,N,O,P,R,T,U,V)=>
(Bk T 0 (Dx J (Ac T))).bind λX=>
(Hy X).bind λY=>
(Bk T (Dx J (Ac T)) (Ac T)).bind λZ=>
some (A,F,I,L,M,N,O,P,R,Z,U,V,Y,0)
abbrev nN:=Option (Int×Int)
def vQ:nN:=
(Bk c (Al (Ac c) 32) (Ac c)).bind λz=>
(PQ z 0).bind λ(d,e,i)=>
if i then
if(Cj (Al (Ac c) 32) d)then
some (0,24)
else
some ((Ae d 32),0)
else
(Bk c (Al (Ac c) 32) (Ac c)).bind λj=>
(PQ j 2147483648).bind λ(l,t,A)=>
if(!A)then
some (0,12)
else
if(Cj (Ac c) (Ae l 64))then
some (0,24)
else
(Bk c (Al (Ac c) (Ae l 64)) (Ae (Al (Ac c) (Ae l 64)) 32)).bind λB=>
(iT l t 2684354560).bind λC=>
(Ji B C).bind λD=>
if(!D)then
some (0,12)
else
some ((Ae l 64),0)
def uB:=vQ
def vE(j2:LB->nN)(a:LB):nN:=
if(Cj (Al (Ac a) 32) 0)then
some (0,6)
else
(Bk a (Al (Ac a) 32) (Ac a)).bind λv=>
(Lm v ([(65:UInt8),(80:UInt8),(69:UInt8),(84:UInt8),(65:UInt8),(71:UInt8),(69:UInt8),(88:UInt8)]:LB)).bind λw=>
if(!w)then
some (0,6)
else
j2 a
def oW:=vE uB
abbrev Fy:=Option (Int×Int)
def tG:Fy:=
some (z,0)
def YN:=tG
def YT(jh:Int->LB->Fy)(a:Int)(g:LB):Fy:=
jh (Ae a 1) g
def YQ jh:=YT jh
def YL(j12:Int->LB->Fy)(a f:Int)(b:LB):Fy:=
if(geq f 0)then
some (0,38)
else
(Bk b 0 (Al (Ac b) f)).bind λg=>
j12 a g
def IM jh:=YL (YQ jh)
def NF(j11:Int->Int->LB->Fy)(j14:Int->Fy)(a:Int)(b:LB):Fy:=
if(Dv (Ac b) 0)then
(oW b).bind λ(f,k)=>
j11 a f b
else
j14 a
def Th:Nat->Int->LB->Fy
|0,_,_=>none
|q+1,a,b=>NF (IM (Th q)) YN a b
def wK:=Th Ar
def MX(j8:Int->LB->Fy)(h:LB):Fy:=
if(Dv (Ac h) 4000)then
some (0,38)
else
j8 0 h
def OW:=MX wK
def Wa(p a:LB)(g u v w y:Int)(b:LI)(h:Int)(aa:LB)(ab:Bool)(ac:Int):Option Int:=
if(geq g 0)then
(Kz a).bind λ(k,f)=>
if(Bi f 0)then
some f
else
(Bk a k (Ac a)).bind λm=>
(Pk m).bind λ(ad,ae,af,ag,ah,n)=>
some n
else
if((Cj h (Ac b))||(geq (Ac b) 0))then
some 24
else
(OW a).bind λ(ai,o)=>
some o
def Dq:Option (LB×LB×Int×Int×Int×Int×Int×LI×Int×LB×Bool×Int×Int):=
(Qg c E z d e B D l G i C t).bind λ(j,A,F,I,J,L,M,N,O,P,R,T,U)=>
if(Bi U 0)then
some (j,A,F,I,J,L,M,N,O,P,R,T,U)
else
(Wa j A F I J L M N O P R T).bind λV=>
if(Bi V 0)then
(bD j A F I J L M N O P R T V).bind λ(X,Y,Z,l5,l6,l7,l9,o7,o8,o9,p8,p9,q8)=>
some (X,Y,Z,l5,l6,l7,l9,o7,o8,o9,p8,p9,q8)
else
some (j,([]:LB),0,0,0,0,0,([]:LI),0,P,true,0,0)
abbrev Bn:=Option (LB×LB×Int×Int×Int×Int×Int×LI×Int×LB×Bool×Int×(List (Int×LB×Unit))×Int)
def UK(f:LB)(g h k m n o:Int)(p:LB)(u:Bool)(v:Int)(a:LB)(aa:List (Int×LB×Unit))(w:LB)(y:LI):Bn:=
some (f,w,g,h,k,m,n,y,o,p,u,v,aa,0)
def TI:=UK
def UQ(j32:LB->Int->Int->Int->Int->Int->Int->LB->Bool->Int->LB-> (List (Int×LB×Unit))->LB->LI->Bn)(aa:List (Int×LB×Unit))(f:LB)(g h k m n o:Int)(p:LB)(u:Bool)(v:Int)(a w:LB)(y:LI):Bn:=
j32 f g h k m n o p u v a aa w y
def DF:=UQ TI
def Vg(WK:Int->LB->Int->Int->Int->Int->Int->Int->LB->Bool->Int->LB-> (List (Int×LB×Unit))->LB->LI->Bn)(b:List (UInt8×Int×Unit))(ab:Int)(dm:LB)(dn dp dq dr ds dt:Int)(du:LB)(dv:Bool)(dw:Int)(dx:LB)(dy:List (Int×LB×Unit))(dz:LB)(fa:LI):Bn:=
WK (Ae ab 1) dm dn dp dq dr ds dt du dv dw dx dy dz fa
def Fq WK:=Vg WK
def Ve(j29:Int->LB->Int->Int->Int->Int->Int->Int->LB->Bool->Int->LB-> (List (Int×LB×Unit))->LB->LI->Bn)(b:List (UInt8×Int×Unit))(ac:UInt8×Int×Unit)(a:LB)(ad ab:Int)(f w:LB)(g h k m n:Int)(y:LI)(o:Int)(p:LB)(u:Bool)(v:Int)(ae:LB)(af ag ah ai aj ak:Int)(al:LB)(am:Bool)(an:Int)(aa:List (Int×LB×Unit))(ao:LB)(ap:LI):Bn:=
(
(Bk a (Dx ac.2.1 (Ac a)) (Ac a)).bind λbv=>
(Ck aa ([(ad,([]:LB),())]:List (Int×LB×Unit))).bind λar=>
j29 ab ae af ag ah ai aj ak al am an bv ar ao ap)
def GH WK b:=Ve (Fq WK b) b
def VF(j29:Int->LB->Int->Int->Int->Int->Int->Int->LB->Bool->Int->LB-> (List (Int×LB×Unit))->LB->LI->Bn)(b:List (UInt8×Int×Unit))(au ab:Int)(f w:LB)(g h k m n:Int)(y:LI)(o:Int)(p:LB)(u:Bool)(v:Int)(a av:LB)(aw ax ay az ba bb:Int)(bc:LB)(bd:Bool)(be:Int)(bf:LB)(aa:List (Int×LB×Unit))(ar:LB)(bg:LI):Bn:=
(Ck aa ([(au,bf,())]:List (Int×LB×Unit))).bind λfb=>
j29 ab av aw ax ay az ba bb bc bd be a fb ar bg
def DB WK b:=VF (Fq WK b) b
def UX(j29:Int->LB->Int->Int->Int->Int->Int->Int->LB->Bool->Int->LB-> (List (Int×LB×Unit))->LB->LI->Bn)(b:List (UInt8×Int×Unit))(bh ab:Int)(f w:LB)(g h k m n:Int)(y:LI)(o:Int)(p:LB)(u:Bool)(v:Int)(a bi:LB)(bj bk bl bm bn bp:Int)(bq:LB)(br:Bool)(bs:Int)(aa:List (Int×LB×Unit))(bt:LB)(bu:LI):Bn:=
(Ck aa ([(bh,([]:LB),())]:List (Int×LB×Unit))).bind λfc=>
j29 ab bi bj bk bl bm bn bp bq br bs a fc bt bu
def DU WK b:=UX (Fq WK b) b
def Po(j26:(UInt8×Int×Unit)->LB->Int->Int->LB->LB->Int->Int->Int->Int->Int->LI->Int->LB->Bool->Int->LB->Int->Int->Int->Int->Int->Int->LB->Bool->Int-> (List (Int×LB×Unit))->LB->LI->Bn)(j33:Int->Int->LB->LB->Int->Int->Int->Int->Int->LI->Int->LB->Bool->Int->LB->LB->Int->Int->Int->Int->Int->Int->LB->Bool->Int->LB-> (List (Int×LB×Unit))->LB->LI->Bn)(j34:Int->Int->LB->LB->Int->Int->Int->Int->Int->LI->Int->LB->Bool->Int->LB->LB->Int->Int->Int->Int->Int->Int->LB->Bool->Int-> (List (Int×LB×Unit))->LB->LI->Bn)(j29:Int->LB->Int->Int->Int->Int->Int->Int->LB->Bool->Int->LB-> (List (Int×LB×Unit))->LB->LI->Bn)(j31:(List (Int×LB×Unit))->LB->Int->Int->Int->Int->Int->Int->LB->Bool->Int->LB->LB->LI->Bn)(b:List (UInt8×Int×Unit))(ab:Int)(f:LB)(g h k m n o:Int)(p:LB)(u:Bool)(v:Int)(a:LB)(aa:List (Int×LB×Unit))(w:LB)(y:LI):Bn:=
if(Cj ab (Ac b))then
(Ah b ab).bind λac=>
if(geq ac.1 1)then
(
(
(
(Bk a 0 (Dx ac.2.1 (Ac a))).bind λaq=>
(
(Di f w g h k m n y o p u v aq).bind λ(ae,ao,af,ag,ah,ai,aj,ap,ak,al,am,an,ad)=>
j26 ac a ad ab f w g h k m n y o p u v ae af ag ah ai aj ak al am an aa ao ap))))
else
if(geq ac.1 2)then
(
(
(
(Tr f w g h k m n y o p u v ac.2.1).bind λ(av,ar,aw,ax,ay,az,ba,bg,bb,bc,bd,be,bf,au)=>
j33 au ab f w g h k m n y o p u v a av aw ax ay az ba bb bc bd be bf aa ar bg)))
else
if(geq ac.1 3)then
(
(
(
(Dq f w g h k m n y o p u v).bind λ(bi,bt,bj,bk,bl,bm,bn,bu,bp,bq,br,bs,bh)=>
j34 bh ab f w g h k m n y o p u v a bi bj bk bl bm bn bp bq br bs aa bt bu)))
else
j29 ab f g h k m n o p u v a aa w y
else
j31 aa f g h k m n o p u v a w y
def Fl:Nat->Int->LB->Int->Int->Int->Int->Int->Int->LB->Bool->Int->LB-> (List (Int×LB×Unit))->LB->LI->Bn
|0,_,_,_,_,_,_,_,_,_,_,_,_,_,_,_=>none
|z+1,c,d,e,i,j,l,t,A,B,C,D,E,F,G,I=>Po (GH (Fl z) L) (DB (Fl z) L) (DU (Fl z) L) (Fq (Fl z) L) DF L c d e i j l t A B C D E F G I
def qJ b:=Fl b Ar
def IF(j17:(List (UInt8×Int×Unit))->Int->LB->Int->Int->Int->Int->Int->Int->LB->Bool->Int->LB-> (List (Int×LB×Unit))->LB->LI->Bn)(fd fe:LB)(b:List (UInt8×Int×Unit)):Bn:=
(ER b).bind λbx=>
if(Bi bx 0)then
some (([]:LB),([]:LB),0,0,0,0,0,([]:LI),0,([]:LB),false,0,([]:List (Int×LB×Unit)),bx)
else
(KZ fd).bind λ(ff,fg,fh,fi,fj,fk,fl,fm,fn,fo,fp,fq,bz)=>
if(Bi bz 0)then
some (([]:LB),([]:LB),0,0,0,0,0,([]:LI),0,([]:LB),false,0,([]:List (Int×LB×Unit)),bz)
else
j17 b 0 ff fh fi fj fk fl fn fo fp fq fe ([]:List (Int×LB×Unit)) fg fm
def Zm:=IF qJ
abbrev Hs:=Option (LB×Bool)
def OD:Hs:=
(Bk c 0 z).bind λd=>
some (d,false)
def Yf:=OD
def Qi(j6:LB->Int->Hs)(Pa:Int->Int->Hs)(a:LB)(f:List (UInt8×Int×Unit))(b g:Int):Hs:=
if(Cj g (Ac f))then
(Ah f g).bind λk=>
if(geq k.1 3)then
(Bk a 0 b).bind λm=>
some (m,true)
else
(Ah f g).bind λn=>
if(geq n.1 1)then
(Ah f g).bind λo=>
Pa (Ae b (Dx o.2.1 (Al (Ac a) b))) (Ae g 1)
else
Pa b (Ae g 1)
else
j6 a b
def Iz:Nat->Int->Int->Hs
|0,_,_=>none
|z+1,d,e=>Qi Yf (Iz z) c L d e
def jX a f:=Iz a f Ar
def OK(j4:LB-> (List (UInt8×Int×Unit))->Int->Int->Hs)(a:LB)(f:List (UInt8×Int×Unit)):Hs:=
j4 a f 0 0
def HV:=OK jX
def VL:Option Bool:=
some true
def Ze:=VL
def Kr(j6:Option Bool)(Pa:Int->Option Bool)(a b:LI)(f:Int):Option Bool:=
if(Cj f (Ac a))then
(Ah a f).bind λg=>
(Ah b f).bind λh=>
if(Bi g h)then
some false
else
Pa (Ae f 1)
else
j6
def Ev:Nat->Int->Option Bool
|0,_=>none
|z+1,c=>Kr Ze (Ev z) l p8 c
def VT a b:=Ev a b Ar
def Pz(j4:LI->LI->Int->Option Bool)(a b:LI):Option Bool:=
if(Bi (Ac a) (Ac b))then
some false
else
j4 a b 0
def Oe:=Pz VT
def Vj:Option Bool:=
if(((c==V)&&(E==Ayu))&&((geq z J)&&((geq d Ayo)&&((geq e Ay5)&&((geq B Ay6)&&((geq D Ay7)&&true))))))then
(Oe l p8).bind λj=>
some ((((j&&(geq G Ay2))&&(i==Ayh))&&(C==Ayi))&&(geq t Ayj))
else
some ((((false&&(geq G Ay2))&&(i==Ayh))&&(C==Ayi))&&(geq t Ayj))
def We(b:List (UInt8×Int×Unit))(a:Bool)(h k:Int)(m:LB)(n o p u v w:Int)(g:LB)(y:Bool)(aa:Int)(f:List (Int×LB×Unit))(ae:LB)(af ag ah ai aj ak:Int)(ad:LB)(al:Bool)(am:Int)(an ab:LB)(ac:LI)(ao:LB)(ap:LI):Option Bool:=
if((((Bi h 0)||(Bi k 0))||(Bi (Ac f) (Ac b)))||(an !=ad))then
some false
else
if a then
(Vj m ab n o p u v ac w ad y aa ae ao af ag ah ai aj ap ak ad al am).bind λbk=>
some bk
else
some false
def Np:=We
def Iw(j6:(List (UInt8×Int×Unit))->Bool->Int->Int->LB->Int->Int->Int->Int->Int->Int->LB->Bool->Int-> (List (Int×LB×Unit))->LB->Int->Int->Int->Int->Int->Int->LB->Bool->Int->LB->LB->LI->LB->LI->Option Bool)(b:List (UInt8×Int×Unit))(a:Bool)(h k:Int)(m:LB)(n o p u v w:Int)(g:LB)(y:Bool)(aa:Int)(f:List (Int×LB×Unit))(ab:LB)(ac:LI)(ae:LB)(af ag ah ai aj ak:Int)(ad:LB)(al:Bool)(am:Int)(ao:LB)(ap:LI):Option Bool:=
(
(
(Aq f).bind λau=>
(
(Ck ([]:LB) au).bind λav=>
(Ck av g).bind λan=>
j6 b a h k m n o p u v w g y aa f ae af ag ah ai aj ak ad al am an ab ac ao ap)))
def Im:=Iw Np
def Nk(j5:(List (UInt8×Int×Unit))->Bool->Int->Int->LB->Int->Int->Int->Int->Int->Int->LB->Bool->Int-> (List (Int×LB×Unit))->LB->LI->LB->Int->Int->Int->Int->Int->Int->LB->Bool->Int->LB->LI->Option Bool)(aq ar:LB)(b:List (UInt8×Int×Unit))(a:Bool):Option Bool:=
(Zm aq ar b).bind λ(m,ab,n,o,p,u,v,ac,w,g,y,aa,f,h)=>
(KZ aq).bind λ(bl,bm,bn,bp,bq,br,bs,bt,bu,bv,bw,bx,k)=>
(HV ar b).bind λ(bz,da)=>
(Di bl bm bn bp bq br bs bt bu bv bw bx bz).bind λ(aw,ax,ay,az,ba,bb,bc,bd,be,bf,bg,bh,ds)=>
if da then
(Dq aw ax ay az ba bb bc bd be bf bg bh).bind λ(db,dc,dd,de,df,dg,dh,di,dj,dk,dl,dm,dt)=>
j5 b a h k m n o p u v w g y aa f ab ac db dd de df dg dh dj dk dl dm dc di
else
j5 b a h k m n o p u v w g y aa f ab ac aw ay az ba bb bc be bf bg bh ax bd
def Nw:=Nk Im
def Ng(j4:LB->LB-> (List (UInt8×Int×Unit))->Bool->Option Bool)(aq ar:LB)(b:List (UInt8×Int×Unit)):Option Bool:=
(Sy).bind λa=>
if(Dv (Ac aq) 64)then
if true then
if(true||(!a))then
some a
else
j4 aq ar b a
else
(Eu b).bind λdn=>
if((!dn)||(!a))then
some a
else
j4 aq ar b a
else
(FK ar).bind λdp=>
if dp then
if(true||(!a))then
some a
else
j4 aq ar b a
else
(Eu b).bind λdq=>
if((!dq)||(!a))then
some a
else
j4 aq ar b a
def Le:=Ng Nw
def Jb:Option Bool:=
if((((geq z 1)||(geq z 2))&&(Kq d 1))&&(pP d 6))then
some ((((((geq e 8)||(geq e 16))||(geq e 24))&&(Kq B 1))&&(pP B 1048576))&&(Kq D 1))
else
some (((false&&(Kq B 1))&&(pP B 1048576))&&(Kq D 1))
def Vd:Option Int:=
some (oZ 1 (Cq (Ce 256 z) 245))
def Oc:Option (LI):=
some l
def Oj:=Oc
def Jw(j6:LI->Option (LI))(Pa:Int->LI->Option (LI))(a f:Int)(b:LI):Option (LI):=
if(Dv f 0)then
(Vd a).bind λg=>
(Ck b ([(Dx f g)]:LI)).bind λh=>
(Vd a).bind λk=>
Pa (Al f k) h
else
j6 b
def Fg:Nat->Int->LI->Option (LI)
|0,_,_=>none
|c+1,d,e=>Jw Oj (Fg c) z d e
def GP a:=Fg a Ar
def GZ(j4:Int->Int->LI->Option (LI))(a m:Int):Option (LI):=
j4 a m ([]:LI)
def Nq:=GZ GP
def Vl(h a k f b:Int):Option Bool:=
(
(Jd (Bi a 0)).bind λ_=>
(
if(Dv b (Cq 4000 a))then
some true
else
(Nq f b).bind λg=>
some (Dv (Ac g) 1000)))
def Kl:Option Int:=
(Jb z d e B D).bind λc=>
if(!c)then
some 8
else
(Vl z d e B D).bind λi=>
if i then
some 8
else
some 0
def Eb(a f g h k:Int)(b:LB):Option Int:=
if((b==([]:LB)) !=(geq a 1))then
some 26
else
some 0
def FT:Option Int:=
if(Dv z 100000)then
some 8
else
some 0
def FC:=FT
def HB:Option Int:=
(Ah Ayr l7).bind λz=>
Ayq (Ae o7 z) (Ae l7 1)
def HF I9:=HB I9
def Uk:Option Int:=
if(Cj Ay3 (Ac Azc))then
(Ah Azc Ay3).bind λz=>
if(Cj z 5)then
some 8
else
(Ah Azc Ay3).bind λc=>
if(Dv c 100000)then
some 8
else
Ayq Ay0 Ay3
else
Azo Ay0
def Ka:Nat->Int->Int->Option Int
|0,_,_=>none
|z+1,c,d=>Uk (HF (Ka z) l) FC l c d
def HN a:=Ka a Ar
def Tx(j6:LI->Int->Int->Option Int)(a:LI):Option Int:=
if((Cj (Ac a) 1)||(Dv (Ac a) 1000))then
some 8
else
j6 a 0 0
def Hm:=Tx HN
def Gc(g h k a b:Int):Option (LI):=
(Nq a b).bind λf=>
some f
def Hp(f a b g h:Int):Option (Int×Int):=
some (a,b)
def OE:Option Int:=
some (Cq (Ce z d) 8)
def KW:Option Int:=
(Hp d e B D G).bind λ(c,i)=>
(OE c i).bind λj=>
some (Ce z j)
def JS:=KW
def Vz(j6:Int->Int->Int->Int->Int->Int->Option Int)(Pa:Int->Int->Option Int)(n a b f g h:Int)(k:LI)(m o:Int):Option Int:=
if(Cj o n)then
(Ah k o).bind λ_=>
(Ah k o).bind λw=>
Pa (Ae m w) (Ae o 1)
else
j6 m a b f g h
def Kx:Nat->Int->Int->Option Int
|0,_,_=>none
|c+1,i,j=>Vz JS (Kx c) z d e B D G p8 i j
def dZ n a b f g h k:=Kx n a b f g h k Ar
def KL(j4:Int->Int->Int->Int->Int->Int->LI->Int->Int->Option Int)(a b f g h n:Int):Option Int:=
(Gc a b f g h).bind λk=>
j4 n a b f g h k 0 0
def Vh:=KL dZ
abbrev Fx:=Option (Int×Int)
def dH:Fx:=
some (z,0)
def dV:=dH
def Uj(j6:Int->Fx)(Pa:Int->Int->Fx)(a:LB)(b f:Int):Fx:=
if(Cj f 4)then
(Ah a f).bind λg=>
if(Kq g 128)then
some (0,12)
else
(Ah a f).bind λh=>
Pa (Ae (Ce 128 b) (Ad h:Int)) (Ae f 1)
else
j6 b
def Jz:Nat->Int->Int->Fx
|0,_,_=>none
|z+1,d,e=>Uj dV (Jz z) c d e
def GV a:=Jz a Ar
def HJ(j4:LB->Int->Int->Fx)(a:LB):Fx:=
if(Bi (Ac a) 4)then
some (0,2)
else
j4 a 0 0
def AZ:=HJ GV
abbrev Gz:=Option (Int×Int)
def KU:Gz:=
if(Dv z 4000)then
some (0,4)
else
if(Cj (Ac c) z)then
some (0,24)
else
(Ah c 5).bind λd=>
if(geq d 16)then
(Bk c (Al z 10) z).bind λe=>
(Bk c 3 10).bind λi=>
(Ck ([51,68,73]:LB) i).bind λj=>
if(e !=j)then
some (0,12)
else
some (z,0)
else
some (z,0)
def Vr:=KU
def JY(j6:LB->Int->Gz)(a:LB)(b:Int):Gz:=
(Ah a 5).bind λo=>
if(geq o 16)then
j6 a (Ae (Ae 10 b) 10)
else
j6 a (Ae 10 b)
def Vx:=JY Vr
def KH(j5:LB->Int->Gz)(a:LB):Gz:=
if(Cj (Ac a) 10)then
some (0,24)
else
(Bk a 6 10).bind λp=>
(AZ p).bind λ(b,f)=>
(Ah a 3).bind λu=>
if(Cj u 2)then
if true then
if true then
if(true||(Bi f 0))then
some (0,12)
else
j5 a b
else
(Ah a 5).bind λv=>
if(Bi v 0)then
(Ah a 5).bind λw=>
if(Bi w 16)then
if(true||(Bi f 0))then
some (0,12)
else
j5 a b
else
(Ah a 3).bind λy=>
if((Bi y 4)||(Bi f 0))then
some (0,12)
else
j5 a b
else
if(false||(Bi f 0))then
some (0,12)
else
j5 a b
else
(Ah a 4).bind λaa=>
if(Bi aa 0)then
if(true||(Bi f 0))then
some (0,12)
else
j5 a b
else
(Ah a 5).bind λab=>
if(Bi ab 0)then
(Ah a 5).bind λac=>
if(Bi ac 16)then
if(true||(Bi f 0))then
some (0,12)
else
j5 a b
else
(Ah a 3).bind λad=>
if((Bi ad 4)||(Bi f 0))then
some (0,12)
else
j5 a b
else
if(false||(Bi f 0))then
some (0,12)
else
j5 a b
else
(Ah a 3).bind λae=>
if(Dv ae 4)then
if true then
if(true||(Bi f 0))then
some (0,12)
else
j5 a b
else
(Ah a 5).bind λaf=>
if(Bi af 0)then
(Ah a 5).bind λag=>
if(Bi ag 16)then
if(true||(Bi f 0))then
some (0,12)
else
j5 a b
else
(Ah a 3).bind λah=>
if((Bi ah 4)||(Bi f 0))then
some (0,12)
else
j5 a b
else
if(false||(Bi f 0))then
some (0,12)
else
j5 a b
else
(Ah a 4).bind λai=>
if(Bi ai 0)then
if(true||(Bi f 0))then
some (0,12)
else
j5 a b
else
(Ah a 5).bind λaj=>
if(Bi aj 0)then
(Ah a 5).bind λak=>
if(Bi ak 16)then
if(true||(Bi f 0))then
some (0,12)
else
j5 a b
else
(Ah a 3).bind λal=>
if((Bi al 4)||(Bi f 0))then
some (0,12)
else
j5 a b
else
if(false||(Bi f 0))then
some (0,12)
else
j5 a b
def ME:=KH Vx
def KC(j4:LB->Gz)(a:LB):Gz:=
if(Cj (Ac a) 3)then
some (0,6)
else
(Bk a 0 3).bind λam=>
if(am !=([73,68,51]:LB))then
some (0,6)
else
j4 a
def DT:=KC ME
def QF:Option UInt64:=
some A
def RP:=QF
def BL:Option UInt64:=
if(Kq Y 0)then
(Ah Ayv Y).bind λz=>
Ayl (Ae (Ce 256 l6) (Ad z:UInt64)) (Al Y 1)
else
Ayk l6
def Ns:Nat->UInt64->Int->Option UInt64
|0,_,_=>none
|z+1,d,e=>BL RP (Ns z) c d e
def RB a:=Ns a Ar
def QZ(j4:LB->UInt64->Int->Option UInt64)(a:LB):Option UInt64:=
j4 a 0 (Al (Ac a) 1)
def Du:=QZ RB
def Us:Option (Int×Int×Bool):=
(Bk c 12 16).bind λz=>
(Du z).bind λd=>
(Bk c 16 20).bind λe=>
(Du e).bind λi=>
if(((Cj d 32)||(Dv d 3032))||(Dv i 1000))then
some (0,0,false)
else
some ((Al (Ad d:Int) 32),(Ad i:Int),true)
def CF:Option (LB):=
some c
def BQ:=CF
def Rl(j6:LB->Option (LB))(Pa:UInt64->Int->LB->Option (LB))(b:Int)(f:UInt64)(g:Int)(a:LB):Option (LB):=
if(Cj g b)then
(Ck a ([(Ad (CX f 256):UInt8)]:LB)).bind λh=>
Pa (Cq f 256) (Ae g 1) h
else
j6 a
def Hu:Nat->UInt64->Int->LB->Option (LB)
|0,_,_,_=>none
|c+1,d,e,i=>Rl BQ (Hu c) z d e i
def CD b:=Hu b Ar
def CN(j4:Int->UInt64->Int->LB->Option (LB))(k:UInt64)(b:Int):Option (LB):=
j4 b k 0 ([]:LB)
def El:=CN CD
def Rf:Option (LB):=
(El 2000 4).bind λc=>
(Ck ([(65:UInt8),(80:UInt8),(69:UInt8),(84:UInt8),(65:UInt8),(71:UInt8),(69:UInt8),(88:UInt8)]:LB) c).bind λe=>
(El (Ad (Ae z 32):UInt64) 4).bind λi=>
(Ck e i).bind λj=>
(El (Ad d:UInt64) 4).bind λl=>
(Ck j l).bind λt=>
(El A 4).bind λB=>
(Ck t B).bind λC=>
(mkI (8:Int) (0:UInt8)).bind λD=>
(Ck C D).bind λE=>
some E
def Uz:Option (LB):=
(Rf z d 2684354560).bind λc=>
some c
def Lk:Option (LB):=
if C then
(Rf z d 2147483648).bind λc=>
some c
else
(Rf z d 0).bind λe=>
some e
abbrev Ky:=Option (Int×Int)
def HE:Ky:=
if(Cj (Ac c) (Ae 64 z))then
some (0,24)
else
(Bk c (Al (Ae 64 z) 32) (Ae 64 z)).bind λe=>
(Lk z d true).bind λi=>
if(e !=i)then
some (0,12)
else
some ((Ae 64 z),0)
def HQ:=HE
def GW(j4:LB->Int->Int->Ky)(a:LB):Ky:=
if(Cj (Ac a) 32)then
some (0,24)
else
(Bk a 0 32).bind λk=>
(Us k).bind λ(b,f,m)=>
if(!m)then
some (0,12)
else
(Bk a 0 32).bind λn=>
(Uz b f).bind λo=>
if(n !=o)then
some (0,12)
else
j4 a b f
def HD:=GW HQ
def GR(j3:LB->Ky)(a:LB):Ky:=
if(Cj (Ac a) 8)then
some (0,6)
else
(Bk a 0 8).bind λp=>
if(p !=([65,80,69,84,65,71,69,88]:LB))then
some (0,6)
else
j3 a
def AS:=GR HD
abbrev Gb:=Option (LI×Int)
def HC(I9:Int->LI->Gb)(a:LB)(b:Int)(f:LI)(g h:Int):Gb:=
if(geq h 6)then
some (f,0)
else
if(Bi h 0)then
some (([]:LI),h)
else
if(Dv (Ae b g) 4000)then
some (([]:LI),4)
else
(Ck f ([g]:LI)).bind λm=>
I9 (Ae b g) m
def Oi I9:=HC I9
def Un(j9:Int->LI->Int->Int->Gb)(a:LB)(b:Int)(f:LI):Gb:=
(Bk a b (Ac a)).bind λn=>
(DT n).bind λ(o,k)=>
if(geq k 6)then
(Bk a b (Ac a)).bind λp=>
(AS p).bind λ(u,v)=>
j9 b f u v
else
j9 b f o k
def Ny:Nat->Int->LI->Gb
|0,_,_=>none
|z+1,d,e=>Un (Oi (Ny z) c) c d e
def dX a:=Ny a Ar
def dA(j6:LB->Int->LI->Gb)(a:LB):Gb:=
j6 a 0 ([]:LI)
def QM:=dA dX
abbrev Gg:=Option (Int×Int)
def GQ:Gg:=
some (d,z)
def HP:=GQ
def Tw(j6:Int->Int->Gg)(Pa:Int->Int->Gg)(a:Int)(b:LI)(f g:Int):Gg:=
if(Cj g (Ac b))then
(Ah b g).bind λ_=>
(Ah b g).bind λh=>
Pa (Ae f h) (Ae g 1)
else
j6 a f
def Jr:Nat->Int->Int->Gg
|0,_,_=>none
|c+1,d,e=>Tw HP (Jr c) z l d e
def Ty a b:=Jr a b Ar
def HA(j4:Int->LI->Int->Int->Gg)(k:LB):Gg:=
(QM k).bind λ(b,a)=>
j4 a b 0 0
def Td:=HA Ty
def Qo:Option Bool:=
if(Cj (Ac c) (Ac E))then
(Bk E 0 (Ac c)).bind λz=>
some (c==z)
else
some false
def KS:Option UInt32:=
if Ays then
some (Yw (Cq N 2) 3988292384)
else
some (Cq N 2)
def KA:=KS
def JP(j2:UInt32->Bool->Option UInt32)(a:UInt32)(f:Int):Option UInt32:=
if(geq f 1)then
j2 a (!(geq (CX a 2) 1))
else
j2 a (geq (CX a 2) 1)
def FH:=JP KA
def LH:Option UInt32:=
some N
def MG:=LH
def Wu(j6:UInt32->Option UInt32)(Pa:UInt32->UInt8->Int->Option UInt32)(a:UInt32)(b:UInt8)(f:Int):Option UInt32:=
if(Cj f 8)then
(FH a (Ad (CX b 2):Int)).bind λg=>
Pa g (Cq b 2) (Ae f 1)
else
j6 a
def Kv:Nat->UInt32->UInt8->Int->Option UInt32
|0,_,_,_=>none
|q+1,a,b,f=>Wu MG (Kv q) a b f
def eU:=Kv Ar
def iE(j4:UInt32->UInt8->Int->Option UInt32)(h:UInt32)(k:UInt8):Option UInt32:=
j4 h k 0
def UM:=iE eU
def EI:Option UInt32:=
some N
def GG:=EI
def Rw(j6:UInt32->Option UInt32)(Pa:UInt32->Int->Option UInt32)(a:LB)(b:UInt32)(f:Int):Option UInt32:=
if(Cj f (Ac a))then
(Ah a f).bind λg=>
(UM b g).bind λh=>
Pa h (Ae f 1)
else
j6 b
def Ir:Nat->UInt32->Int->Option UInt32
|0,_,_=>none
|z+1,d,e=>Rw GG (Ir z) c d e
def EZ a:=Ir a Ar
def EC(j4:LB->UInt32->Int->Option UInt32)(k:UInt32)(a:LB):Option UInt32:=
j4 a k 0
def NQ:=EC EZ
def Tl:Option UInt32:=
(NQ 4294967295 c).bind λz=>
some (Al 4294967295 z)
abbrev Gx:=Option (Int×Int×Int×Int×Int×Int)
def KO:Gx:=
(Jb (Ad A:Int) (Ad P:Int) (Ad l6:Int) (Ad Ayx:Int) (Ad Ayz:Int)).bind λz=>
if(!z)then
some (0,0,0,0,0,12)
else
(Vl (Ad A:Int) (Ad P:Int) (Ad l6:Int) (Ad Ayx:Int) (Ad Ayz:Int)).bind λc=>
if c then
some (0,0,0,0,0,4)
else
some ((Ad A:Int),(Ad P:Int),(Ad l6:Int),(Ad Ayx:Int),(Ad Ayz:Int),0)
def LA:=KO
def KP(j6:UInt64->UInt64->UInt64->UInt64->UInt64->Gx)(a:LB):Gx:=
(Bk a 4 6).bind λu=>
(Bk a 6 8).bind λp=>
(Bk a 8 10).bind λo=>
(Bk a 10 14).bind λn=>
(Bk a 14 18).bind λm=>
(
(Du u).bind λk=>
(
(Du p).bind λh=>
(
(Du o).bind λg=>
(
(Du n).bind λf=>
(
(Du m).bind λb=>
(
j6 k h g f b))))))
def LM:=KP LA
def KG(j5:LB->Gx)(a:LB):Gx:=
if(Cj (Ac a) 22)then
some (0,0,0,0,0,24)
else
(Bk a 18 22).bind λy=>
(Bk a 0 18).bind λaa=>
(Du y).bind λab=>
(Tl aa).bind λac=>
if(Bi ab (Ad ac:UInt64))then
some (0,0,0,0,0,22)
else
j5 a
def LG:=KG LM
def KD(j4:LB->Gx)(a:LB):Gx:=
(Bk a 0 (Dx 4 (Ac a))).bind λad=>
(Bk ([84,84,65,49]:LB) 0 (Dx 4 (Ac a))).bind λae=>
if(ad !=ae)then
some (0,0,0,0,0,12)
else
j4 a
def Vi:=KD LG
abbrev Ru:=Option (Int×Int×Int×Int×Int×Int×Int)
def CB:Ru:=
(Vi i).bind λ(c,d,e,j,l,t)=>
if(geq t 24)then
some (0,0,0,0,0,0,(-1:Int))
else
some ((Ae z 22),c,d,e,j,l,t)
def BO:=CB
def BR(j2:Int->LB->Ru)(f:LB):Ru:=
(Td f).bind λ(b,g)=>
if(geq g 24)then
some (0,0,0,0,0,0,(-1:Int))
else
if(Bi g 0)then
some (0,0,0,0,0,0,g)
else
(Bk f b (Ac f)).bind λa=>
(Qo a ([73,68,51]:LB)).bind λu=>
if u then
some (0,0,0,0,0,0,(-1:Int))
else
(Qo a ([65,80,69,84,65,71,69,88]:LB)).bind λv=>
if v then
some (0,0,0,0,0,0,(-1:Int))
else
j2 b a
def Wm:=BR BO
def LK:Option UInt64:=
if Ays then
some (Yw (Ce A 2) 4823603603198064275)
else
some (Ce A 2)
def Vs:=LK
def KK(j2:UInt64->Bool->Option UInt64)(a:UInt64)(f:Int):Option UInt64:=
if(geq f 1)then
j2 a (!(Kq a 9223372036854775808))
else
j2 a (Kq a 9223372036854775808)
def FI:=KK Vs
def LV:Option UInt64:=
some A
def JR:=LV
def Wz:Option UInt64:=
if(Dv X 0)then
(Jd (Bi X 0)).bind λ_=>
(FI Azf (Hk (Cq (Ad Ayn:Int) X) 2)).bind λz=>
Ayl z (Cq X 2)
else
Ayk Azf
def Kw:Nat->UInt64->Int->Option UInt64
|0,_,_=>none
|z+1,c,d=>Wz JR (Kw z) Ayn c d
def eP b:=Kw b Ar
def fB(j4:UInt8->UInt64->Int->Option UInt64)(h:UInt64)(b:UInt8):Option UInt64:=
j4 b h 128
def TB:=fB eP
def EY:Option UInt64:=
some A
def EW:=EY
def Sk:Option UInt64:=
if(Cj Y (Ac Ayv))then
(Ah Ayv Y).bind λz=>
(TB l6 z).bind λc=>
Ayl c (Ae Y 1)
else
Ayk l6
def Iq:Nat->UInt64->Int->Option UInt64
|0,_,_=>none
|z+1,d,e=>Sk EW (Iq z) c d e
def aJ a:=Iq a Ar
def ZH(j4:LB->UInt64->Int->Option UInt64)(k:UInt64)(a:LB):Option UInt64:=
j4 a k 0
def Yi:=ZH aJ
def UG:Option UInt64:=
(Yi 0 c).bind λz=>
some z
def Wp:Option (LB):=
(UG c).bind λz=>
(El z 8).bind λd=>
some d
abbrev Ef:=Option (LI×Int)
def KV:Ef:=
(Hm l).bind λz=>
if(Bi z 0)then
some (([]:LI),12)
else
some (l,0)
def Wi:=KV
def Wb(j8:LI->Ef)(I9:Int->LI->Ef)(b:LB)(a g:Int)(f:LI):Ef:=
if(Cj g a)then
(Bk b (Ce 4 g) (Ae (Ce 4 g) 4)).bind λk=>
(Du k).bind λm=>
(Ck f ([(Ad m:Int)]:LI)).bind λn=>
I9 (Ae g 1) n
else
j8 f
def Ku:Nat->Int->LI->Ef
|0,_,_=>none
|d+1,e,i=>Wb Wi (Ku d) c z e i
def LO b a:=Ku b a Ar
def JT(j6:LB->Int->Int->LI->Ef)(b:LB)(a:Int):Ef:=
j6 b a 0 ([]:LI)
def KF:=JT LO
def JU(j5:LB->Int->Ef)(b:LB)(a:Int):Ef:=
if((Cj a 1)||(Dv a 1000))then
some (([]:LI),2)
else
if(Cj (Ac b) (Ae (Ce 4 a) 4))then
some (([]:LI),24)
else
(Bk b (Ce 4 a) (Ae (Ce 4 a) 4)).bind λo=>
(Bk b 0 (Ce 4 a)).bind λp=>
(Du o).bind λu=>
(Tl p).bind λv=>
if(Bi u (Ad v:UInt64))then
some (([]:LI),22)
else
j5 b a
def FJ:=JU KF
abbrev Ke:=Option (Int×LI×Int)
def FU:Ke:=
if(geq d 24)then
some (0,([]:LI),(-1:Int))
else
some ((Ae (Ae z (Ce 4 (Ac l))) 4),l,d)
def FA:=FU
def GF(j4:Int->Int->LI->Ke)(a:LB)(b k m n o f:Int):Ke:=
(Bk a f (Ac a)).bind λp=>
(Gc b k m n o).bind λu=>
(FJ p (Ac u)).bind λ(h,g)=>
j4 f g h
def Dw:=GF FA
def It(j3:LB->Int->Int->Int->Int->Int->Int->Ke)(a:LB)(b k m n o:Int)(v:LB):Ke:=
if(geq b 2)then
if(Cj (Ac a) 8)then
some (0,([]:LI),(-1:Int))
else
(Bk a 0 8).bind λw=>
(Wp v).bind λy=>
if(w !=y)then
some (0,([]:LI),26)
else
j3 a b k m n o 8
else
j3 a b k m n o 0
def Fb:=It Dw
def UD:Option (UInt64×Int):=
if(Dv (Ac o9) 100000)then
some (0,4)
else
(Yi A o9).bind λz=>
some (z,0)
def YE:Option (UInt64×Int):=
(UD 0 c).bind λ(z,d)=>
some (z,d)
def kG:Option (LX):=
some j
def jT:=kG
def RO(I9:UInt64->Int->LX->Option (LX))(b:UInt64)(f:Int)(a:LX)(g:Int32):Option (LX):=
(Ah a f).bind λ_=>
(Mc a f g).bind λh=>
I9 (Cq b 256) (Ae f 1) h
def AU I9:=RO I9
def AM(j8:UInt64->Int->LX->Int32->Option (LX))(j10:LX->Option (LX))(b:UInt64)(f:Int)(a:LX):Option (LX):=
if(Cj f 8)then
if(Dv (Ad (CX b 256):Int32) 127)then
j8 b f a (Al (Ad (CX b 256):Int32) 256)
else
j8 b f a (Ad (CX b 256):Int32)
else
j10 a
def Km:Nat->UInt64->Int->LX->Option (LX)
|0,_,_,_=>none
|q+1,b,f,a=>AM (AU (Km q)) jT b f a
def mF:=Km Ar
def nJ(j6:UInt64->Int->LX->Option (LX))(k:UInt64):Option (LX):=
j6 k 0 (List.replicate 16 (0:Int32))
def cE:=nJ mF
def Uw:Option (LX×Int):=
if(Dv (Ac c) 64)then
some (([(0:Int32),(0:Int32),(0:Int32),(0:Int32),(0:Int32),(0:Int32),(0:Int32),(0:Int32),(0:Int32),(0:Int32),(0:Int32),(0:Int32),(0:Int32),(0:Int32),(0:Int32),(0:Int32)]:LX),2)
else
(YE c).bind λ(z,d)=>
(cE z).bind λe=>
some (e,0)
def Vo:Option Int:=
if(geq z 8)then
some 128
else
if(geq z 16)then
some 32768
else
if(geq z 24)then
some 8388608
else
some 0
def BF:Option Int:=
if((Cj z 1)||(Dv z 6))then
some 2
else
(Vo d).bind λc=>
if(geq c 0)then
some 2
else
some 0
def Nu:Option Int:=
(BF z d).bind λc=>
if((Bi c 0)||(Cj e 1))then
some 2
else
(Jd (Bi z 0)).bind λ_=>
if(Dv e (Cq 4000 z))then
some 2
else
some 0
def Yl:Option (LB):=
(Tl c).bind λz=>
(Ck ([]:LB) c).bind λd=>
(Ck d ([(Ad z:UInt8),(Ad (Cs z (GI.toZ (8:UInt64)).toNat):UInt8),(Ad (Cs z (GI.toZ (16:UInt64)).toNat):UInt8),(Ad (Cs z (GI.toZ (24:UInt64)).toNat):UInt8)]:LB)).bind λe=>
some e
def Qm:Option Int:=
if(Cj (Ac c) 5)then
some 24
else
if(Dv (Ac c) 41254)then
some 4
else
(Bk c 0 (Al (Ac c) 4)).bind λz=>
(Yl z).bind λd=>
if(d !=c)then
some 22
else
some 0
def Nf:Option (Int×Int×UInt64×UInt64):=
some (10,10,16384,16384)
def dM:Option UInt64:=
some A
def cZ:=dM
def Ul:Option UInt64:=
if(Cj Y U)then
Ayl (Ce l6 2) (Ae Y 1)
else
Ayk l6
def Jo:Nat->UInt64->Int->Option UInt64
|0,_,_=>none
|c+1,d,e=>Ul cZ (Jo c) z d e
def dJ b:=Jo b Ar
def cV(j4:Int->UInt64->Int->Option UInt64)(b:Int):Option UInt64:=
j4 b 1 0
def Gd:=cV dJ
def II(a g:Int)(h k:UInt64)(b:UInt32):Option Bool:=
(Gd a).bind λf=>
some (Cj (Ad b:UInt64) f)
def EO(a g:Int)(h k:UInt64)(b:UInt32):Option UInt32:=
(Gd a).bind λf=>
some (Ad (Al (Ad b:UInt64) f):UInt32)
abbrev Za:=Option (Int×UInt64)
def LZ:Za:=
if(Cj z 24)then
(Gd (Ae z 5)).bind λc=>
if(Dv (Al (Ae A P) (Cq A 16)) c)then
some ((Ae z 1),(Al (Ae A P) (Cq A 16)))
else
some (z,(Al (Ae A P) (Cq A 16)))
else
some (z,(Al (Ae A P) (Cq A 16)))
def Vt:=LZ
def KI(j2:Int->UInt64->UInt64->Za)(b:Int)(a f:UInt64):Za:=
if(Dv b 0)then
(Gd (Ae b 4)).bind λh=>
if(Cj (Al (Ae a f) (Cq a 16)) h)then
some ((Al b 1),(Al (Ae a f) (Cq a 16)))
else
j2 b a f
else
j2 b a f
def Uy:=KI Vt
abbrev Uf:=Option (Int×Int×UInt64×UInt64)
def FF(f:UInt32)(g a:Int)(h b:UInt64)(w:Int)(y:UInt64):Uf:=
(Uy g h (Ad f:UInt64)).bind λ(aa,ab)=>
some (aa,w,ab,y)
def Sa:=FF
def DM(j2:UInt32->Int->Int->UInt64->UInt64->Int->UInt64->Uf)(g a:Int)(h b:UInt64)(f:UInt32):Uf:=
(II g a h b f).bind λo=>
if(!o)then
(
(
(EO g a h b f).bind λk=>
(Uy a b (Ad k:UInt64)).bind λ(m,n)=>
j2 f g a h b m n))
else
j2 f g a h b a b
def Ye:=DM Sa
abbrev Fh:=Option (Int×Int×UInt64×UInt64)
def aF:Fh:=
some (z,d,A,P)
def ZF:=aF
def FD(j6:Int->Int->UInt64->UInt64->Fh)(Pa:Int->Int->Int->UInt64->UInt64->Fh)(a:Int)(b:LU)(m f g:Int)(h k:UInt64):Fh:=
if(Cj m (Ac b))then
(Ah b m).bind λn=>
(Ye f g h k n).bind λ(o,p,u,v)=>
Pa (Ae m a) o p u v
else
j6 f g h k
def Mk:Nat->Int->Int->Int->UInt64->UInt64->Fh
|0,_,_,_,_,_=>none
|c+1,d,e,i,j,l=>FD ZF (Mk c) z T d e i j l
def bH a b:=Mk a b Ar
def EA(j4:Int->LU->Int->Int->Int->UInt64->UInt64->Fh)(a:Int)(b:LU):Fh:=
(Nf).bind λ(w,y,aa,ab)=>
(Jd (Bi a 0)).bind λ_=>
j4 a b (Hk (Ac b) a) w y aa ab
def Qk:=EA bH
def SE:Option Int:=
some (Hk z 2)
def SS:=SE
def AV:Option Int:=
if(Cj Ay0 (Hk o7 8))then
Ayq (Cq l7 2) (Ae Ay0 1)
else
Aym l7
def Nx:Nat->Int->Int->Option Int
|0,_,_=>none
|c+1,d,e=>AV SS (Nx c) z d e
def SG a:=Nx a Ar
def SI(j4:Int->Int->Int->Option Int)(g:LB)(k a:Int):Option Int:=
(Ah g (Cq a 8)).bind λh=>
j4 a (Ad h:Int) 0
def Ln:=SI SG
abbrev Eo:=Option (LB×Int)
def NW:Eo:=
(Ah i (Cq e 8)).bind λ_=>
(Ah i (Cq e 8)).bind λc=>
(Ah i (Cq e 8)).bind λ_=>
(Mc i (Cq e 8) (Ae c (Ad (Ce z d):UInt8))).bind λj=>
some (j,(Ae e 1))
def Yg:=NW
def Zc(j8:Int->Int->Int->LB->Eo)(I9:Int->Int->Eo)(b a:Int)(f:LB)(g h:Int):Eo:=
if(Cj h (Hk a 8))then
I9 (Ce g 2) (Ae h 1)
else
j8 b g a f
def Mb:Nat->Int->Int->Eo
|0,_,_=>none
|c+1,e,j=>Zc Yg (Mb c) z d i e j
def NU b a f:=Mb b a f Ar
def OH(j6:Int->Int->LB->Int->Int->Eo)(b a:Int)(f:LB):Eo:=
j6 b a f 1 0
def Yj:=OH NU
def NY(j5:Int->Int->LB->Eo)(k:LB)(a b:Int):Eo:=
if(geq (Hk a 8) 0)then
(Ck k ([(0:UInt8)]:LB)).bind λo=>
j5 b a o
else
j5 b a k
def Xg:=NY Yj
abbrev Er:=Option (LB×Int)
def YX:Er:=
some (i,z)
def YH:=YX
def Rk(j6:Int->LB->Er)(Pa:Int->Int->LB->Er)(f:Int)(g:LB)(h k a:Int)(b:LB):Er:=
if(Cj k f)then
(Ln g h k).bind λm=>
(Xg b a m).bind λ(n,o)=>
Pa (Ae k 1) o n
else
j6 a b
def Hw:Nat->Int->Int->LB->Er
|0,_,_,_=>none
|c+1,d,e,j=>Rk YH (Hw c) z i t d e j
def YF f g h:=Hw f g h Ar
def YZ(j4:Int->LB->Int->Int->Int->LB->Er)(g:LB)(h p f:Int):Er:=
j4 f g h p 0 ([]:LB)
def KQ:=YZ YF
def dS:Option UInt64:=
some A
def dD:=dS
def Uh:Option UInt64:=
if(Kq Y 0)then
(Ln Ayv Azb (Ae U Y)).bind λz=>
Ayl (Ae (Ce 2 l6) (Ad z:UInt64)) (Al Y 1)
else
Ayk l6
def Jq:Nat->UInt64->Int->Option UInt64
|0,_,_=>none
|c+1,d,e=>Uh dD (Jq c) z i t d e
def GX b f g:=Jq b f g Ar
def HG(j4:Int->LB->Int->UInt64->Int->Option UInt64)(f:LB)(g b m:Int):Option UInt64:=
j4 b f g 0 (Al m 1)
def Sr:=HG GX
abbrev Hn:=Option (Int×Int)
def OJ(b a:Int)(g:LB)(f:Int):Hn:=
if(geq a 48)then
some (a,(Ae b a))
else
if(Kq (Ae b a) f)then
some ((-1:Int),0)
else
some (a,(Ae (Ae b a) 1))
def Zb:=OJ
def Yx(j6:Int->Int->LB->Int->Hn)(Pa:Int->Hn)(b:Int)(g:LB)(f a:Int):Hn:=
if((Cj (Ae b a) f)&&(Cj a 48))then
(Ln g f (Ae b a)).bind λh=>
if(geq h 1)then
Pa (Ae a 1)
else
j6 b a g f
else
j6 b a g f
def Lr:Nat->Int->Hn
|0,_=>none
|c+1,d=>Yx Zb (Lr c) z i t d
def jQ b g f:=Lr b g f Ar
def kK(j4:Int->LB->Int->Int->Hn)(g:LB)(f b:Int):Hn:=
j4 b g f 0
def WX:=kK jQ
def DH:Option Int:=
(Gd U).bind λz=>
(Jd (Bi z 0)).bind λ_=>
some (Ad (Dx 48 (Cq (Ad N:UInt64) z)):Int)
abbrev AQ:=Option (UInt32×Int×Int)
def Yn:AQ:=
if((Cj d 0)||(Cj (Al t e) J))then
some (0,0,24)
else
(Sr i t e J).bind λc=>
if(Cj d 48)then
(Gd z).bind λj=>
some ((Ad (Ae (Ce (Ad d:UInt64) j) c):UInt32),(Ae e J),0)
else
(DH (Ad c:UInt32) z).bind λl=>
if(Cj l d)then
some (0,0,12)
else
some ((Ad c:UInt32),(Ae e J),0)
def Yz:=Yn
def NR(j2:Int->Int->Int->LB->Int->Int->AQ)(h:LB)(f n g:Int):AQ:=
if(Kq n f)then
some (0,0,24)
else
(WX h f n).bind λ(a,b)=>
if(geq a 48)then
j2 g a b h f 32
else
j2 g a b h f g
def IQ:=NR Yz
def IL(g:LB)(b a f n:Int)(v w:UInt64):Option (UInt32×Int×Int):=
if(Kq a b)then
some (0,0,24)
else
(Ln g b a).bind λo=>
if(geq o 0)then
if(Cj (Al (Al b a) 1) f)then
some (0,0,24)
else
(Sr g b (Ae a 1) f).bind λp=>
some ((Ad p:UInt32),(Ae (Ae a 1) f),0)
else
(IQ g b (Ae a 1) n).bind λ(h,u,k)=>
if(Bi k 0)then
some (0,0,k)
else
(Gd f).bind λm=>
if(Dv (Ae (Ad h:UInt64) m) 4294967295)then
some (0,0,12)
else
some ((Ad (Ae (Ad h:UInt64) m):UInt32),u,0)
abbrev Bp:=Option (LU×Int)
def dT:Bp:=
some (T,0)
def dG:=dT
def Ub(j18:LU->Bp)(Hj:Int->Bp)(a:LB)(b:LU)(m:Int):Bp:=
if(Cj m (Ce 8 (Ac a)))then
(Ln a (Ce 8 (Ac a)) m).bind λn=>
if(Bi n 0)then
some (b,12)
else
Hj (Ae m 1)
else
j18 b
def Ju:Nat->Int->Bp
|0,_=>none
|z+1,d=>Ub dG (Ju z) c T d
def GY a b:=Ju a b Ar
def GU(j16:LB->LU->Int->Bp)(f:Int)(a:LB)(b:LU):Bp:=
if(Dv (Al (Ce 8 (Ac a)) f) 7)then
some (b,12)
else
j16 a b f
def Uo:=GU GY
def HH(Adc:Int->Int->LU->Bp)(g h:Int)(a:LB)(f k:Int)(b:LU)(p u:Int)(v w:UInt64):Bp:=
(KQ a (Ce 8 (Ac a)) f (Dx (Ae f 81) (Ce 8 (Ac a)))).bind λ(y,aa)=>
(IL y aa 0 p u v w).bind λ(ab,ac,o)=>
if(Bi o 0)then
some (b,o)
else
(Ck b ([ab]:LU)).bind λad=>
Adc (Ae f ac) (Ae k 1) ad
def Js Adc:=HH Adc
def HO(j13:Int->Int->LU->Int->Int->UInt64->UInt64->Bp)(j15:Int->LB->LU->Bp)(g h:Int)(a:LB)(f k:Int)(b:LU):Bp:=
if(Cj k (Ce h g))then
(Nf).bind λ(n,ae,af,ag)=>
if(Kq k g)then
(Qk g b).bind λ(ah,ai,aj,ak)=>
j13 f k b ah ai aj ak
else
j13 f k b n ae af ag
else
j15 f a b
def Fi:Nat->Int->Int->LU->Bp
|0,_,_,_=>none
|c+1,e,j,l=>HO (Js (Fi c) z d i) Uo z d i e j l
def dB g h a:=Fi g h a Ar
def LC(j10:Int->Int->LB->Int->Int->LU->Bp)(g h:Int)(a:LB):Bp:=
j10 g h a 0 0 ([]:LU)
def DJ:=LC dB
def nK:Option (Int×Int):=
if(geq z 8)then
some (4,0)
else
if((geq z 16)||(geq z 24))then
some (5,0)
else
some (0,2)
def rL:Option (Int×LX×LX×Int):=
(nK z).bind λ(c,d)=>
if(Bi d 0)then
some (0,(List.replicate 16 (0:Int32)),(List.replicate 16 (0:Int32)),2)
else
if(geq z 16)then
some (9,j,(List.replicate 16 (0:Int32)),0)
else
some (10,j,(List.replicate 16 (0:Int32)),0)
def WN:Option (Int×Int32×Int×LX×LX×Int):=
(rL z j).bind λ(c,d,e,i)=>
if(Bi i 0)then
some (0,0,0,(List.replicate 16 (0:Int32)),(List.replicate 16 (0:Int32)),2)
else
some (z,0,c,d,e,0)
def DW:Option Int32:=
if(geq (CX N 2) 0)then
some (Ad (Cq N 2):Int32)
else
some (Ad (Cq (oL (Ae (Ad N:Int) 1)) 2):Int32)
def Dc:Option Int32:=
some (Ad (Ad (Ad z:UInt64):UInt32):Int32)
def OO:Option Int32:=
some (Ad z:Int32)
def NT:=OO
def Yd(j6:Int->Option Int32)(Pa:Int->Int->Option Int32)(h:Int)(b f:LX)(g a:Int):Option Int32:=
if(Cj a 16)then
(Ah b a).bind λ_=>
(Ah f a).bind λ_=>
(Ah b a).bind λk=>
(Ah f a).bind λm=>
(Dc (Ce (Ad k:Int) (Ad m:Int))).bind λn=>
(Dc (Ae g (Ad n:Int))).bind λo=>
Pa (Ad o:Int) (Ae a 1)
else
j6 g
def Lw:Nat->Int->Int->Option Int32
|0,_,_=>none
|c+1,d,e=>Yd NT (Lw c) z j O d e
def jM h b f:=Lw h b f Ar
def kH(j4:Int->LX->LX->Int->Int->Option Int32)(h:Int)(b f:LX):Option Int32:=
j4 h b f 0 0
def WT:=kH jM
def JW:Option Int32:=
(WT z j O).bind λc=>
(Dc (Ae (Ad c:Int) (Cq Ayp 2))).bind λd=>
(Jd (Bi Ayp 0)).bind λ_=>
(Jd (Bi Ayp 0)).bind λ_=>
if(Cj (Hk (Ad d:Int) Ayp) 0)then
some (Ad (Al (Cq (Ad d:Int) Ayp) 1):Int32)
else
some (Ad (Cq (Ad d:Int) Ayp):Int32)
def Ww:=JW
def KB(j2:Int->LX->LX->Int->Option Int32)(b:Int)(f g:LX):Option Int32:=
if(geq b 9)then
j2 b f g 512
else
j2 b f g 1024
def EF:=KB Ww
def FX:Option Int32:=
if(geq z 0)then
some 4
else
if(pP z 3)then
some 2
else
some 1
def Ur:Option Int32:=
if(Cj F 0)then
some (-1:Int32)
else
if(Dv F 0)then
some 1
else
some 0
abbrev Ep:=Option (Int×LX×LX)
def ZC:Ep:=
some (z,j,O)
def YW:=ZC
def Qw(j6:Int->LX->LX->Ep)(Pa:Int->LX->Ep)(h:Int32)(g:Int)(b:LX)(a:Int)(f:LX):Ep:=
if(Cj a 16)then
(Ah f a).bind λ_=>
(Ah b a).bind λ_=>
(Ah f a).bind λk=>
(Ah b a).bind λm=>
(FX a).bind λn=>
(Ur m).bind λo=>
(Ur h).bind λp=>
(Ah f a).bind λ_=>
(Mc f a (Ae k (Ce (Ce n o) p))).bind λu=>
Pa (Ae a 1) u
else
j6 g f b
def Hz:Nat->Int->LX->Ep
|0,_,_=>none
|z+1,c,d=>Qw YW (Hz z) F I Z c d
def XZ h g b:=Hz h g b Ar
def XL(j4:Int32->Int->LX->Int->LX->Ep)(g:Int)(v b:LX)(h:Int32):Ep:=
j4 h g b 0 v
def JV:=XL XZ
abbrev Fe:=Option (Int×LX×LX)
def DZ:Fe:=
(Ah l5 0).bind λ_=>
(Mc l5 0 F).bind λz=>
some (I,Z,z)
def DE:=DZ
def Ta(j6:Int32->Int->LX->LX->Fe)(Pa:Int->LX->Fe)(b:Int32)(f:Int)(g:LX)(h:Int)(a:LX):Fe:=
if(Dv h 0)then
(Ah a (Al h 1)).bind λ_=>
(Ah a (Al h 1)).bind λm=>
(Ah a h).bind λ_=>
(Mc a h m).bind λn=>
Pa (Al h 1) n
else
j6 b f g a
def Iv:Nat->Int->LX->Fe
|0,_,_=>none
|z+1,c,d=>Ta DE (Iv z) F I Z c d
def aN b f g:=Iv b f g Ar
def ZR(j4:Int32->Int->LX->Int->LX->Fe)(f:Int)(g o:LX)(b:Int32):Fe:=
j4 b f g 15 o
def NO:=ZR aN
def Vy:Option (Int32×Int×LX×LX):=
(EF z j O).bind λc=>
(Dc (Ae (Ad F:Int) (Ad c:Int))).bind λd=>
(JV z j O F).bind λ(e,i,l)=>
(NO e i l d).bind λ(t,A,B)=>
some (d,t,A,B)
def DI:Option Int32:=
(Jd (Bi I 0)).bind λ_=>
(Jd (Bi I 0)).bind λ_=>
if(Cj (Hk (Ce (Al I 1) (Ad F:Int)) I) 0)then
some (Ad (Al (Cq (Ce (Al I 1) (Ad F:Int)) I) 1):Int32)
else
some (Ad (Cq (Ce (Al I 1) (Ad F:Int)) I):Int32)
def So:=DI
def FL(j2:Int32->Int->Option Int32)(f:Int)(b:Int32):Option Int32:=
if(geq f 5)then
j2 b 32
else
j2 b 16
def Qn:=FL So
def Yq(b:Int)(a:Int32)(h:Int)(k m:LX):Option Int:=
if(geq b 8)then
(Qn 4 a).bind λf=>
some (Ad f:Int)
else
(Qn 5 a).bind λg=>
some (Ad g:Int)
def Vv:Option (Int32×Int×Int32×Int×LX×LX):=
(Vy I Z l5 Ayw).bind λ(c,d,e,i)=>
(Yq z F I Z l5).bind λj=>
(Dc (Ae (Ad c:Int) j)).bind λl=>
some (l,z,l,d,e,i)
def Sd:Option Int:=
if((Cj z 1)||(Dv z 6))then
some 2
else
if(Dv (Ac j) 4000)then
some 4
else
(Jd (Bi z 0)).bind λ_=>
if(Dv (Hk (Ac j) z) 0)then
some 2
else
some 0
def YM:Option (LX):=
some j
def YB:=YM
def Rh(j8:LX->Option (LX))(I9:Int->LX->Option (LX))(a:LX)(f:Int)(b:LX):Option (LX):=
if(Kq f 0)then
(Ah b (Ae f 1)).bind λ_=>
(Ah a f).bind λk=>
(Ah b (Ae f 1)).bind λm=>
(Dc (Al (Ad m:Int) (Ad k:Int))).bind λn=>
(Ah b f).bind λ_=>
(Mc b f n).bind λo=>
I9 (Al f 1) o
else
j8 b
def Hv:Nat->Int->LX->Option (LX)
|0,_,_=>none
|z+1,c,d=>Rh YB (Hv z) j c d
def WS a:=Hv a Ar
def CU(j6:LX->Int->LX->Option (LX))(a p:LX):Option (LX):=
j6 a (Al (Ac a) 2) p
def Qz:=CU WS
def BU(j5:LX->LX->Option (LX))(a:LX):Option (LX):=
(mkI (Ac a) (0:Int32)).bind λh=>
(Jd (geq (Ac a) (Ac a))).bind λ_=>
(Ah a (Al (Ac a) 1)).bind λu=>
(Ah h (Al (Ac a) 1)).bind λ_=>
(Mc h (Al (Ac a) 1) u).bind λg=>
if(Dv (Ac a) 1)then
(Ah a (Al (Ac a) 1)).bind λv=>
(Ah a (Al (Ac a) 2)).bind λw=>
(Dc (Ae (Ad v:Int) (Cq (Ad w:Int) 2))).bind λy=>
(Ah g (Al (Ac a) 1)).bind λ_=>
(Mc g (Al (Ac a) 1) y).bind λaa=>
j5 a aa
else
j5 a g
def Ws:=BU Qz
abbrev Gu:=Option (LX×Int)
def gO:Gu:=
some (j,0)
def gV:=gO
def MB(j6:LX->Gu)(Pa:Int->LX->Gu)(a:Int)(b:LX)(g:Int)(f:LX):Gu:=
if(Cj g (Ac b))then
(Bk b g (Ae g a)).bind λh=>
(Ws h).bind λk=>
(Ck f k).bind λm=>
Pa (Ae g a) m
else
j6 f
def Pp:Nat->Int->LX->Gu
|0,_,_=>none
|c+1,d,e=>MB gV (Pp c) z j d e
def gE a b:=Pp a b Ar
def JZ(j4:Int->LX->Int->LX->Gu)(a:Int)(b:LX):Gu:=
(Sd a b).bind λn=>
if(Bi n 0)then
(Sd a b).bind λo=>
some (([]:LX),o)
else
j4 a b 0 ([]:LX)
def DY:=JZ gE
def CI(b f:Int)(w:LX):Option (LX):=
(DY b w).bind λ(aj,ai)=>
some aj
def Qx:=CI
def CM(L8:Int->LX->Option (LX))(a:LU)(b f:Int)(g:LX)(h:Int)(m:LX):Option (LX):=
L8 (Ae h 1) m
def BY L8:=CM L8
def CA(Ade:Int->LX->Int->Int32->Int->LX->LX->Option (LX))(a:LU)(h b f:Int)(g:LX)(k:Int)(ah:LX)(y:Int)(aa:Int32)(ab:Int)(ac ad:LX):Option (LX):=
Ade (Ae k b) ah y aa ab ac ad
def BP Ade:=CA Ade
def CH(j30:Int->LX->Int->Int32->Int->LX->LX->Option (LX))(a:LU)(h b f:Int)(g:LX)(k:Int)(ae:Int32)(m:LX)(n:Int)(o:Int32)(p:Int)(u v:LX)(y:Int)(aa:Int32)(ab:Int)(ac ad:LX):Option (LX):=
(Ah m k).bind λ_=>
(Mc m k ae).bind λah=>
j30 k ah y aa ab ac ad
def CO Ade a h b f g:=CH (BP Ade a h b f g) a h b f g
def CG(j29:Int->Int32->LX->Int->Int32->Int->LX->LX->Int->Int32->Int->LX->LX->Option (LX))(j32:Int->LX->Option (LX))(a:LU)(b f:Int)(g:LX)(h k:Int)(m:LX)(n:Int)(o:Int32)(p:Int)(u v:LX):Option (LX):=
if(Cj k (Ac a))then
(Ah a k).bind λag=>
(
(DW ag).bind λaf=>
(
(Vv n o p u v af).bind λ(ae,y,aa,ab,ac,ad)=>
j29 k ae m n o p u v y aa ab ac ad))
else
j32 h m
def Li(L8:Int->LX->Option (LX))(a:LU)(b f:Int)(g:LX)(h:Int):Nat->Int->LX->Int->Int32->Int->LX->LX->Option (LX)
|0,_,_,_,_,_,_,_=>none
|q+1,k,m,n,o,p,u,v=>CG (CO (Li L8 a b f g h q) a h b f g) (BY L8 a b f g) a b f g h k m n o p u v
def CK L8 a b f g h:=Li L8 a b f g h Ar
def Qy(j26:Int->Int->LX->Int->Int32->Int->LX->LX->Option (LX))(j34:Int->Int->LX->Option (LX))(a:LU)(b f:Int)(g:LX)(h:Int)(w:LX):Option (LX):=
if(Cj h b)then
(WN f g).bind λ(ak,ai,al,am,an,aq)=>
j26 h h w ak ai al am an
else
j34 b f w
def Fu:Nat->Int->LX->Option (LX)
|0,_,_=>none
|z+1,c,d=>Qy (CK (Fu z) T l9 Ayg Ay4) Qx T l9 Ayg Ay4 c d
def CV a b f g:=Fu a b f g Ar
def DS(j18:LU->Int->Int->LX->Int->LX->Option (LX))(b f:Int)(g:LX)(a:LU):Option (LX):=
(mkI (Ac a) (0:Int32)).bind λao=>
(Jd (geq (Ac a) (Ac a))).bind λ_=>
j18 a b f g 0 ao
def Ql:=DS CV
def dN:Option Int:=
some 0
def cY:=dN
def Ff:Option Int:=
if(Cj o7 (Ac Ayf))then
(Ah Ayf o7).bind λz=>
if(Cj (Ad z:Int) (oL I))then
some 16
else
(Ah Ayf o7).bind λc=>
if(Kq (Ad c:Int) I)then
some 16
else
Aym (Ae o7 1)
else
p9
def Bv:Nat->Int->Option Int
|0,_=>none
|z+1,c=>Ff cY (Bv z) j M c
def dU a b:=Bv a b Ar
def Jt(j4:LX->Int->Int->Option Int)(k:Int)(a:LX):Option Int:=
(Vo k).bind λb=>
if(geq b 0)then
some 2
else
if(Dv (Ac a) 4000)then
some 4
else
j4 a b 0
def Bq:=Jt dU
def Yv(g f:Int)(a:LX):Option (LX×Int):=
(Bq f a).bind λb=>
if(Bi b 0)then
some (([]:LX),b)
else
some (a,0)
abbrev Tz:=Option (LX×Int)
def Iu:Tz:=
if(Bi z 0)then
some (([]:LX),z)
else
(
(
(Ql d e j T).bind λc=>
(Yv d e c).bind λ(i,l)=>
some (i,l)))
def If:=Iu
def Tg(j2:Int->Int->Int->LX->LU->Tz)(a b:Int)(g:LX)(p:Int)(k:LB):Tz:=
(Nu a b p).bind λy=>
if(Bi y 0)then
some (([]:LX),2)
else
(Qm k).bind λaa=>
if(Bi aa 0)then
(Qm k).bind λab=>
some (([]:LX),ab)
else
(Bk k 0 (Al (Ac k) 4)).bind λac=>
(DJ a p ac).bind λ(h,f)=>
j2 f a b g h
def Fa:=Tg If
def Ys:Option (LB):=
if(geq z 24)then
(Ck ([(Ad (Hk d 256):UInt8),(Ad (Hk (Cq d 256) 256):UInt8)]:LB) ([(Ad (Cq d 65536):UInt8)]:LB)).bind λc=>
some c
else
some ([(Ad (Hk d 256):UInt8),(Ad (Hk (Cq d 256) 256):UInt8)]:LB)
def Ly:=Ys
def OG(j2:Int->Int->Option (LB))(a:Int)(f:Int32):Option (LB):=
if(geq a 8)then
some ([(Ad (Ae (Ad f:Int) 128):UInt8)]:LB)
else
if(Cj (Ad f:Int) 0)then
(Vo a).bind λh=>
j2 a (Ae (Ad f:Int) (Ce 2 h))
else
j2 a (Ad f:Int)
def HU:=OG Ly
abbrev Ge:=Option (LB×Int)
def dF:Ge:=
some (c,0)
def dI:=dF
def Ug(j6:LB->Ge)(Pa:Int->LB->Ge)(b:Int)(a:LX)(g:Int)(f:LB):Ge:=
if(Cj g (Ac a))then
(Ah a g).bind λh=>
(HU b h).bind λk=>
(Ck f k).bind λm=>
Pa (Ae g 1) m
else
j6 f
def Jv:Nat->Int->LB->Ge
|0,_,_=>none
|c+1,d,e=>Ug dI (Jv c) z j d e
def dP b a:=Jv b a Ar
def HI(j4:Int->LX->Int->LB->Ge)(b:Int)(a:LX):Ge:=
(Bq b a).bind λn=>
if(Bi n 0)then
(Bq b a).bind λo=>
some (([]:LB),o)
else
j4 b a 0 ([]:LB)
def Rz:=HI dP
abbrev Ue:=Option (LB×Int)
def Gj(o:LX)(f:Int)(p g:LB)(h k a m n:Int)(u:LI)(b:Int)(v:LB)(w:Bool)(y:Int):Ue:=
if(Bi f 0)then
some (([]:LB),f)
else
(Rz a o).bind λ(ac,ai)=>
some (ac,0)
def Gp:=Gj
def Gn(j2:LX->Int->LB->LB->Int->Int->Int->Int->Int->LI->Int->LB->Bool->Int->Ue)(p g:LB)(h k a m n:Int)(u:LI)(b:Int)(v:LB)(w:Bool)(y:Int):Ue:=
(Ah u b).bind λaa=>
if(Cj (Ac g) aa)then
some (([]:LB),(-1:Int))
else
(Uw p).bind λ(ad,aj)=>
(Bk g 0 aa).bind λae=>
(Hp h k a m n).bind λ(af,ag)=>
(Gc h k a m n).bind λab=>
(Ah ab b).bind λ_=>
(Ah ab b).bind λah=>
(Fa af ag ad ah ae).bind λ(o,f)=>
j2 o f p g h k a m n u b v w y
def Cv:=Gn Gp
abbrev Ls:=Option (LB×LB×Int×Int×Int×Int×Int×LI×Int×LB×Bool×Int×Int)
def Bc:Ls:=
if(geq (Ac l) 0)then
(Fb E z d e B D c).bind λ(j,A,F)=>
if(Bi F 0)then
some (c,E,z,d,e,B,D,l,G,i,C,t,F)
else
(Bk E j (Ac E)).bind λI=>
some (c,I,z,d,e,B,D,A,G,i,C,t,0)
else
if(geq G (Ac l))then
if(Dv (Ac E) 4000)then
some (c,E,z,d,e,B,D,l,G,i,C,t,38)
else
some (c,E,z,d,e,B,D,l,G,i,C,t,(-1:Int))
else
(Cv c E z d e B D l G i C t).bind λ(J,L)=>
if(Bi L 0)then
some (c,E,z,d,e,B,D,l,G,i,C,t,L)
else
(Ck ([]:LB) i).bind λM=>
(Ck M J).bind λN=>
(
(
(
(Ah l G).bind λO=>
(
(Bk E O (Ac E)).bind λP=>
some (c,P,z,d,e,B,D,l,(Ae G 1),N,C,t,0)))))
def Bt:=Bc
def Fz:Ls:=
(Eb z d e B D c).bind λj=>
some (c,E,z,d,e,B,D,l,G,i,C,t,j)
def Ga:=Fz
def Br(j3:LB->LB->Int->Int->Int->Int->Int->LI->Int->LB->Bool->Int->Ls)(j4:LB->LB->Int->Int->Int->Int->Int->LI->Int->LB->Bool->Int->Ls)(g a:LB)(m n o p u:Int)(b:LI)(f:Int)(v:LB)(h:Bool)(k:Int):Ls:=
if(geq m 0)then
(Wm a).bind λ(ac,ae,w,af,ag,y,ai)=>
if(Bi ai 0)then
some (g,a,m,n,o,p,u,b,f,v,h,k,ai)
else
(
(Bk a ac (Ac a)).bind λad=>
(
j3 g ad ae w af ag y b f v h k))
else
j4 g a m n o p u b f v h k
def Ag:=Br Ga Bt
def Up:Option Bool:=
(Ag c E z d e B D l G i C t).bind λ(j,A,F,I,J,L,M,N,O,P,R,T,U)=>
some (geq U (-1:Int))
def Ch:=Up
def Od(j4:LB->LB->Int->Int->Int->Int->Int->LI->Int->LB->Bool->Int->Option Bool)(o p:LB)(b f g h k:Int)(m:LI)(a:Int)(n:LB)(u:Bool)(v:Int):Option Bool:=
if(geq (Ac m) 0)then
if((Bi a 0)||(Dv (Ac n) 0))then
some false
else
j4 o p b f g h k m a n u v
else
(Hm m).bind λy=>
if(Bi y 0)then
if((true||(Cj a 0))||(Dv a (Ac m)))then
some false
else
(Vh b f g h k a).bind λaa=>
if(Dv (Ac n) aa)then
some false
else
j4 o p b f g h k m a n u v
else
(Gc b f g h k).bind λab=>
if(((Bi (Ac m) (Ac ab))||(Cj a 0))||(Dv a (Ac m)))then
some false
else
(Vh b f g h k a).bind λac=>
if(Dv (Ac n) ac)then
some false
else
j4 o p b f g h k m a n u v
def Og:=Od Ch
def Um(j4:LB->LB->Int->Int->Int->Int->Int->LI->Int->LB->Bool->Int->Option Bool)(j3:LB->LB->Int->Int->Int->Int->Int->LI->Int->LB->Bool->Int->Option Bool)(o p:LB)(b f g h k:Int)(m:LI)(a:Int)(n:LB)(u:Bool)(v:Int):Option Bool:=
if((geq b 0)&&((geq f 0)&&((geq g 0)&&((geq h 0)&&((geq k 0)&&true)))))then
if(((Dv (Ac m) 0)||(Bi a 0))||(Dv (Ac n) 0))then
some false
else
j4 o p b f g h k m a n u v
else
(Kl b f g h k).bind λad=>
if(Bi ad 0)then
some false
else
(Eb b f g h k o).bind λae=>
if(Bi ae 0)then
some false
else
j3 o p b f g h k m a n u v
def Kj:=Um Ch Og
def Wl:Option Bool:=
some (((((((geq z 4)||(geq z 12))||(geq z 16))||(geq z 22))||(geq z 24))||(geq z 26))||(geq z 38))
def De:Option Int:=
if(Dv (Ac c) 64)then
some 8
else
if((geq t 0)&&(!C))then
(Kj c E z d e B D l G i C t).bind λj=>
if(!j)then
some 8
else
some 0
else
if((geq (Ac E) 0)&&(geq (Ac l) 0))then
if((!(((geq z 0)&&((geq d 0)&&((geq e 0)&&((geq B 0)&&((geq D 0)&&true)))))&&(geq G 0)))||(Dv (Ac i) 12000))then
some 8
else
if(Bi t 0)then
if C then
some 8
else
(Wl t).bind λA=>
if(!A)then
some 8
else
some 0
else
some 0
else
if((!(false&&(geq G 0)))||(Dv (Ac i) 12000))then
some 8
else
if(Bi t 0)then
if C then
some 8
else
(Wl t).bind λF=>
if(!F)then
some 8
else
some 0
else
some 0
abbrev Yh:=Option (LB×LB×Int×Int×Int×Int×Int×LI×Int×LB×Bool×Int)
def Ph:Yh:=
(Ck ([]:LI) l).bind λi=>
some (c,V,z,d,e,B,D,i,G,Ayu,C,t)
def Pj:=Ph
def Pe(j2:LB->Int->Int->Int->Int->Int->LI->Int->Bool->Int->LB->LB->Yh)(f w:LB)(g h k m n:Int)(o:LI)(p:Int)(y:LB)(u:Bool)(v:Int):Yh:=
(
(
(
(Ck ([]:LB) w).bind λa=>
(
(Ck ([]:LB) y).bind λb=>
j2 f g h k m n o p u v a b))))
def Ld:=Pe Pj
def Pr(f g:LB)(h k m n o:Int)(p:LI)(u:Int)(v:LB)(b:Bool)(a:Int):Option Int:=
if(Bi a 0)then
some a
else
if b then
some 36
else
some 0
def Vm(a m:LB)(n o p u v:Int)(w:LI)(y:Int)(b:LB)(aa:Bool)(ab:Int):Option (LB×LB×Int×Int×Int×Int×Int×LI×Int×LB×Bool×Int):=
(
(
(Ck ([]:LB) b).bind λf=>
some (a,([]:LB),0,0,0,0,0,([]:LI),0,f,false,0)))
def Md:Option (LB×LB×Int×Int×Int×Int×Int×LI×Int×LB×Bool×Int×Int):=
(Vm c E z d e B D l G i C t).bind λ(j,A,F,I,L,M,N,O,P,R,T,U)=>
some (j,A,F,I,L,M,N,O,P,R,T,J,J)
abbrev Ma:=Option (LB×LB×Int×Int×Int×Int×Int×LI×Int×LB×Bool×Int×Int)
def Bs(bk3:LB->LB->Int->Int->Int->Int->Int->LI->Int->LB->Bool->Int->Ma)(a b:LB)(f g h k m:Int)(n:LI)(o:Int)(p:LB)(u:Bool)(v:Int):Ma:=
(Ag a b f g h k m n o p u v).bind λ(bb,bc,bd,be,bf,bg,bh,bi,bj,bk,bl,bm,w)=>
if(geq w (-1:Int))then
(Ld a b f g h k m n o p u v).bind λ(bn,bp,bq,br,bs,bt,bu,bv,bw,bx,bz,da)=>
some (bn,bp,bq,br,bs,bt,bu,bv,bw,bx,bz,da,0)
else
if(Bi w 0)then
(Md a b f g h k m n o p u v w).bind λ(db,dc,dd,de,df,dg,dh,di,dj,dk,dl,dm,dn)=>
some (db,dc,dd,de,df,dg,dh,di,dj,dk,dl,dm,dn)
else
bk3 bb bc bd be bf bg bh bi bj bk bl bm
def Ax:Nat->LB->LB->Int->Int->Int->Int->Int->LI->Int->LB->Bool->Int->Ma
|0,_,_,_,_,_,_,_,_,_,_,_,_=>none
|q+1,a,b,f,g,h,k,m,n,o,p,u,v=>Bs (Ax q) a b f g h k m n o p u v
def fH:=Ax Ar
def Ps(j3:LB->LB->Int->Int->Int->Int->Int->LI->Int->LB->Bool->Int->Ma)(al am:LB)(an ao ap aq ar:Int)(au:LI)(av:Int)(aw:LB)(ax:Bool)(ay:Int)(dp:LB):Ma:=
(De al am an ao ap aq ar au av aw ax ay).bind λaz=>
if(Bi az 0)then
some (([]:LB),([]:LB),0,0,0,0,0,([]:LI),0,([]:LB),false,0,az)
else
(Ld al am an ao ap aq ar au av aw ax ay).bind λ(y,aa,ab,ac,ad,ae,af,ag,ah,ai,aj,ak)=>
(Pr y aa ab ac ad ae af ag ah ai aj ak).bind λba=>
if(Bi ba 0)then
some (y,aa,ab,ac,ad,ae,af,ag,ah,ai,aj,ak,ba)
else
(Ck aa dp).bind λdq=>
j3 y dq ab ac ad ae af ag ah ai aj ak
def Ig:=Ps fH
abbrev Gv:=Option (Int×Int)
def Wy:Gv:=
if(Cj (Ac c) J)then
some (0,24)
else
if(i==V)then
(Bk c (Al (Ac c) J) (Ae (Al (Ac c) J) 32)).bind λe=>
(Uz z d).bind λj=>
if(e !=j)then
some (0,12)
else
some (J,0)
else
some (J,0)
def Wv:=Wy
def Vw(j6:LB->Int->Int->LB->LB->Int->Gv)(a:LB)(f g:Int)(b h:LB):Gv:=
if(b==h)then
j6 a f g b h (Ae (Ae 32 f) 32)
else
j6 a f g b h (Ae 32 f)
def Wj:=Vw Wv
def LJ(j5:LB->Int->Int->LB->LB->Gv)(a:LB):Gv:=
(Bk a (Al (Ac a) 32) (Ac a)).bind λb=>
(Us b).bind λ(f,g,n)=>
if(!n)then
some (0,12)
else
(Lk f g true).bind λh=>
(
if(!(b==h))then
(Lk f g false).bind λm=>
if(b !=m)then
some (0,12)
else
j5 a f g b h
else
j5 a f g b h)
def LN:=LJ Wj
def JQ(j4:LB->Gv)(a:LB):Gv:=
if(Cj (Ac a) 32)then
some (0,6)
else
(Bk a (Al (Ac a) 32) (Ae (Al (Ac a) 32) 8)).bind λu=>
if(u !=([65,80,69,84,65,71,69,88]:LB))then
some (0,6)
else
j4 a
def DV:=JQ LN
abbrev Fk:=Option (Int×Int)
def ZN:Fk:=
some (z,0)
def ZD:=ZN
def GK(j6:Int->Fk)(Pa:LB->Int->Fk)(b:LB)(a:Int):Fk:=
if(Dv (Ac b) 0)then
(DV b).bind λ(g,h)=>
if(Bi h 0)then
some (0,38)
else
(Bk b 0 (Al (Ac b) g)).bind λk=>
Pa k (Ae a 1)
else
j6 a
def Mm:Nat->LB->Int->Fk
|0,_,_=>none
|q+1,b,a=>GK ZD (Mm q) b a
def aH:=Mm Ar
def DL(j4:LB->Int->Fk)(f:LB):Fk:=
if(Dv (Ac f) 4000)then
some (0,38)
else
j4 f 0
def Yk:=DL aH
def Qj(p a:LB)(g u v w y:Int)(b:LI)(h:Int)(aa:LB)(ab:Bool)(ac:Int):Option Int:=
if(geq g 0)then
(Td a).bind λ(k,f)=>
if(Bi f 0)then
some f
else
(Bk a k (Ac a)).bind λm=>
(Vi m).bind λ(ad,ae,af,ag,ah,n)=>
some n
else
if((geq (Ac b) 0)||(Cj h (Ac b)))then
some 24
else
(Yk a).bind λ(ai,o)=>
if(Bi o 0)then
some 38
else
some 0
def dW:Option Int:=
some z
def dL:=dW
def dE(j6:Int->Option Int)(Pa:Int->Int->Option Int)(b h k m n o f:Int)(g:LI)(a p:Int):Option Int:=
if(Cj p b)then
(Ah g p).bind λu=>
Pa (Ae a u) (Ae p 1)
else
j6 a
def HK:Nat->Int->Int->Option Int
|0,_,_=>none
|c+1,i,j=>dE dL (HK c) z d e B D G t p8 i j
def cW b h k m n o f g:=HK b h k m n o f g Ar
def dK(j4:Int->Int->Int->Int->Int->Int->Int->LI->Int->Int->Option Int)(h k m n o f:Int)(g:LI)(b:Int):Option Int:=
j4 b h k m n o f g f 0
def mA:=dK cW
abbrev BD:=Option (LB×Int)
def kF(u:LX)(n o g f h k p:Int)(b:LI):BD:=
if(Bi n 0)then
some (([]:LB),n)
else
(Rz f u).bind λ(af,ai)=>
some (af,0)
def jY:=kF
def jW(j2:LX->Int->Int->Int->Int->Int->Int->Int->LI->BD)(v y:LB)(o g f h k p:Int)(b:LI)(a:Int):BD:=
(mA o g f h k p b a).bind λm=>
(Ah b a).bind λaa=>
if(Cj (Al (Ac v) m) aa)then
some (([]:LB),24)
else
(Uw y).bind λ(ab,ag)=>
(Ah b a).bind λac=>
(Bk v m (Ae m ac)).bind λad=>
(
(Nq h k).bind λw=>
(Ah w a).bind λ_=>
(Ah w a).bind λae=>
(Fa g f ab ae ad).bind λ(u,n)=>
j2 u n o g f h k p b)
def sQ:=jW jY
end Go.Pl
