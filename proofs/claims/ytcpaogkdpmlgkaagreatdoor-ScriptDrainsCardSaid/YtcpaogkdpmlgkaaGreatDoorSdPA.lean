/- A part of a proof (see the text that ends in Proof). No conditions. -/
import Derived.Test.YtcpaogkdpmlgkaaGreatDoorSdBA
set_option linter.unusedVariables false
namespace Go.Pl
open Go Go.Lv
abbrev LB:=List UInt8
abbrev LI:=List Int
abbrev LX:=List Int32
abbrev LU:=List UInt32
abbrev LQ:=List UInt64
variable(I:LI)(c C:LB)(z d e B D:Int)(F:LI)(G:Int)(i:LB)(A:Bool)(l V:Int)(X:LB)(j:LX)(U:List LB)(l7:LB)(r9:Bool)(J p8:Int)(Ay0:List LB)(Ayq Ay1 Ay2:Int)(w9:LB)(Ayd:Bool)(Aye:Int)(Ayr:LB)(N:LX)(Ays:LB)(Ay3:Bool)(o8:Int)(Ayf:LB)(Ayx:List LB)(Ayk:LI)(t:UInt64)(O:UInt32)(P:UInt64)(p9:LB)(Ax4:UInt64->Option UInt64)(Ax5:UInt64->Int->Option UInt64)(T:Int)(Ayg:LB)(Ayt:Int)(l9:UInt64)(Z:Int)(q8:Option Int)(Ax6:Int->Option Int)(E Ayl:Int32)(Ax1:LX)(L:Int)(l5 l6:LX)(Ayh:Int32)(Ayi Aym:UInt64)(Aya:Int->Int->Option Int)(Ayb:LI)(o9 o7:Int)(M:List (UInt8×Int×Unit))(Ax9:Bool)(Ayj:List (Int×LB×Unit))(Ay4:Int->Option Int)(Ayu:LI)(Ax7 Ayo:Int)(Ax8:UInt8)(Ayy:UInt64)(Y:Int)(R:LU)(Ax2 Ax3:Int)(Ayp:LX)(Ay5:Bool)(Ay6:LQ)(Ay7:Int->LI->Option (LI))(Ayz:LI)(Ayv:UInt64)(q9:Bool->Option Int)(Ayc:Bool)(Ayn:Int)(Ayw:List LI)
def TF:Option (Int×Int):=
some (1,8)
def Zv:Option Bool:=
if Ay5 then
some ((Ks Y 0)&&(pB Y 100000))
else
if(geq Ax8 3)then
some (geq Y 0)
else
some false
def bW:=Zv
def bH(j2:UInt8->Int->Bool->Option Bool)(a:UInt8)(b:Int):Option Bool:=
if(geq a 1)then
j2 a b (geq a 1)
else
j2 a b (geq a 2)
def aH:=bH bW
def ES:Option Bool:=
(aH Ax8 Y).bind λz=>
some (!z)
def rL:Option Int:=
some 0
def sW:=rL
def sZ:Option Int:=
if Ax9 then
some 2
else
q8
def tE:=sZ sW
def rR:Option Int:=
q9 Ayc
def WZ:=rR tE
def sI:Option Int:=
q9 (Ks (-1:Int) (0:Int))
def XF:=sI WZ
def WY(Alp:Int->Option Int)(a:List (UInt8×Int×Unit))(b:Int):Option Int:=
Alp (Ae b 1)
def YQ Alp:=WY Alp
def XT(j18:Bool->Option Int)(j15:Int->Option Int)(a:List (UInt8×Int×Unit))(b:Int)(g:Bool):Option Int:=
if g then
j18 (Ks b 0)
else
j15 b
def HS Alp a:=XT WZ (YQ Alp a) a
def Xj(j14:Int->Bool->Option Int)(j17:Option Int)(a:List (UInt8×Int×Unit))(b:Int):Option Int:=
if(Ck b (Ac a))then
(Ah a b).bind λh=>
(ES h.1 h.2.1).bind λg=>
j14 b g
else
j17
def Mx:Nat->Int->Option Int
|0,_=>none
|z+1,c=>Xj (HS (Mx z) M) XF M c
def sN a:=Mx a Aq
def MP(j11:(List (UInt8×Int×Unit))->Int->Option Int)(a:List (UInt8×Int×Unit)):Option Int:=
if(Du (Ac a) 200)then
some 4
else
j11 a 0
def EM:=MP sN
def Rs:Option (Int×Int):=
if((Ck z 1)||(Du z 1048576))then
some (0,2)
else
some ((oK 1 (Cq (Ce 256 z) 245)),0)
abbrev VP:=Option (Int32×Int32×Int)
def yF:VP:=
if A then
(Jd (Ks (Al z 1) 0)).bind λ_=>
some ((nW (Eh (1:Int32) (GI.toZ (Al z 1)).toNat)),(Al (Eh (1:Int32) (GI.toZ (Al z 1)).toNat) 1),0)
else
some (0,0,2)
def E6:=yF
def zJ(j2:Int->Bool->VP)(a:Int):VP:=
if(geq a 8)then
j2 a (geq a 8)
else
if(geq a 16)then
j2 a (geq a 16)
else
j2 a (geq a 24)
def CN:=zJ E6
def Tr:Option Int:=
(CN d).bind λ(c,e,i)=>
if(((Bi i 0)||(Ck z 1))||(Du z 6))then
some 2
else
some 0
def VO:Option (Int×Bool):=
(Rs e).bind λ(c,j)=>
(Tr z d).bind λl=>
some (c,(((geq l 0)&&(geq j 0))&&(pB (Ac i) 64)))
def uV:Option (Int×Int×Int×LB×LB×LX×(List LB)×LB×Bool×Int×Int):=
(VO z d e i).bind λ(c,j)=>
if(!j)then
some (0,0,0,([]:LB),([]:LB),([]:LX),([]:List LB),([]:LB),false,0,2)
else
some (z,d,e,i,([]:LB),([]:LX),([]:List LB),([]:LB),false,0,0)
def QE:Option Int:=
some (Cq (Ce z d) 8)
def D8:Option Int:=
some 0
def fX:=D8
def DG:Option Int:=
if(Ck L (Ac Ax1))then
(Ah Ax1 L).bind λz=>
if((Ck z E)||(Du z Ayl))then
some 16
else
Ax6 (Ae L 1)
else
q8
def Qs:Nat->Int->Option Int
|0,_=>none
|z+1,c=>DG fX (Qs z) E Ayl Ax1 c
def xK b f a:=Qs b f a Aq
def RJ(j4:Int32->Int32->LX->Int->Option Int)(m:Int)(a:LX):Option Int:=
(CN m).bind λ(b,f,k)=>
if(Bi k 0)then
some k
else
if(Du (Ac a) 4000)then
some 4
else
j4 b f a 0
def Wd:=RJ xK
def JA(a h k:Int)(m n:LB)(b:LX)(f:List LB)(o:LB)(p:Bool)(u g:Int):Option Int:=
(Jd (Bi a 0)).bind λ_=>
some (Ae (Ce (Ac f) g) (Cq (Ac b) a))
def aS(a g h:Int)(k m:LB)(n:LX)(o:List LB)(p:LB)(u:Bool)(v b f:Int):Option Bool:=
some ((pB b 1000)&&(pB (Ce f a) 4000))
def jR:Option Bool:=
some (!A)
def jT:=jR
def jE(j24:Bool->Option Bool)(y:Bool):Option Bool:=
j24 y
def OC:=jE jT
def jP(j23:Bool->Option Bool):Option Bool:=
j23 (Ks (-1:Int) (0:Int))
def NR:=jP OC
def jQ(Hn:Int->Option Bool)(b:List LB)(f a h:Int):Option Bool:=
Hn (Ae h 1)
def jL Hn:=jQ Hn
def jX(j23:Bool->Option Bool)(j20:Int->Option Bool)(b:List LB)(f a h:Int)(w:LB):Option Bool:=
if((Ck (Ac w) 5)||(Du (Ac w) (Ae (Cq (Ae (Ce (Ce 81 f) a) 7) 8) 4)))then
j23 (Ks h 0)
else
j20 h
def NH Hn b f a:=jX OC (jL Hn b f a) b f a
def NU(j19:Int->LB->Option Bool)(j22:Option Bool)(b:List LB)(f a h:Int):Option Bool:=
if(Ck h (Ac b))then
(Ah b h).bind λw=>
j19 h w
else
j22
def Yo:Nat->Int->Option Bool
|0,_=>none
|z+1,c=>NU (NH (Yo z) U J p8) NR U J p8 c
def jD b f a:=Yo b f a Aq
def NG(j16:(List LB)->Int->Int->Int->Option Bool)(f a k o:Int)(p m:LB)(g:LX)(b:List LB)(n:LB)(u:Bool)(v:Int):Option Bool:=
j16 b f a 0
def jY:=NG jD
def NM(j15:Int->Int->Int->Int->LB->LB->LX-> (List LB)->LB->Bool->Int->Option Bool)(f a k o:Int)(p m:LB)(g:LX)(b:List LB)(n:LB)(u:Bool)(v aa:Int):Option Bool:=
(JA a k o p m g b n u v f).bind λab=>
(aS a k o p m g b n u v aa ab).bind λac=>
if(!ac)then
some false
else
j15 f a k o p m g b n u v
def jI:=NM jY
def NW(j14:Int->Int->Int->Int->LB->LB->LX-> (List LB)->LB->Bool->Int->Int->Option Bool)(f a k o:Int)(p m:LB)(g:LX)(b:List LB)(n:LB)(u:Bool)(v:Int):Option Bool:=
(Wd k g).bind λad=>
if(Bi ad 0)then
some false
else
if(Du (Ac g) 0)then
j14 f a k o p m g b n u v (Ae (Ac b) 1)
else
j14 f a k o p m g b n u v (Ac b)
def NP:=NW jI
def QF(j13:Int->Int->Int->Int->LB->LB->LX-> (List LB)->LB->Bool->Int->Option Bool)(a k o:Int)(p m:LB)(g:LX)(b:List LB)(n:LB)(u:Bool)(v f:Int):Option Bool:=
if(Du (Ac n) 0)then
if true then
if true then
if(true||(Du (Ac b) 1000))then
some false
else
j13 f a k o p m g b n u v
else
(Jd (Bi a 0)).bind λ_=>
if((Ks (Cq (Ac g) a) f)||(Du (Ac b) 1000))then
some false
else
j13 f a k o p m g b n u v
else
(Jd (Bi a 0)).bind λ_=>
if(Bi (Ho (Ac g) a) 0)then
if(true||(Du (Ac b) 1000))then
some false
else
j13 f a k o p m g b n u v
else
(Jd (Bi a 0)).bind λ_=>
if((Ks (Cq (Ac g) a) f)||(Du (Ac b) 1000))then
some false
else
j13 f a k o p m g b n u v
else
(QE a k).bind λae=>
if(Ks (Ac m) ae)then
if true then
if(true||(Du (Ac b) 1000))then
some false
else
j13 f a k o p m g b n u v
else
(Jd (Bi a 0)).bind λ_=>
if((Ks (Cq (Ac g) a) f)||(Du (Ac b) 1000))then
some false
else
j13 f a k o p m g b n u v
else
(Jd (Bi a 0)).bind λ_=>
if(Bi (Ho (Ac g) a) 0)then
if(true||(Du (Ac b) 1000))then
some false
else
j13 f a k o p m g b n u v
else
(Jd (Bi a 0)).bind λ_=>
if((Ks (Cq (Ac g) a) f)||(Du (Ac b) 1000))then
some false
else
j13 f a k o p m g b n u v
def bQ:=QF NP
def VE:Option Int:=
(VO z d e i).bind λ(c,l)=>
if(!l)then
some 8
else
if(Bi J 0)then
if(!(((((geq J 18)||(geq J 24))&&(!r9))&&(geq (Ae (Ae (Ac X) (Ac j)) (Ac U)) 0))&&(geq (Ac l7) 0)))then
some 8
else
some 0
else
if r9 then
if(!((geq (Ae (Ae (Ac X) (Ac j)) (Ac U)) 0)&&(pB (Ac l7) 100000)))then
some 8
else
some 0
else
(bQ z d e i X j U l7 r9 J c).bind λt=>
if(!t)then
some 8
else
some 0
def Cw:Option (LB):=
(
(Cj ([]:LB) c).bind λz=>
some z)
def Dy:Option (LX):=
(
(Cj ([]:LX) j).bind λz=>
some z)
abbrev Ir:=Option (Int×Int×Int×LB×LB×LX×(List LB)×LB×Bool×Int)
def vY(b f g:Int)(h:LB)(a:List LB)(k:Bool)(m:Int)(u:List LB)(n:LB)(o:LX)(p:LB):Ir:=
some (b,f,g,h,n,o,u,p,k,m)
def bY:=vY
def cF(j8:Int->Int->Int->LB-> (List LB)->Bool->Int-> (List LB)->LB->LX->LB->Ir)(H2:Int-> (List LB)->Ir)(w a:List LB)(b f g:Int)(h:LB)(k:Bool)(m:Int)(n:LB)(o:LX)(p:LB)(v:Int)(u:List LB):Ir:=
if(Ck v (Ac (gR w a)))then
(Ah u v).bind λ_=>
(Ah u v).bind λy=>
(Cw y).bind λaa=>
(Ah u v).bind λ_=>
(Mi u v aa).bind λab=>
H2 (Ae v 1) ab
else
j8 b f g h a k m u n o p
def NC:Nat->Int-> (List LB)->Ir
|0,_,_=>none
|z+1,c,d=>cF bY (NC z) U Ay0 Ayq Ay1 Ay2 w9 Ayd Aye Ayr N Ays c d
def vQ w a b f g h k m n o p:=NC w a b f g h k m n o p Aq
def cA(j6:(List LB)-> (List LB)->Int->Int->Int->LB->Bool->Int->LB->LX->LB->Int-> (List LB)->Ir)(b f g:Int)(h:LB)(a:List LB)(k:Bool)(m:Int)(n:LB)(o:LX)(p:LB):Ir:=
(mkI (Ac a) ([]:LB)).bind λw=>
(Jd (geq (Ac a) (Ac a))).bind λ_=>
j6 w a b f g h k m n o p 0 (gR w a)
def vS:=cA vQ
def bK(j5:Int->Int->Int->LB-> (List LB)->Bool->Int->LB->LX->LB->Ir)(b f g:Int)(h ac:LB)(ad:LX)(a:List LB)(ae:LB)(k:Bool)(m:Int):Ir:=
(Cw ac).bind λn=>
(Dy ad).bind λo=>
(Cw ae).bind λp=>
j5 b f g h a k m n o p
def aD:=bK vS
abbrev MJ:=Option (Int×Int×Int×LB×LB×LX×(List LB)×LB×Bool×Int×Int×Int)
def rD:MJ:=
(aD d e B i X j U l7 r9 J).bind λ(c,l,t,A,C,D,E,F,G,I)=>
some (c,l,t,A,C,D,E,F,G,I,z,p8)
def tO:=rD
def qW(j2:Int->Int->Int->Int->LB->LB->LX-> (List LB)->LB->Bool->Int->Int->MJ)(g h b:Int)(k m:LB)(n:LX)(o:List LB)(p:LB)(f:Bool)(a:Int):MJ:=
(VE g h b k m n o p f a).bind λv=>
if(Bi v 0)then
some (0,0,0,([]:LB),([]:LB),([]:LX),([]:List LB),([]:LB),false,0,0,v)
else
(Rs b).bind λ(u,aj)=>
if(Bi a 0)then
j2 u g h b k m n o p f a a
else
if f then
j2 u g h b k m n o p f a 36
else
j2 u g h b k m n o p f a aj
def VR:=qW tO
abbrev Cn:=Option (LX×Int)
def pP:Cn:=
some (j,0)
def TW:=pP
def oB(Hn:Int->LX->Cn)(a:Int)(b:LB)(f:Int)(o:LX):Cn:=
Hn (Ae f (Cq a 8)) o
def DT Hn:=oB Hn
def nG(j28:Int->LX->Cn)(a:Int)(b:LB)(f:Int)(k:Int32)(g:LX):Cn:=
(Jd (Ks (Al 32 a) 0)).bind λ_=>
(Jd (Ks (Al 32 a) 0)).bind λ_=>
(Cj g ([(Ct (Eh k (GI.toZ (Al 32 a)).toNat) (GI.toZ (Al 32 a)).toNat)]:LX)).bind λp=>
j28 f p
def TV Hn a b:=nG (DT Hn a b) a b
def TP(j27:Int->Int32->LX->Cn)(Avm:Int32->Int->Cn)(a:Int)(b:LB)(f:Int)(g:LX)(k:Int32)(h:Int):Cn:=
if(Ck h (Cq a 8))then
(Ah b (Ae f h)).bind λm=>
(Jd (Ks (Ce 8 h) 0)).bind λ_=>
Avm (uW k (Eh (Ad m:Int32) (GI.toZ (Ce 8 h)).toNat)) (Ae h 1)
else
j27 f k g
def FJ(Hn:Int->LX->Cn)(a:Int)(b:LB)(f:Int)(g:LX):Nat->Int32->Int->Cn
|0,_,_=>none
|q+1,k,h=>TP (TV Hn a b) (FJ Hn a b f g q) a b f g k h
def UK Hn a b f g:=FJ Hn a b f g Aq
def UT(j28:Int->LX->Cn)(j25:Int->LX->Int32->Int->Cn)(j30:LX->Cn)(a:Int)(b:LB)(f:Int)(g:LX):Cn:=
if(Ck f (Ac b))then
if(geq a 8)then
(Ah b f).bind λm=>
(Cj g ([(Al (Ad m:Int32) 128)]:LX)).bind λu=>
j28 f u
else
j25 f g 0 0
else
j30 g
def Vo:Nat->Int->LX->Cn
|0,_,_=>none
|c+1,d,e=>UT (DT (Vo c) z i) (UK (Vo c) z i) TW z i d e
def qE a b:=Vo a b Aq
def XC(j16:Int->LB->Int->LX->Cn)(a:Int)(b:LB):Cn:=
(CN a).bind λ(v,w,n)=>
if(Bi n 0)then
some (([]:LX),n)
else
(Jd (Bi (Cq a 8) 0)).bind λ_=>
if(Bi (Ho (Ac b) (Cq a 8)) 0)then
some (([]:LX),12)
else
(Jd (Bi (Cq a 8) 0)).bind λ_=>
if(Du (Cq (Ac b) (Cq a 8)) 4000)then
some (([]:LX),4)
else
j16 a b 0 ([]:LX)
def kJ:=XC qE
abbrev Cf:=Option (UInt64×Int)
def fL:Cf:=
some (t,0)
def fN:=fL
def eA(j30:UInt64->Cf)(h b:UInt64)(a:LB)(f:LQ):Cf:=
j30 h
def RI:=eA fN
def DZ(j29:UInt64->UInt64->LB->LQ->Cf)(bC:UInt64->Int->Cf)(a:LB)(b:UInt64)(f:LQ)(h:UInt64)(m:Int):Cf:=
if(Ck m (Ac a))then
(Ah a m).bind λp=>
Option.bind (Ah f (GI.toZ (Yq (Ad (Ct h (GI.toZ (56:UInt64)).toNat):UInt8) p))) λ_=>
Option.bind (Ah f (GI.toZ (Yq (Ad (Ct h (GI.toZ (56:UInt64)).toNat):UInt8) p))) λu=>
bC (Yq (Eh h (GI.toZ (8:UInt64)).toNat) u) (Ae m 1)
else
j29 h b a f
def Qx:Nat->UInt64->Int->Cf
|0,_,_=>none
|z+1,d,e=>DZ RI (Qx z) c t Ay6 d e
def QG a b f:=Qx a b f Aq
def PW(j27:LB->UInt64->LQ->UInt64->Int->Cf)(b:UInt64)(a:LB)(f:LQ):Cf:=
j27 a b f b 0
def RD:=PW QG
def dU(Hn:Int->LQ->Cf)(b:UInt64)(a:LB)(g:Int)(o:LQ):Cf:=
Hn (Ae g 1) o
def eP Hn:=dU Hn
def eD(j24:Int->LQ->Cf)(b:UInt64)(a:LB)(g:Int)(k:UInt64)(f:LQ):Cf:=
(Ah f g).bind λ_=>
(Mi f g k).bind λo=>
j24 g o
def DN Hn b a:=eD (eP Hn b a) b a
def CZ(j23:Int->UInt64->LQ->Cf)(Arz:UInt64->Int->Cf)(b:UInt64)(a:LB)(g:Int)(f:LQ)(k:UInt64)(n:Int):Cf:=
if(Ck n 8)then
Arz (Yq (Eh k (GI.toZ (1:UInt64)).toNat) (Ce 4823603603198064275 (Ct k (GI.toZ (63:UInt64)).toNat))) (Ae n 1)
else
j23 g k f
def Rf(Hn:Int->LQ->Cf)(b:UInt64)(a:LB)(g:Int)(f:LQ):Nat->UInt64->Int->Cf
|0,_,_=>none
|q+1,k,n=>CZ (DN Hn b a) (Rf Hn b a g f q) b a g f k n
def SC Hn b a g f:=Rf Hn b a g f Aq
def EC(j21:Int->LQ->UInt64->Int->Cf)(j26:UInt64->LB->LQ->Cf)(b:UInt64)(a:LB)(g:Int)(f:LQ):Cf:=
if(Ck g 256)then
j21 g f (Eh (Ad g:UInt64) (GI.toZ (56:UInt64)).toNat) 0
else
j26 b a f
def Nu:Nat->Int->LQ->Cf
|0,_,_=>none
|z+1,c,d=>EC (SC (Nu z) t p9) RD t p9 c d
def fC b a:=Nu b a Aq
def VQ(j16:UInt64->LB->Int->LQ->Cf)(b:UInt64)(a:LB):Cf:=
if(Du (Ac a) 100000)then
some (0,4)
else
j16 b a 0 (List.replicate 256 (0:UInt64))
def aM:=VQ fC
def WW:Option (UInt64×Int):=
(aM 0 c).bind λ(z,d)=>
some (z,d)
def Acq:Option (LX):=
some j
def yG:=Acq
def bA(j6:LX->Option (LX))(Qf:Int->LX->Option (LX))(f:UInt64)(a:Int)(b:LX):Option (LX):=
if(Ck a 8)then
(Jd (Ks (Ce 8 a) 0)).bind λ_=>
(Ah b a).bind λ_=>
(Mi b a (Ad (Ad (Ct f (GI.toZ (Ce 8 a)).toNat):Int8):Int32)).bind λg=>
Qf (Ae a 1) g
else
j6 b
def IM:Nat->Int->LX->Option (LX)
|0,_,_=>none
|z+1,c,d=>bA yG (IM z) t c d
def Acs f:=IM f Aq
def D0(j4:UInt64->Int->LX->Option (LX))(f:UInt64):Option (LX):=
j4 f 0 (List.replicate 16 (0:Int32))
def S3:=D0 Acs
def Tt:Option (LX×Int):=
if(Du (Ac c) 64)then
some (([(0:Int32),(0:Int32),(0:Int32),(0:Int32),(0:Int32),(0:Int32),(0:Int32),(0:Int32),(0:Int32),(0:Int32),(0:Int32),(0:Int32),(0:Int32),(0:Int32),(0:Int32),(0:Int32)]:LX),2)
else
(WW c).bind λ(z,d)=>
if(Bi d 0)then
some (([(0:Int32),(0:Int32),(0:Int32),(0:Int32),(0:Int32),(0:Int32),(0:Int32),(0:Int32),(0:Int32),(0:Int32),(0:Int32),(0:Int32),(0:Int32),(0:Int32),(0:Int32),(0:Int32)]:LX),d)
else
(S3 z).bind λe=>
some (e,0)
def kH:Option Int:=
(Tr z d).bind λc=>
if(Bi c 0)then
some c
else
(Wd d j).bind λe=>
if(Bi e 0)then
some e
else
if(geq (Ac j) 0)then
some 2
else
(Jd (Bi z 0)).bind λ_=>
if(Bi (Ho (Ac j) z) 0)then
some 2
else
some 0
def XN:Option Int:=
if((Ck z 1)||(Du z 6))then
some 2
else
if(Du (Ac j) 4000)then
some 4
else
(Jd (Bi z 0)).bind λ_=>
if(Bi (Ho (Ac j) z) 0)then
some 2
else
some 0
abbrev Jc:=Option (LX×Int)
def tu:Jc:=
some (j,0)
def tT:=tu
def jr(Zr:Int->LX->Jc)(b a:Int)(u:LX):Jc:=
Zr (Ae a b) u
def wh Zr:=jr Zr
def Aaa(j20:Int->LX->Jc)(b a:Int)(g:LX):Jc:=
if(Du (Al ((Ae a b)-a) 1) 0)then
(Jd (decide (0<= (Al ((Ae a b)-a) 1)/\ (Al ((Ae a b)-a) 1)<((Ae a b)-a)))).bind λ_=>
Option.bind (Jd (decide (0<= (Al (Al ((Ae a b)-a) 1) 1)/\ (Al (Al ((Ae a b)-a) 1) 1)<((Ae a b)-a)))) λ_=>
(Ah g (a+(Al ((Ae a b)-a) 1))).bind λk=>
(Ah g (a+(Al (Al ((Ae a b)-a) 1) 1))).bind λm=>
(Jd (decide (0<= (Al ((Ae a b)-a) 1)/\ (Al ((Ae a b)-a) 1)<((Ae a b)-a)))).bind λ_=>
(Mi g (a+(Al ((Ae a b)-a) 1)) (Al k (Cq m 2))).bind λn=>
j20 a n
else
j20 a g
def tV Zr b:=Aaa (wh Zr b) b
def tS(j19:Int->LX->Jc)(VX:Int->LX->Jc)(b a f:Int)(g:LX):Jc:=
if(Ck f (Al ((Ae a b)-a) 1))then
(Jd (decide (0<= (Ae f 1)/\ (Ae f 1)<((Ae a b)-a)))).bind λ_=>
(Jd (decide (0<=f/\f<((Ae a b)-a)))).bind λ_=>
(Ah g (a+(Ae f 1))).bind λk=>
(Ah g (a+f)).bind λm=>
(Jd (decide (0<=f/\f<((Ae a b)-a)))).bind λ_=>
(Mi g (a+f) (Al k m)).bind λn=>
VX (Ae f 1) n
else
j19 a g
def fW(Zr:Int->LX->Jc)(b a:Int):Nat->Int->LX->Jc
|0,_,_=>none
|q+1,f,g=>tS (tV Zr b) (fW Zr b a q) b a f g
def uG Zr b a:=fW Zr b a Aq
def uA(j17:Int->Int->LX->Jc)(j22:LX->Jc)(b a:Int)(h:LX):Jc:=
if(Ck a (Ac h))then
(aB (Ac h) a (Ae a b)).bind λ_=>
j17 a 0 h
else
j22 h
def gT:Nat->Int->LX->Jc
|0,_,_=>none
|c+1,d,e=>uA (uG (gT c) z) tT z d e
def jf b:=gT b Aq
def zF(j12:Int->Int->LX->Jc)(b:Int)(o:LX):Jc:=
(XN b o).bind λp=>
if(Bi p 0)then
some (([]:LX),p)
else
(Dy o).bind λv=>
j12 b 0 v
def Ae2:=zF jf
abbrev lX:=Option (Int×LX×LX×Int)
def zw:lX:=
if r9 then
some (10,j,(List.replicate 16 (0:Int32)),0)
else
if(geq z 16)then
some (9,j,(List.replicate 16 (0:Int32)),0)
else
some (0,(List.replicate 16 (0:Int32)),(List.replicate 16 (0:Int32)),2)
def oq:=zw
def uz(j2:Int->LX->Bool->lX)(a:Int)(b:LX):lX:=
if(geq a 8)then
j2 a b (geq a 8)
else
j2 a b (geq a 24)
def pM:=uz oq
def tM:Option (Int×Int32×Int×LX×LX×Int):=
(pM z j).bind λ(c,d,e,i)=>
if(Bi i 0)then
some (0,0,0,(List.replicate 16 (0:Int32)),(List.replicate 16 (0:Int32)),i)
else
some (z,0,c,d,e,0)
def Wc(a:Int)(k:Int32)(b:Int)(f m:LX):Option Int:=
(pM a f).bind λ(g,n,o,h)=>
if((Bi h 0)||(Bi g b))then
some 8
else
some 0
def fF:Option (Int×Int):=
if(geq z 8)then
some (4,0)
else
if(geq z 16)then
if(geq z 16)then
some (5,0)
else
some (0,2)
else
if(geq z 24)then
some (5,0)
else
some (0,2)
def SS:Option Int32:=
(Jd (Ks z 0)).bind λ_=>
(Jd (Ks z 0)).bind λ_=>
some (Ad (W7 (Al (Eh (Ad E:Int) (GI.toZ z).toNat) (Ad E:Int)) (GI.toZ z).toNat):Int32)
def We:Option (Int32×Int):=
(fF z).bind λ(c,d)=>
if(Bi d 0)then
some (0,d)
else
(SS c E).bind λe=>
some (e,0)
def IJ(a:Int)(b f:LX):Option Int:=
if((Bi a 9)&&(Bi a 10))then
some 8
else
some 0
abbrev So:=Option (Int32×Int)
def lD(h:Int32)(a:Int)(b f:LX):So:=
(Jd (Ks a 0)).bind λ_=>
some ((Ct h (GI.toZ a).toNat),0)
def VG:=lD
def JD(j6:Int32->Int->LX->LX->So)(Qf:Int32->Int->So)(b:LX)(a:Int)(f:LX)(h:Int32)(g:Int):So:=
if(Ck g 16)then
(Ah b g).bind λm=>
(Ah f g).bind λ_=>
(Ah f g).bind λn=>
Qf (Ae h (Ce m n)) (Ae g 1)
else
j6 h a b f
def Ts:Nat->Int32->Int->So
|0,_,_=>none
|z+1,c,d=>JD VG (Ts z) j J N c d
def kT b a f:=Ts b a f Aq
def VD(j4:LX->Int->LX->Int32->Int->So)(a:Int)(b f:LX):So:=
(IJ a b f).bind λk=>
if(Bi k 0)then
some (0,k)
else
(Jd (Ks (Al a 1) 0)).bind λ_=>
j4 b a f (Eh (1:Int32) (GI.toZ (Al a 1)).toNat) 0
def RE:=VD kT
def WR:Option Int32:=
if(geq z 0)then
some 4
else
if(Ck z 4)then
some 2
else
some 1
abbrev Rr:=Option (Int×LX×LX×Int)
def J7:Rr:=
some (z,j,N,0)
def kU:=J7
def JE(j6:Int->LX->LX->Rr)(Qf:Int->LX->Rr)(h:Int32)(f:LX)(g a:Int)(b:LX):Rr:=
if(Ck a 16)then
(Ah f a).bind λm=>
if(geq m 0)then
Qf (Ae a 1) b
else
if((Ck m 0)==(Ck h 0))then
(Ah b a).bind λ_=>
(Ah b a).bind λo=>
(WR a).bind λp=>
(Ah b a).bind λ_=>
(Mi b a (Ae o p)).bind λu=>
Qf (Ae a 1) u
else
(Ah b a).bind λ_=>
(Ah b a).bind λv=>
(WR a).bind λw=>
(Ah b a).bind λ_=>
(Mi b a (Al v w)).bind λy=>
Qf (Ae a 1) y
else
j6 g b f
def Tm:Nat->Int->LX->Rr
|0,_,_=>none
|z+1,c,d=>JE kU (Tm z) E Ax1 L c d
def I7 h f g:=Tm h f g Aq
def VN(j4:Int32->LX->Int->Int->LX->Rr)(g:Int)(k f:LX)(h:Int32):Rr:=
(IJ g k f).bind λn=>
if(Bi n 0)then
some (0,(List.replicate 16 (0:Int32)),(List.replicate 16 (0:Int32)),n)
else
if(geq h 0)then
some (g,k,f,0)
else
j4 h f g 0 k
def bB:=VN I7
abbrev gL:=Option (Int×LX×LX×Int)
def nV:gL:=
(Ah (Qo l6 1 ((16:Int)-(1:Int)) (KT l6 0 ((16:Int)-(0:Int)))) 0).bind λ_=>
(Mi (Qo l6 1 ((16:Int)-(1:Int)) (KT l6 0 ((16:Int)-(0:Int)))) 0 E).bind λz=>
some (L,l5,z,0)
def aF:=nV
def OR(j2:Int32->Int->LX->LX->gL)(b:Int)(f a:LX)(g:Int32):gL:=
(IJ b f a).bind λh=>
if(Bi h 0)then
some (0,(List.replicate 16 (0:Int32)),(List.replicate 16 (0:Int32)),h)
else
(
(aB 16 1 16).bind λ_=>
(aB 16 0 16).bind λ_=>
j2 g b f a)
def iY:=OR aF
def YZ:Option (Int×LX×LX):=
(bB z j N Ayl).bind λ(c,d,e,i)=>
(iY c d e E).bind λ(l,t,A,B)=>
some (l,t,A)
def iB:Option (Int32×Int×LX×LX×Int):=
(RE z j N).bind λ(c,d)=>
if(Bi d 0)then
some (0,0,(List.replicate 16 (0:Int32)),(List.replicate 16 (0:Int32)),d)
else
(YZ z j N E (Al E c)).bind λ(e,i,l)=>
some ((Al E c),e,i,l,0)
def IY:Option (Int32×Int×Int32×Int×LX×LX×Int):=
(Wc z E L l5 l6).bind λc=>
if(Bi c 0)then
some (0,0,0,0,(List.replicate 16 (0:Int32)),(List.replicate 16 (0:Int32)),c)
else
(We z E).bind λ(d,e)=>
(iB L l5 l6 (Al Ayh d)).bind λ(i,j,l,t,A)=>
(
some (i,z,Ayh,j,l,t,A))
def M9:Option UInt32:=
some (Yq (Eh (Ad E:UInt32) (GI.toZ (1:UInt64)).toNat) (Ad (Ct E (GI.toZ (31:UInt64)).toNat):UInt32))
abbrev Dl:=Option (LU×Int)
def mS:Dl:=
some (R,0)
def SJ:=mS
def SB(j12:LU->Dl)(Acx:Int-> (List (Int×Int32×(Int×LX×LX×Unit)×Unit))->LU->Dl)(b:LX)(a f g:Int)(k:List (Int×Int32×(Int×LX×LX×Unit)×Unit))(h:LU):Dl:=
if(Ck g (Ac b))then
(Ah b g).bind λ_=>
(Ah b g).bind λac=>
(Jd (Bi a 0)).bind λ_=>
(Ah k (Ho g a)).bind λ_=>
(Ah k (Ho g a)).bind λp=>
(IY p.1 p.2.1 p.2.2.1.1 p.2.2.1.2.1 p.2.2.1.2.2.1 ac).bind λ(u,ad,ae,v,af,ag,w)=>
if(Bi w 0)then
some (([]:LU),w)
else
(Mi k (Ho g a) (ad,ae,(v,af,ag,()),())).bind λah=>
(M9 u).bind λai=>
(Cj h ([ai]:LU)).bind λaj=>
Acx (Ae g 1) ah aj
else
j12 h
def AN:Nat->Int-> (List (Int×Int32×(Int×LX×LX×Unit)×Unit))->LU->Dl
|0,_,_,_=>none
|z+1,c,d,e=>SB SJ (AN z) j J p8 c d e
def QA b a f:=AN b a f Aq
def SP(j10:LX->Int->Int->Int-> (List (Int×Int32×(Int×LX×LX×Unit)×Unit))->LU->Dl)(a f:Int)(b:LX)(m:List (Int×Int32×(Int×LX×LX×Unit)×Unit)):Dl:=
j10 b a f 0 m ([]:LU)
def nH:=SP QA
def SW(j9:Int->Int->LX-> (List (Int×Int32×(Int×LX×LX×Unit)×Unit))->Dl)(bk7:Int-> (List (Int×Int32×(Int×LX×LX×Unit)×Unit))->Dl)(a f:Int)(n b:LX)(o:Int)(m:List (Int×Int32×(Int×LX×LX×Unit)×Unit)):Dl:=
if(Ck o 6)then
(tM f n).bind λ(ak,al,u,am,an,v)=>
(Ah m o).bind λ_=>
(Mi m o (ak,al,(u,am,an,()),())).bind λao=>
bk7 (Ae o 1) ao
else
j9 a f b m
def ED:Nat->Int-> (List (Int×Int32×(Int×LX×LX×Unit)×Unit))->Dl
|0,_,_=>none
|c+1,e,i=>SW nH (ED c) z d j N e i
def qU a f n b:=ED a f n b Aq
def TI(j7:Int->Int->LX->LX->Int-> (List (Int×Int32×(Int×LX×LX×Unit)×Unit))->Dl)(a f:Int)(n y:LX):Dl:=
(kH a f y).bind λaa=>
if(Bi aa 0)then
some (([]:LU),aa)
else
(Ae2 a y).bind λ(b,ab)=>
if(Bi ab 0)then
some (([]:LU),ab)
else
j7 a f n b 0 (List.replicate 6 ((0:Int),(0:Int32),((0:Int),(List.replicate 16 (0:Int32)),(List.replicate 16 (0:Int32)),()),()))
def eN:=TI qU
def nD:Option (Int×Int×UInt64×UInt64):=
some (10,10,16384,16384)
abbrev Kj:=Option ((List (Int×Int×UInt64×UInt64×Unit)))
def pQ(a:List (Int×Int×UInt64×UInt64×Unit)):Kj:=
some a
def UH:=pQ
def UQ(j6:(List (Int×Int×UInt64×UInt64×Unit))->Kj)(Qf:Int-> (List (Int×Int×UInt64×UInt64×Unit))->Kj)(b:Int)(a:List (Int×Int×UInt64×UInt64×Unit)):Kj:=
if(Ck b 6)then
(nD).bind λ(f,g,h,k)=>
(Ah a b).bind λ_=>
(Mi a b (f,g,h,k,())).bind λm=>
Qf (Ae b 1) m
else
j6 a
def CU:Nat->Int-> (List (Int×Int×UInt64×UInt64×Unit))->Kj
|0,_,_=>none
|q+1,b,a=>UQ UH (CU q) b a
def pT:=CU Aq
def TG(j4:Int-> (List (Int×Int×UInt64×UInt64×Unit))->Kj):Kj:=
j4 0 (List.replicate 6 ((0:Int),(0:Int),(0:UInt64),(0:UInt64),()))
def fT:=TG pT
def Km:Option Int:=
if(((Ck z 0)||(Du z 330000))||(Bi (Ac c) (W7 (Ae z 7) (GI.toZ (3:UInt64)).toNat)))then
some 8
else
if(Du (Ex z 7) 0)then
(Ah c (Al (Ac c) 1)).bind λd=>
(Jd (Ks (Ex z 7) 0)).bind λ_=>
if(Bi (Ct d (GI.toZ (Ex z 7)).toNat) 0)then
some 8
else
some 0
else
some 0
def kF:Option Int:=
if(!((geq (Ee (oK z 0) 24) z)&&((geq (Ee (oK d 0) 24) d)&&((geq (Ee t 68719476735) t)&&((geq (Ee P 68719476735) P)&&true)))))then
some 8
else
some 0
def VB:=kF
def IZ(j4:Int->Int->UInt64->UInt64->Option Int)(a b:Int)(f g:UInt64):Option Int:=
(
(
j4 a b f g))
def VU:=IZ VB
def JF(j3:Int->Int->UInt64->UInt64->Option Int)(a b:Int)(f g:UInt64):Option Int:=
(
(
j3 a b f g))
def RQ:=JF VU
def IP(a f:Int)(g h:UInt64)(b:UInt32):Option (Int×UInt32):=
(Jd (Ks a 0)).bind λ_=>
if(geq (Ct b (GI.toZ a).toNat) 0)then
some (0,b)
else
(Jd (Ks a 0)).bind λ_=>
some (1,(Al b (Eh (1:UInt32) (GI.toZ a).toNat)))
def rY:Option (LB×Int):=
(Cw c).bind λd=>
some (d,z)
abbrev Ea:=Option (LB×Int×Int)
def R6:Ea:=
some (i,z,0)
def oA:=R6
def V9(Alq:UInt64->Int->Int->LB->Ea)(b:UInt64)(a:Int)(m:UInt64)(h f:Int)(w:LB):Ea:=
(Jd (Ks (Ee h (Al 8 (Ex f 7))) 0)).bind λ_=>
Alq (Ct m (GI.toZ (Ee h (Al 8 (Ex f 7)))).toNat) (Al h (Ee h (Al 8 (Ex f 7)))) (Ae f (Ee h (Al 8 (Ex f 7)))) w
def Y1 Alq:=V9 Alq
def W2(j19:UInt64->Int->Int->LB->Ea)(b:UInt64)(a:Int)(m:UInt64)(h f:Int)(u:LB):Ea:=
(Ah u (Al (Ac u) 1)).bind λ_=>
(Jd (Ks (Ee h (Al 8 (Ex f 7))) 0)).bind λ_=>
(Jd (Ks (Ex f 7) 0)).bind λ_=>
(Ah u (Al (Ac u) 1)).bind λad=>
(Ah u (Al (Ac u) 1)).bind λ_=>
Option.bind (Mi u (Al (Ac u) 1) (uW ad (Eh (Ad (Ex m (Al (Eh (1:UInt64) (GI.toZ (Ee h (Al 8 (Ex f 7)))).toNat) 1)):UInt8) (GI.toZ (Ex f 7)).toNat))) λw=>
j19 m h f w
def oM Alq b a:=W2 (Y1 Alq b a) b a
def oS(j18:UInt64->Int->Int->LB->Ea)(j21:Int->LB->Ea)(b:UInt64)(a:Int)(m:UInt64)(h f:Int)(o:LB):Ea:=
if(Du h 0)then
if(geq (Ex f 7) 0)then
(Cj o ([(0:UInt8)]:LB)).bind λaa=>
j18 m h f aa
else
j18 m h f o
else
j21 f o
def ZD:Nat->UInt64->Int->Int->LB->Ea
|0,_,_,_,_=>none
|z+1,c,d,e,i=>oS (oM (ZD z) t T) oA t T c d e i
def X6 b a:=ZD b a Aq
def S7:Ea:=
some (i,z,0)
def qI:=S7
def V3(Alr:UInt64->Int->Int->LB->Ea)(b:UInt64)(a:Int)(n:UInt64)(k g:Int)(ab:LB):Ea:=
(Jd (Ks (Ee k (Al 8 (Ex g 7))) 0)).bind λ_=>
Alr (Ct n (GI.toZ (Ee k (Al 8 (Ex g 7)))).toNat) (Al k (Ee k (Al 8 (Ex g 7)))) (Ae g (Ee k (Al 8 (Ex g 7)))) ab
def T7 Alr:=V3 Alr
def S8(j26:UInt64->Int->Int->LB->Ea)(b:UInt64)(a:Int)(n:UInt64)(k g:Int)(v:LB):Ea:=
(Ah v (Al (Ac v) 1)).bind λ_=>
(Jd (Ks (Ee k (Al 8 (Ex g 7))) 0)).bind λ_=>
(Jd (Ks (Ex g 7) 0)).bind λ_=>
(Ah v (Al (Ac v) 1)).bind λae=>
(Ah v (Al (Ac v) 1)).bind λ_=>
Option.bind (Mi v (Al (Ac v) 1) (uW ae (Eh (Ad (Ex n (Al (Eh (1:UInt64) (GI.toZ (Ee k (Al 8 (Ex g 7)))).toNat) 1)):UInt8) (GI.toZ (Ex g 7)).toNat))) λab=>
j26 n k g ab
def pH Alr b a:=S8 (T7 Alr b a) b a
def nI(j25:UInt64->Int->Int->LB->Ea)(j28:Int->LB->Ea)(b:UInt64)(a:Int)(n:UInt64)(k g:Int)(p:LB):Ea:=
if(Du k 0)then
if(geq (Ex g 7) 0)then
(Cj p ([(0:UInt8)]:LB)).bind λw=>
j25 n k g w
else
j25 n k g p
else
j28 g p
def ZS:Nat->UInt64->Int->Int->LB->Ea
|0,_,_,_,_=>none
|z+1,c,d,e,i=>nI (pH (ZS z) t T) qI t T c d e i
def U9 b a:=ZS b a Aq
def uF(j15:UInt64->Int->UInt64->Int->Int->LB->Ea)(j22:UInt64->Int->UInt64->Int->Int->LB->Ea)(ac:LB)(y:Int)(b:UInt64)(a:Int):Ea:=
(Km ac y).bind λaf=>
if(Bi af 0)then
some (([]:LB),0,8)
else
if((Ck a 0)||(Du a 64))then
some (([]:LB),0,2)
else
if(Ck a 64)then
(Jd (Ks a 0)).bind λ_=>
if(Bi (Ct b (GI.toZ a).toNat) 0)then
some (([]:LB),0,16)
else
if(Du (Ae y a) 330000)then
some (([]:LB),0,18)
else
(rY ac y).bind λ(ag,ah)=>
j15 b a b a ah ag
else
if(Du (Ae y a) 330000)then
some (([]:LB),0,18)
else
(rY ac y).bind λ(aa,ai)=>
j22 b a b a ai aa
def fZ:=uF X6 U9
def OW:Option Bool:=
(Jd (Ks T 0)).bind λ_=>
some (Ks (Ct O (GI.toZ T).toNat) 48)
def pZ:Option (Int×Int):=
if((Ck z 0)||(Du z 48))then
some (0,2)
else
some ((Ee (Ae z 1) 48),0)
def vD:Option (LB×Int×Int):=
(Km c z).bind λe=>
if(Bi e 0)then
some (([]:LB),0,e)
else
(pZ d).bind λ(i,j)=>
if(Bi j 0)then
some (([]:LB),0,j)
else
(Jd (Ks d 0)).bind λ_=>
(fZ c z (Al (Eh (1:UInt64) (GI.toZ d).toNat) 1) i).bind λ(l,t,A)=>
some (l,t,A)
abbrev YX:=Option (LB×Int×Int)
def J4:YX:=
(vD c z d).bind λ(e,i,j)=>
if(Bi j 0)then
some (([]:LB),0,j)
else
(fZ e i (Ad O:UInt64) T).bind λ(l,t,A)=>
some (l,t,A)
def J1:=J4
def I0(j2:LB->Int->Int->UInt32->Int->YX)(b:LB)(f:Int)(g:UInt32)(a:Int):YX:=
(Km b f).bind λk=>
if(Bi k 0)then
some (([]:LB),0,k)
else
if((Ck a 0)||(Du a 24))then
some (([]:LB),0,2)
else
(Jd (Ks a 0)).bind λ_=>
(Jd (Ks a 0)).bind λ_=>
(OW g a).bind λaa=>
if aa then
j2 b f 48 g 32
else
j2 b f (Ad (Ct g (GI.toZ a).toNat):Int) (Ex g (Al (Eh (1:UInt32) (GI.toZ a).toNat) 1)) a
def zP:=I0 J1
abbrev Iy:=Option (LB×Int×Int×Int×UInt64×UInt64×Int)
def SK:Iy:=
(
(
some (p9,z,d,e,(Ae t (Al (Ad O:UInt64) (Ct t (GI.toZ (4:UInt64)).toNat))),P,0)))
def gO:=SK
def kZ(j10:Int->Int->Int->UInt64->UInt32->UInt64->LB->Iy)(b:UInt32)(k n:Int)(a o:UInt64)(m:LB)(u:Int):Iy:=
j10 k u n a b o m
def J2:=kZ gO
def kD(j9:UInt32->Int->Int->UInt64->UInt64->LB->Int->Iy)(b:UInt32)(f:Int)(a:UInt64)(k:Int)(m:LB)(n:Int)(o:UInt64):Iy:=
if(Du f 0)then
(Jd (Ks f 0)).bind λ_=>
if(Ck (Ae a (Al (Ad b:UInt64) (Ct a (GI.toZ (4:UInt64)).toNat))) (Eh (16:UInt64) (GI.toZ f).toNat))then
j9 b k n a o m (Al f 1)
else
if(Ck f 24)then
(Jd (Ks f 0)).bind λ_=>
if(Du (Ae a (Al (Ad b:UInt64) (Ct a (GI.toZ (4:UInt64)).toNat))) (Eh (32:UInt64) (GI.toZ f).toNat))then
j9 b k n a o m (Ae f 1)
else
j9 b k n a o m f
else
j9 b k n a o m f
else
if(Ck f 24)then
(Jd (Ks f 0)).bind λ_=>
if(Du (Ae a (Al (Ad b:UInt64) (Ct a (GI.toZ (4:UInt64)).toNat))) (Eh (32:UInt64) (GI.toZ f).toNat))then
j9 b k n a o m (Ae f 1)
else
j9 b k n a o m f
else
j9 b k n a o m f
def kG:=kD J2
def kB(j8:UInt32->Int->UInt64->Int->LB->Int->UInt64->Iy)(b:UInt32)(f h:Int)(a g:UInt64)(ac k:Int)(m:LB):Iy:=
if(Bi ac 0)then
some (([]:LB),0,0,0,0,0,ac)
else
(IP f h a g b).bind λ(ag,p)=>
if(geq ag 1)then
if(Du h 0)then
(Jd (Ks h 0)).bind λ_=>
if(Ck (Ae g (Al (Ad p:UInt64) (Ct g (GI.toZ (4:UInt64)).toNat))) (Eh (16:UInt64) (GI.toZ h).toNat))then
j8 b f a k m (Al h 1) (Ae g (Al (Ad p:UInt64) (Ct g (GI.toZ (4:UInt64)).toNat)))
else
if(Ck h 24)then
(Jd (Ks h 0)).bind λ_=>
if(Du (Ae g (Al (Ad p:UInt64) (Ct g (GI.toZ (4:UInt64)).toNat))) (Eh (32:UInt64) (GI.toZ h).toNat))then
j8 b f a k m (Ae h 1) (Ae g (Al (Ad p:UInt64) (Ct g (GI.toZ (4:UInt64)).toNat)))
else
j8 b f a k m h (Ae g (Al (Ad p:UInt64) (Ct g (GI.toZ (4:UInt64)).toNat)))
else
j8 b f a k m h (Ae g (Al (Ad p:UInt64) (Ct g (GI.toZ (4:UInt64)).toNat)))
else
if(Ck h 24)then
(Jd (Ks h 0)).bind λ_=>
if(Du (Ae g (Al (Ad p:UInt64) (Ct g (GI.toZ (4:UInt64)).toNat))) (Eh (32:UInt64) (GI.toZ h).toNat))then
j8 b f a k m (Ae h 1) (Ae g (Al (Ad p:UInt64) (Ct g (GI.toZ (4:UInt64)).toNat)))
else
j8 b f a k m h (Ae g (Al (Ad p:UInt64) (Ct g (GI.toZ (4:UInt64)).toNat)))
else
j8 b f a k m h (Ae g (Al (Ad p:UInt64) (Ct g (GI.toZ (4:UInt64)).toNat)))
else
j8 b f a k m h g
def J0:=kB kG
def lF(j7:UInt32->Int->Int->UInt64->UInt64->Int->Int->LB->Iy)(b:UInt32)(v:LB)(w f h:Int)(a g:UInt64):Iy:=
(IP f h a g b).bind λ(ad,ae)=>
(fZ v w (Ad ad:UInt64) 1).bind λ(y,aa,ab)=>
if((geq ab 0)&&(geq ad 0))then
(fZ y aa (Ad ae:UInt64) f).bind λ(ah,ai,aj)=>
j7 b f h a g aj ai ah
else
if(geq ab 0)then
(zP y aa ae h).bind λ(ak,al,am)=>
j7 b f h a g am al ak
else
j7 b f h a g ab aa y
def I1:=lF J0
def lH(j6:UInt32->LB->Int->Int->Int->UInt64->UInt64->Iy)(v:LB)(w f h:Int)(a g:UInt64)(b:UInt32):Iy:=
(Km v w).bind λan=>
if(Bi an 0)then
some (([]:LB),0,0,0,0,0,8)
else
(RQ f h a g).bind λao=>
if(Bi ao 0)then
some (([]:LB),0,0,0,0,0,8)
else
j6 b v w f h a g
def zB:=lH I1
abbrev Cc:=Option (UInt32×Int)
def eV:Cc:=
some (O,0)
def QI:=eV
def FI(j30:UInt32->Cc)(Avn:UInt32->Int->Cc)(a:LB)(b:LU)(h:UInt32)(m:Int):Cc:=
if(Ck m (Ac a))then
(Ah a m).bind λp=>
(Ah b (GI.toZ (Yq (Ad h:UInt8) p))).bind λ_=>
(Ah b (GI.toZ (Yq (Ad h:UInt8) p))).bind λu=>
Avn (Yq (Ct h (GI.toZ (8:UInt64)).toNat) u) (Ae m 1)
else
j30 h
def Qy:Nat->UInt32->Int->Cc
|0,_,_=>none
|z+1,d,e=>FI QI (Qy z) c R d e
def QZ a b:=Qy a b Aq
def QS(j28:LB->LU->UInt32->Int->Cc)(f:UInt32)(a:LB)(b:LU):Cc:=
j28 a b f 0
def eW:=QS QZ
def QM(j27:UInt32->LB->LU->Cc)(f:UInt32)(a:LB)(b:LU):Cc:=
j27 f a b
def QW:=QM eW
def eC(Hn:Int->LU->Cc)(f:UInt32)(a:LB)(g:Int)(o:LU):Cc:=
Hn (Ae g 1) o
def gJ Hn:=eC Hn
def fI(j24:Int->LU->Cc)(f:UInt32)(a:LB)(g:Int)(k:UInt32)(b:LU):Cc:=
(Ah b g).bind λ_=>
(Mi b g k).bind λo=>
j24 g o
def DX Hn f a:=fI (gJ Hn f a) f a
def DM(j23:Int->UInt32->LU->Cc)(Arz:UInt32->Int->Cc)(f:UInt32)(a:LB)(g:Int)(b:LU)(k:UInt32)(n:Int):Cc:=
if(Ck n 8)then
Arz (Yq (Ct k (GI.toZ (1:UInt64)).toNat) (Ce 3988292384 (Ex k 1))) (Ae n 1)
else
j23 g k b
def Qp(Hn:Int->LU->Cc)(f:UInt32)(a:LB)(g:Int)(b:LU):Nat->UInt32->Int->Cc
|0,_,_=>none
|q+1,k,n=>DM (DX Hn f a) (Qp Hn f a g b q) f a g b k n
def PT Hn f a g b:=Qp Hn f a g b Aq
def FK(j21:Int->LU->UInt32->Int->Cc)(j26:UInt32->LB->LU->Cc)(f:UInt32)(a:LB)(g:Int)(b:LU):Cc:=
if(Ck g 256)then
j21 g b (Ad g:UInt32) 0
else
j26 f a b
def Nf:Nat->Int->LU->Cc
|0,_,_=>none
|z+1,c,d=>FK (PT (Nf z) O p9) QW O p9 c d
def eJ f a:=Nf f a Aq
def VK(j16:UInt32->LB->Int->LU->Cc)(f:UInt32)(a:LB):Cc:=
if(Du (Ac a) 100000)then
some (0,4)
else
j16 f a 0 (List.replicate 256 (0:UInt32))
def aT:=VK eJ
def Xd:Option (UInt32×Int):=
(aT 4294967295 c).bind λ(z,d)=>
if(Bi d 0)then
some (0,d)
else
some ((B7 z),0)
def wT:Option Bool:=
if(geq T 8)then
some true
else
(Jd (Ks (Ce 8 T) 0)).bind λ_=>
some (geq (Ct t (GI.toZ (Ce 8 T)).toNat) 0)
abbrev BB:=Option (LB×Int)
def uX:BB:=
some (c,0)
def dX:=uX
def TL(j6:LB->BB)(Qf:Int->LB->BB)(f:UInt64)(g:LB)(a:Int)(b:LB):BB:=
if(Ck a (Ac g))then
(Jd (Ks (Ce 8 a) 0)).bind λ_=>
(Ah b a).bind λ_=>
(Mi b a (Ad (Ct f (GI.toZ (Ce 8 a)).toNat):UInt8)).bind λk=>
Qf (Ae a 1) k
else
j6 b
def CJ:Nat->Int->LB->BB
|0,_,_=>none
|z+1,c,d=>TL dX (CJ z) t p9 c d
def uY f g:=CJ f g Aq
def fM(j4:UInt64->LB->Int->LB->BB)(f:UInt64)(h:Int):BB:=
if((Ck h 1)||(Du h 8))then
some (([]:LB),2)
else
(wT f h).bind λm=>
if(!m)then
some (([]:LB),16)
else
(mkI h (0:UInt8)).bind λg=>
(Jd (geq h h)).bind λ_=>
j4 f g 0 g
def Yy:=fM uY
def OZ:Option (LB):=
some c
def Uu:=OZ
def Va(j16:LB->Option (LB))(iD:Int->LB->Option (LB))(a:List LB)(g:Int)(f:LB):Option (LB):=
if(Ck g (Ac a))then
(Ah a g).bind λn=>
(Cj f n).bind λo=>
iD (Ae g 1) o
else
j16 f
def Mn:Nat->Int->LB->Option (LB)
|0,_,_=>none
|z+1,c,d=>Va Uu (Mn z) U c d
def Uq a:=Mn a Aq
def Vb(j14:(List LB)->Int->LB->Option (LB))(a:List LB)(p:LB):Option (LB):=
j14 a 0 p
def OU:=Vb Uq
def Vm(j13:(List LB)->LB->Option (LB))(b:Int)(a:List LB):Option (LB):=
if(Du (Al b (Al (0:Int) (0:Int))) 0)then
(aB 0 0 0).bind λ_=>
(mkI (Al b (Al (0:Int) (0:Int))) (0:UInt8)).bind λu=>
(Cj ([]:LB) u).bind λk=>
(aB (Ac k) 0 0).bind λ_=>
j13 a (KT k 0 ((0:Int)-(0:Int)))
else
j13 a ([]:LB)
def OV:=Vm OU
def Vc(j12:Int-> (List LB)->Option (LB))(a:List LB)(b:Int):Option (LB):=
if(Ck b 0)then
none
else
j12 b a
def OX:=Vc OV
def Wi(j11:(List LB)->Int->Option (LB))(bk9:Int->Int->Option (LB))(a:List LB)(b h:Int):Option (LB):=
if(Ck h (Ac a))then
(Ah a h).bind λm=>
if(Ck (Ae b (Ac m)) 0)then
none
else
bk9 (Ae b (Ac m)) (Ae h 1)
else
j11 a b
def Ns:Nat->Int->Int->Option (LB)
|0,_,_=>none
|z+1,c,d=>Wi OX (Ns z) U c d
def QC a:=Ns a Aq
def Wv(j9:(List LB)->Int->Int->Option (LB))(a:List LB):Option (LB):=
j9 a 0 0
def Lo:=Wv QC
abbrev Bu:=Option (LB×Int)
def mM(v:Int)(p:LB):Bu:=
(Xd p).bind λ(af,ac)=>
if(Bi ac 0)then
some (([]:LB),ac)
else
(Yy (Ad af:UInt64) 4).bind λ(m,h)=>
if(Bi h 0)then
some (([]:LB),h)
else
(Lo ([p,m]:List LB)).bind λag=>
some (ag,0)
def QX:=mM
def mA(bC:Int-> (List (Int×Int×UInt64×UInt64×Unit))->Int->LB->Bu)(b:LU)(a g f:Int)(n:List (Int×Int×UInt64×UInt64×Unit))(k:Int)(w:LB):Bu:=
bC (Ae f 1) n k w
def SF bC:=mA bC
def nA(H3:Int->Int->LB->Bu)(h:Int)(b:LU)(f a g:Int)(n:List (Int×Int×UInt64×UInt64×Unit))(m:LB)(o k:Int)(ab:LB):Bu:=
H3 (Ae o 1) (Ae k 1) ab
def mC H3:=nA H3
def lU(j48:Int->Int->LB->Bu)(h:Int)(b:LU)(f a g:Int)(n:List (Int×Int×UInt64×UInt64×Unit))(m:LB)(o k:Int)(y:LB):Bu:=
(Ah m (Cq o 8)).bind λ_=>
(Ah m (Cq o 8)).bind λah=>
(Jd (Ks (Ho o 8) 0)).bind λ_=>
(Ah y (Cq k 8)).bind λ_=>
(Jd (Ks (Ho k 8) 0)).bind λ_=>
(Ah y (Cq k 8)).bind λai=>
(Ah y (Cq k 8)).bind λ_=>
Option.bind (Mi y (Cq k 8) (uW ai (Eh (Ex (Ct ah (GI.toZ (Ho o 8)).toNat) 1) (GI.toZ (Ho k 8)).toNat))) λab=>
j48 o k ab
def QJ H3 h b f a g n m:=lU (mC H3 h b f a g n m) h b f a g n m
def SD(j47:Int->Int->LB->Bu)(j50:Int-> (List (Int×Int×UInt64×UInt64×Unit))->Int->LB->Bu)(b:LU)(a g h f:Int)(n:List (Int×Int×UInt64×UInt64×Unit))(m:LB)(o k:Int)(w:LB):Bu:=
if(Ck o h)then
if(geq (Ho k 8) 0)then
(Cj w ([(0:UInt8)]:LB)).bind λaj=>
j47 o k aj
else
j47 o k w
else
j50 f n k w
def AY(bC:Int-> (List (Int×Int×UInt64×UInt64×Unit))->Int->LB->Bu)(b:LU)(a g h f:Int)(n:List (Int×Int×UInt64×UInt64×Unit))(m:LB):Nat->Int->Int->LB->Bu
|0,_,_,_=>none
|q+1,o,k,w=>SD (QJ (AY bC b a g h f n m q) h b f a g n m) (SF bC b a g) b a g h f n m o k w
def RB bC b a g h f n m:=AY bC b a g h f n m Aq
def RH(j44:Int->Int-> (List (Int×Int×UInt64×UInt64×Unit))->LB->Int->Int->LB->Bu)(j52:Int->LB->Bu)(b:LU)(a g f:Int)(u:List (Int×Int×UInt64×UInt64×Unit))(v:Int)(p:LB):Bu:=
if(Ck f (Ac b))then
(Ah b f).bind λ_=>
(Ah b f).bind λak=>
(Jd (Bi a 0)).bind λ_=>
(Ah u (Ho f a)).bind λ_=>
(Ah u (Ho f a)).bind λaa=>
(zB ([]:LB) 0 aa.1 aa.2.1 aa.2.2.1 aa.2.2.2.1 ak).bind λ(m,h,al,am,an,ao,ad)=>
if(Bi ad 0)then
some (([]:LB),ad)
else
(Jd (Bi a 0)).bind λ_=>
(Ah u (Ho f a)).bind λ_=>
(Mi u (Ho f a) (al,am,an,ao,())).bind λn=>
j44 h f n m 0 v p
else
j52 v p
def AU:Nat->Int-> (List (Int×Int×UInt64×UInt64×Unit))->Int->LB->Bu
|0,_,_,_,_=>none
|z+1,c,d,e,i=>RH (RB (AU z) R Ax2 Ax3) QX R Ax2 Ax3 c d e i
def lQ b a g:=AU b a g Aq
def SZ(j27:LU->Int->Int->Int-> (List (Int×Int×UInt64×UInt64×Unit))->Int->LB->Bu)(a g:Int)(ap aq:LX):Bu:=
(eN a g ap aq).bind λ(b,ae)=>
if(Bi ae 0)then
some (([]:LB),ae)
else
(fT).bind λar=>
j27 b a g 0 ar 0 ([]:LB)
def SA:=SZ lQ
def FQ(b f g:Int)(h k:LB)(m:LX)(n:List LB)(o:LB)(p:Bool)(u a:Int):Option (Int×Int×Int×LB×LB×LX×(List LB)×LB×Bool×Int×Int):=
some (b,f,g,h,([]:LB),([]:LX),([]:List LB),([]:LB),false,a,a)
abbrev By:=Option (Int×Int×Int×LB×LB×LX×(List LB)×LB×Bool×Int×Int)
def rE:By:=
some (z,d,e,i,X,j,U,l7,A,l,0)
def YK:=rE
def rK(iD:Int->LB->LX-> (List LB)->By)(p:Int)(n:LB)(a b g:Int)(f:LB)(h:Bool)(k o:Int)(m:LB)(u:Int)(ao:LB)(ap:LX)(aq:List LB):By:=
iD (Ae u 1) ao ap aq
def HO iD:=rK iD
def rO(j24:Int->LB->LX-> (List LB)->By)(p:Int)(n:LB)(a b g:Int)(f:LB)(h:Bool)(k o:Int)(m:LB)(u ad:Int)(ae:LB)(af:LX)(ag:List LB):By:=
if(Bi ad 0)then
(FQ a b g f ae af ag m h k ad).bind λ(ar,au,av,aw,ax,ay,az,ba,bb,bc,bd)=>
some (ar,au,av,aw,ax,ay,az,ba,bb,bc,bd)
else
j24 u ae af ag
def Rj iD p n a b g f h k o m:=rO (HO iD p n a b g f h k o m) p n a b g f h k o m
def qY(j23:Int->Int->LB->LX-> (List LB)->By)(p:Int)(n:LB)(a b g:Int)(f:LB)(h:Bool)(k o:Int)(m:LB)(u:Int)(ab:LX)(v:List LB)(be:Int):By:=
j23 u be ([]:LB) ab v
def tA iD p n a b g f h k o m:=qY (Rj iD p n a b g f h k o m) p n a b g f h k o m
def tD(j23:Int->Int->LB->LX-> (List LB)->By)(p:Int)(n:LB)(a b g:Int)(f:LB)(h:Bool)(k o:Int)(m:LB)(u:Int)(ac:List LB):By:=
j23 u 0 ([]:LB) ([]:LX) ac
def rV iD p n a b g f h k o m:=tD (Rj iD p n a b g f h k o m) p n a b g f h k o m
def rJ(j23:Int->Int->LB->LX-> (List LB)->By)(j21:Int->LX-> (List LB)->Int->By)(j22:Int-> (List LB)->By)(p:Int)(n:LB)(a b g:Int)(f:LB)(h:Bool)(k o:Int)(m:LB)(u:Int)(aa:LB)(w:LX)(v:List LB):By:=
(kJ b aa).bind λ(bf,ah)=>
if(Bi ah 0)then
j23 u ah aa w v
else
(Cj w bf).bind λab=>
if(Ck (Ac ab) (Ce o a))then
j23 u 0 ([]:LB) ab v
else
(Tt f).bind λ(bg,ai)=>
if(Bi ai 0)then
j21 u ab v ai
else
(SA a b bg ab).bind λ(bh,aj)=>
if(Bi aj 0)then
j21 u ab v aj
else
(Cj v ([bh]:List LB)).bind λac=>
j22 u ac
def WO iD p n a b g f h k o m:=rJ (Rj iD p n a b g f h k o m) (tA iD p n a b g f h k o m) (rV iD p n a b g f h k o m) p n a b g f h k o m
def XM(j24:Int->LB->LX-> (List LB)->By)(j23:Int->Int->LB->LX-> (List LB)->By)(j20:Int->LB->LX-> (List LB)->By)(j26:Int->Int->Int->LB->Bool->Int->LB->LX-> (List LB)->LB->By)(p:Int)(n:LB)(a b g:Int)(f:LB)(h:Bool)(k o:Int)(m:LB)(u:Int)(y:LB)(w:LX)(v:List LB):By:=
if(Ck u (Ac n))then
(Ah n u).bind λbi=>
(Cj y ([bi]:LB)).bind λaa=>
if(Ck (Ac aa) p)then
j24 u aa w v
else
(JA a b g f aa w v m h k o).bind λbj=>
(aS a b g f aa w v m h k (Ae (Ac v) 1) (Ae bj 1)).bind λbk=>
if(!bk)then
j23 u 18 aa w v
else
j20 u aa w v
else
j26 a b g f h k y w v m
def Qr:Nat->Int->LB->LX-> (List LB)->By
|0,_,_,_,_=>none
|c+1,d,e,j,t=>XM (HO (Qr c) z i l V J w9 Ayd Aye o8 Ayf) (Rj (Qr c) z i l V J w9 Ayd Aye o8 Ayf) (WO (Qr c) z i l V J w9 Ayd Aye o8 Ayf) YK z i l V J w9 Ayd Aye o8 Ayf d e j t
def sX p n a b g f h k o m:=Qr p n a b g f h k o m Aq
def cI(j14:Int->LB->Int->Int->Int->LB->Bool->Int->Int->LB->Int->LB->LX-> (List LB)->By)(bl bm bn:Int)(bp bq:LB)(br:LX)(bs:List LB)(bt:LB)(bu:Bool)(bv:Int)(n:LB):By:=
(VR bl bm bn bp bq br bs bt bu bv).bind λ(a,b,g,f,ak,al,am,m,h,k,o,an)=>
if(Bi an 0)then
some (a,b,g,f,ak,al,am,m,h,k,an)
else
(QE a b).bind λp=>
j14 p n a b g f h k o m 0 ak al am
def Rw:=cI sX
def VL:Option (Int×Int×Int×LB×LB×LX×(List LB)×LB×Bool×Int×LB×Int):=
(VE z d e i X j U l7 r9 J).bind λc=>
if(Bi c 0)then
some (0,0,0,([]:LB),([]:LB),([]:LX),([]:List LB),([]:LB),false,0,([]:LB),c)
else
if(Ck p8 0)then
some (0,0,0,([]:LB),([]:LB),([]:LX),([]:List LB),([]:LB),false,0,([]:LB),2)
else
(aD z d e i X j U l7 r9 J).bind λ(l,t,A,B,C,D,E,F,G,I)=>
(Bl F 0 (Ee p8 (Ac F))).bind λL=>
(Cw L).bind λM=>
(Bl F (Ee p8 (Ac F)) (Ac F)).bind λN=>
some (l,t,A,B,C,D,E,N,G,I,M,0)
def lI:Option (Int×Int):=
if(Du (Ac c) 64)then
some (0,2)
else
if(geq (Ac c) 0)then
some (1,0)
else
some (2,0)
def IA(b f a g h:Int):Option Bool:=
some (((((((geq b 1)||(geq b 2))&&(Du f 0))&&(pB f 6))&&(Du g 0))&&(pB g 1048576))&&(Du h 0))
def Rc:=IA
def HX(j2:Int->Int->Int->Int->Int->Option Bool)(b f a g h:Int):Option Bool:=
if(geq a 8)then
if(geq a 8)then
j2 b f a g h
else
some false
else
if(geq a 16)then
if(geq a 16)then
j2 b f a g h
else
some false
else
if(geq a 24)then
j2 b f a g h
else
some false
def Pv:=HX Rc
def Ze:Option (Int×Int):=
(Rs z).bind λ(c,e)=>
if(Bi e 0)then
some (0,e)
else
if((Ck d 1)||(Du d 4000))then
some (0,2)
else
(Jd (Bi c 0)).bind λ_=>
if(Du (Cq (Al (Ae d c) 1) c) 1000)then
some (0,4)
else
some ((Cq (Al (Ae d c) 1) c),0)
def LH(k a m f b:Int):Option Bool:=
(Jd (Bi a 0)).bind λ_=>
if(Du b (Cq 4000 a))then
some false
else
(Ze f b).bind λ(g,h)=>
some ((geq h 0)&&(pB g 1000))
def Rq:Option Int:=
(Pv z d e B D).bind λc=>
if(!c)then
some 8
else
(LH z d e B D).bind λi=>
if(!i)then
some 8
else
some 0
abbrev Np:=Option (LB×Int)
def vN:Np:=
(Xd c).bind λ(z,d)=>
(Yy (Ad z:UInt64) 4).bind λ(e,i)=>
(Cj c e).bind λj=>
some (j,0)
def cE:=vN
def MY(j6:LB->Np)(Qf:Int->LB->Np)(b f g h k m:Int)(a:LB):Np:=
if(Ck m 5)then
(Ah ([b,f,g,h,k]:LI) m).bind λw=>
(Ah ([(2:Int),(2:Int),(2:Int),(4:Int),(4:Int)]:LI) m).bind λy=>
(Yy (Ad w:UInt64) y).bind λ(n,v)=>
(Cj a n).bind λo=>
Qf (Ae m 1) o
else
j6 a
def Pa:Nat->Int->LB->Np
|0,_,_=>none
|c+1,i,j=>MY cE (Pa c) z d e B D i j
def vT b f g h k:=Pa b f g h k Aq
def cJ(j4:Int->Int->Int->Int->Int->Int->LB->Np)(b f g h k:Int):Np:=
(Rq b f g h k).bind λp=>
if(Bi p 0)then
some (([]:LB),p)
else
j4 b f g h k 0 ([(84:UInt8),(84:UInt8),(65:UInt8),(49:UInt8)]:LB)
def pD:=cJ vT
def sO:Option (UInt64×Int):=
if(Du (Ac c) 64)then
some (0,2)
else
(WW c).bind λ(z,d)=>
some (z,0)
def EP:Option (LB×Int):=
(sO c).bind λ(z,d)=>
if(Bi d 0)then
some (([]:LB),d)
else
(Yy z 8).bind λ(e,i)=>
some (e,i)
def B8:Option Int:=
some 0
def iC:=B8
def FX:Option Int:=
if(Ck o7 (Ac Ayb))then
(Ah Ayb o7).bind λz=>
if((Ck z 5)||(Du z o9))then
some 8
else
Aya (Al o9 z) (Ae o7 1)
else
q8
def Qz:Nat->Int->Int->Option Int
|0,_,_=>none
|z+1,c,d=>FX iC (Qz z) I c d
def fQ a:=Qz a Aq
def FA(j4:LI->Int->Int->Option Int)(a:LI):Option Int:=
if((geq (Ac a) 0)||(Du (Ac a) 1000))then
some 8
else
j4 a 100000 0
def Ps:=FA fQ
abbrev Hi:=Option (LB×Int)
def vL:Hi:=
some (c,0)
def vW:=vL
def vO(j14:LB->Hi)(b:LB):Hi:=
(Xd b).bind λ(m,u)=>
(Yy (Ad m:UInt64) 4).bind λ(n,v)=>
(Cj b n).bind λg=>
j14 g
def bJ:=vO vW
def vZ(Z3:Int->LB->Hi)(a:LI)(f:Int)(h:LB):Hi:=
Z3 (Ae f 1) h
def bT Z3:=vZ Z3
def gV(j11:Int->LB->Hi)(j13:LB->Hi)(a:LI)(f:Int)(b:LB):Hi:=
if(Ck f (Ac a))then
(Ah a f).bind λo=>
(Yy (Ad o:UInt64) 4).bind λ(p,w)=>
(Cj b p).bind λh=>
j11 f h
else
j13 b
def PO:Nat->Int->LB->Hi
|0,_,_=>none
|z+1,c,d=>gV (bT (PO z) I) bJ I c d
def E4 a:=PO a Aq
def eO(j8:LI->Int->LB->Hi)(a:LI):Hi:=
(Ps a).bind λk=>
if(Bi k 0)then
some (([]:LB),k)
else
j8 a 0 ([]:LB)
def gN:=eO E4
abbrev Ih:=Option (LB×Int)
def MK(f g h:Int)(b k:LB)(m:LX)(a:List LB)(n:LB)(o:Bool)(p:Int)(u:LB)(v:LI):Ih:=
(gN v).bind λ(aa,y)=>
if(Bi y 0)then
some (([]:LB),y)
else
(
(Cj u aa).bind λab=>
(Lo a).bind λac=>
(Cj ab ac).bind λad=>
some (ad,0))
def bS:=MK
def bN(j8:Int->Int->Int->LB->LB->LX-> (List LB)->LB->Bool->Int->LB->LI->Ih)(H2:Int->LI->Ih)(a:List LB)(f g h:Int)(b k:LB)(m:LX)(n:LB)(o:Bool)(p:Int)(u:LB)(w:Int)(v:LI):Ih:=
if(Ck w (Ac a))then
(Ah a w).bind λai=>
(Cj v ([(Ac ai)]:LI)).bind λaj=>
H2 (Ae w 1) aj
else
j8 f g h b k m a n o p u v
def MX:Nat->Int->LI->Ih
|0,_,_=>none
|z+1,c,d=>bN bS (MX z) U J p8 Ayq w9 Ayr N Ays Ay3 o8 Ayf c d
def vR a f g h b k m n o p u:=MX a f g h b k m n o p u Aq
def cG(j6:(List LB)->Int->Int->Int->LB->LB->LX->LB->Bool->Int->LB->Int->LI->Ih)(f g h:Int)(b k:LB)(m:LX)(a:List LB)(n:LB)(o:Bool)(p:Int)(u:LB):Ih:=
j6 a f g h b k m n o p u 0 ([]:LI)
def vK:=cG vR
def bD(j5:Int->Int->Int->LB->LB->LX-> (List LB)->LB->Bool->Int->LB->Ih)(f g h:Int)(b k:LB)(m:LX)(a:List LB)(n:LB)(o:Bool)(p ak:Int):Ih:=
(lI b).bind λ(al,ae)=>
if(Bi ae 0)then
some (([]:LB),ae)
else
(pD al f g h ak).bind λ(af,ag)=>
if(Bi ag 0)then
some (([]:LB),ag)
else
if(b !=([]:LB))then
(EP b).bind λ(am,ah)=>
if(Bi ah 0)then
some (([]:LB),ah)
else
(Cj af am).bind λan=>
j5 f g h b k m a n o p an
else
j5 f g h b k m a n o p af
def qT:=bD vK
abbrev My:=Option (Int×Int×Int×LB×LB×LX×(List LB)×LB×Bool×Int×Int)
def nX:My:=
(qT d e B i X N Ayx l7 A l z).bind λ(c,j)=>
if(Bi j 0)then
(FQ d e B i X N Ayx l7 A l j).bind λ(t,C,D,E,F,G,I,J,L,M,O)=>
some (t,C,D,E,F,G,I,J,L,M,O)
else
some (d,e,B,i,([]:LB),([]:LX),([]:List LB),c,true,0,0)
def TY:=nX
def oC(j4:Int->Int->Int->Int->LB->Bool->Int->LB->LB->LX-> (List LB)->My)(o a b g:Int)(f:LB)(k:Bool)(m:Int)(h n:LB)(ad:Int)(ae:LX)(af:List LB):My:=
if(Bi ad 0)then
(FQ a b g f h ae af n k m ad).bind λ(au,v,w,av,aw,ax,y,aa,ay,az,ba)=>
some (au,v,w,av,aw,ax,y,aa,ay,az,ba)
else
j4 o a b g f k m h n ae af
def oO:=oC TY
def qG(j3:Int->Int->Int->Int->LB->Bool->Int->LB->LB->Int->LX-> (List LB)->My)(j4:Int->Int->Int->Int->LB->Bool->Int->LB->LB->LX-> (List LB)->My)(bb bc bd:Int)(be bf:LB)(bg:LX)(bh:List LB)(bi:LB)(bj:Bool)(bk:Int):My:=
(VR bb bc bd be bf bg bh bi bj bk).bind λ(a,b,g,f,h,p,u,n,k,m,bl,ag)=>
if(Bi ag 0)then
some (a,b,g,f,h,p,u,n,k,m,ag)
else
(JA a b g f h p u n k m bl).bind λo=>
if((Du (Ac h) 0)||(geq o 0))then
(FQ a b g f h p u n k m 24).bind λ(bm,bn,bp,bq,br,bs,bt,bu,bv,bw,bx)=>
some (bm,bn,bp,bq,br,bs,bt,bu,bv,bw,bx)
else
if(Du (Ac p) 0)then
(Tt f).bind λ(bz,ah)=>
if(Bi ah 0)then
j3 o a b g f k m h n ah p u
else
(SA a b bz p).bind λ(da,ai)=>
if(Bi ai 0)then
j3 o a b g f k m h n ai p u
else
(Cj u ([da]:List LB)).bind λdb=>
j3 o a b g f k m h n 0 ([]:LX) db
else
j4 o a b g f k m h n p u
def PY:=qG oO TY
abbrev Bo:=Option (Int×Int×Int×LB×LB×LX×(List LB)×LB×Bool×Int×(List (Int×LB×Unit))×Int)
def oT(f g h:Int)(k m:LB)(n:Bool)(o:Int)(a:LB)(w:List (Int×LB×Unit))(p:LB)(u:LX)(v:List LB):Bo:=
some (f,g,h,k,p,u,v,m,n,o,w,0)
def qK:=oT
def qV(j32:Int->Int->Int->LB->LB->Bool->Int->LB-> (List (Int×LB×Unit))->LB->LX-> (List LB)->Bo)(w:List (Int×LB×Unit))(f g h:Int)(k m:LB)(n:Bool)(o:Int)(a p:LB)(u:LX)(v:List LB):Bo:=
j32 f g h k m n o a w p u v
def UN:=qV qK
def oP(VX:Int->Int->Int->Int->LB->LB->Bool->Int->LB-> (List (Int×LB×Unit))->LB->LX-> (List LB)->Bo)(b:List (UInt8×Int×Unit))(y df dg dh:Int)(di dj:LB)(dk:Bool)(dl:Int)(dm:LB)(dn:List (Int×LB×Unit))(dp:LB)(dq:LX)(dr:List LB):Bo:=
VX (Ae y 1) df dg dh di dj dk dl dm dn dp dq dr
def Lk VX:=oP VX
def EA(j29:Int->Int->Int->Int->LB->LB->Bool->Int->LB-> (List (Int×LB×Unit))->LB->LX-> (List LB)->Bo)(b:List (UInt8×Int×Unit))(aa:UInt8×Int×Unit)(a:LB)(ab y f g h:Int)(k p:LB)(u:LX)(v:List LB)(m:LB)(n:Bool)(o ac ad ae:Int)(af:LB)(ag:Bool)(ah:Int)(w:List (Int×LB×Unit))(ai:LB)(aj:LX)(ak:List LB)(al:LB):Bo:=
(
(Bl a (Ee aa.2.1 (Ac a)) (Ac a)).bind λbm=>
(Cj w ([(ab,([]:LB),())]:List (Int×LB×Unit))).bind λbn=>
j29 y ac ad ae af al ag ah bm bn ai aj ak)
def TM VX b:=EA (Lk VX b) b
def pU(j29:Int->Int->Int->Int->LB->LB->Bool->Int->LB-> (List (Int×LB×Unit))->LB->LX-> (List LB)->Bo)(b:List (UInt8×Int×Unit))(an y f g h:Int)(k p:LB)(u:LX)(v:List LB)(m:LB)(n:Bool)(o:Int)(a:LB)(ao ap aq:Int)(ar au:LB)(av:Bool)(aw:Int)(ax:LB)(w:List (Int×LB×Unit))(ay:LB)(az:LX)(ba:List LB):Bo:=
(Cj w ([(an,ax,())]:List (Int×LB×Unit))).bind λds=>
j29 y ao ap aq ar au av aw a ds ay az ba
def UL VX b:=pU (Lk VX b) b
def oD(j29:Int->Int->Int->Int->LB->LB->Bool->Int->LB-> (List (Int×LB×Unit))->LB->LX-> (List LB)->Bo)(b:List (UInt8×Int×Unit))(bb y f g h:Int)(k p:LB)(u:LX)(v:List LB)(m:LB)(n:Bool)(o:Int)(a:LB)(bc bd be:Int)(bf:LB)(bg:Bool)(bh:Int)(w:List (Int×LB×Unit))(bi:LB)(bj:LX)(bk:List LB)(bl:LB):Bo:=
(Cj w ([(bb,([]:LB),())]:List (Int×LB×Unit))).bind λdt=>
j29 y bc bd be bf bl bg bh a dt bi bj bk
def TZ VX b:=oD (Lk VX b) b
def EI(j26:(UInt8×Int×Unit)->LB->Int->Int->Int->Int->Int->LB->LB->LX-> (List LB)->LB->Bool->Int->Int->Int->Int->LB->Bool->Int-> (List (Int×LB×Unit))->LB->LX-> (List LB)->LB->Bo)(j33:Int->Int->Int->Int->Int->LB->LB->LX-> (List LB)->LB->Bool->Int->LB->Int->Int->Int->LB->LB->Bool->Int->LB-> (List (Int×LB×Unit))->LB->LX-> (List LB)->Bo)(j34:Int->Int->Int->Int->Int->LB->LB->LX-> (List LB)->LB->Bool->Int->LB->Int->Int->Int->LB->Bool->Int-> (List (Int×LB×Unit))->LB->LX-> (List LB)->LB->Bo)(j29:Int->Int->Int->Int->LB->LB->Bool->Int->LB-> (List (Int×LB×Unit))->LB->LX-> (List LB)->Bo)(j31:(List (Int×LB×Unit))->Int->Int->Int->LB->LB->Bool->Int->LB->LB->LX-> (List LB)->Bo)(b:List (UInt8×Int×Unit))(y f g h:Int)(k m:LB)(n:Bool)(o:Int)(a:LB)(w:List (Int×LB×Unit))(p:LB)(u:LX)(v:List LB):Bo:=
if(Ck y (Ac b))then
(Ah b y).bind λaa=>
if(geq aa.1 1)then
(
(
(
(Bl a 0 (Ee aa.2.1 (Ac a))).bind λam=>
(
(Rw f g h k p u v m n o am).bind λ(ac,ad,ae,af,ai,aj,ak,al,ag,ah,ab)=>
j26 aa a ab y f g h k p u v m n o ac ad ae af ag ah w ai aj ak al))))
else
if(geq aa.1 2)then
(
(
(
(VL f g h k p u v m n o aa.2.1).bind λ(ao,ap,aq,ar,ay,az,ba,au,av,aw,ax,an)=>
j33 an y f g h k p u v m n o a ao ap aq ar au av aw ax w ay az ba)))
else
if(geq aa.1 3)then
(
(
(
(PY f g h k p u v m n o).bind λ(bc,bd,be,bf,bi,bj,bk,bl,bg,bh,bb)=>
j34 bb y f g h k p u v m n o a bc bd be bf bg bh w bi bj bk bl)))
else
j29 y f g h k m n o a w p u v
else
j31 w f g h k m n o a p u v
def Ll:Nat->Int->Int->Int->Int->LB->LB->Bool->Int->LB-> (List (Int×LB×Unit))->LB->LX-> (List LB)->Bo
|0,_,_,_,_,_,_,_,_,_,_,_,_,_=>none
|z+1,c,d,e,i,j,l,t,A,B,C,D,E,F=>EI (TM (Ll z) M) (UL (Ll z) M) (TZ (Ll z) M) (Lk (Ll z) M) UN M c d e i j l t A B C D E F
def oI b:=Ll b Aq
def XS(j17:(List (UInt8×Int×Unit))->Int->Int->Int->Int->LB->LB->Bool->Int->LB-> (List (Int×LB×Unit))->LB->LX-> (List LB)->Bo)(du dv dw:Int)(dx dy:LB)(b:List (UInt8×Int×Unit)):Bo:=
(EM b).bind λbq=>
if(Bi bq 0)then
some (0,0,0,([]:LB),([]:LB),([]:LX),([]:List LB),([]:LB),false,0,([]:List (Int×LB×Unit)),bq)
else
(uV du dv dw dx).bind λ(dz,fa,fb,fc,fd,fe,ff,fg,fh,fi,br)=>
if(Bi br 0)then
some (0,0,0,([]:LB),([]:LB),([]:LX),([]:List LB),([]:LB),false,0,([]:List (Int×LB×Unit)),br)
else
j17 b 0 dz fa fb fc fg fh fi dy ([]:List (Int×LB×Unit)) fd fe ff
def kC:=XS oI
def MO:Option (UInt64×UInt64):=
some ((Ae (Ae (Ce (Ct t (GI.toZ (32:UInt64)).toNat) (Ct P (GI.toZ (32:UInt64)).toNat)) (Ct (Ae (Ce (Ct t (GI.toZ (32:UInt64)).toNat) (Ex P 4294967295)) (Ct (Ce (Ex t 4294967295) (Ex P 4294967295)) (GI.toZ (32:UInt64)).toNat)) (GI.toZ (32:UInt64)).toNat)) (Ct (Ae (Ex (Ae (Ce (Ct t (GI.toZ (32:UInt64)).toNat) (Ex P 4294967295)) (Ct (Ce (Ex t 4294967295) (Ex P 4294967295)) (GI.toZ (32:UInt64)).toNat)) 4294967295) (Ce (Ex t 4294967295) (Ct P (GI.toZ (32:UInt64)).toNat))) (GI.toZ (32:UInt64)).toNat)),(Ce t P))
def Zm:Option (UInt64×UInt64):=
(MO t P).bind λ(z,c)=>
some (z,c)
abbrev Bg:=Option ((List (UInt8×Int×Unit)))
def Zo:Bg:=
some M
def Mt:=Zo
def Hu(j10:(List (UInt8×Int×Unit))->Bg)(Z3:Int-> (List (UInt8×Int×Unit))->Bg)(b:Int)(a:List (UInt8×Int×Unit)):Bg:=
if(Ck b (Ac a))then
(
(aB (Ac a) b (Ac a)).bind λ_=>
(aB (Ac a) 0 b).bind λ_=>
Z3 (Ae b (FC ((Ac a)-b) (KT a 0 (b-(0:Int))).length)) (Qo a b ((Ac a)-b) (KT a 0 (b-(0:Int)))))
else
j10 a
def Hv:Nat->Int-> (List (UInt8×Int×Unit))->Bg
|0,_,_=>none
|q+1,b,a=>Hu Mt (Hv q) b a
def AS:=Hv Aq
def Ni(j8:Int-> (List (UInt8×Int×Unit))->Bg)(f:List (UInt8×Int×Unit))(g:UInt64):Bg:=
(mkI (Ad g:Int) ((0:UInt8),(0:Int),())).bind λk=>
(Jd (geq (Ad g:Int) (Ad g:Int))).bind λ_=>
j8 (FC (Ac k) f.length) (gR k f)
def AD:=Ni AS
def Nq(j7:(List (UInt8×Int×Unit))->UInt64->Bg)(f:List (UInt8×Int×Unit))(h:Int):Bg:=
(Zm (Ad (Ac f):UInt64) (Ad h:UInt64)).bind λ(m,g)=>
if((Du m 0)||(Du g 9223372036854775807))then
none
else
j7 f g
def AJ:=Nq AD
def Ng(j6:(List (UInt8×Int×Unit))->Int->Bg)(f:List (UInt8×Int×Unit))(h:Int):Bg:=
if(Ck h 0)then
none
else
j6 f h
def Qe:=Ng AJ
def uK:Option ((List (UInt8×Int×Unit))×Int):=
if((((((Ck z 0)||(Du z 100000))||(Ck d 1))||(Du d 100000))||(Ck e 0))||(Du e 100000))then
some (([]:List (UInt8×Int×Unit)),2)
else
(Jd (Bi d 0)).bind λ_=>
if(Du (Ae (Ce 2 (Cq (Al (Ae z d) 1) d)) 2) 200)then
some (([]:List (UInt8×Int×Unit)),4)
else
(Qe ([((1:UInt8),d,()),((2:UInt8),e,())]:List (UInt8×Int×Unit)) (Cq (Al (Ae z d) 1) d)).bind λc=>
(Cj c ([((3:UInt8),(0:Int),()),((2:UInt8),(100000:Int),())]:List (UInt8×Int×Unit))).bind λi=>
some (i,0)
def sL:Option (LB):=
some c
def WB:=sL
def XL(j6:LB->Option (LB))(Qf:Int->LB->Option (LB))(a:List (Int×LB×Unit))(f:Int)(b:LB):Option (LB):=
if(Ck f (Ac a))then
(Ah a f).bind λg=>
(Cj b g.2.1).bind λh=>
Qf (Ae f 1) h
else
j6 b
def IC:Nat->Int->LB->Option (LB)
|0,_,_=>none
|z+1,c,d=>XL WB (IC z) Ayj c d
def tG a:=IC a Aq
def WA(j4:(List (Int×LB×Unit))->Int->LB->Option (LB))(a:List (Int×LB×Unit)):Option (LB):=
j4 a 0 ([]:LB)
def Bf:=WA tG
def Sr:Option Bool:=
(TF).bind λ(g,h)=>
(kC g h 8000 ([]:LB) ([(128:UInt8)]:LB) ([((1:UInt8),(1:Int),()),((3:UInt8),(0:Int),()),((2:UInt8),(22:Int),()),((2:UInt8),(100:Int),())]:List (UInt8×Int×Unit))).bind λ(di,dj,dk,dl,dm,dn,dp,dq,k,dr,a,m)=>
(uK 5 2 0).bind λ(b,f)=>
if(((geq m 0)&&k)&&(geq (Ac a) 4))then
(Ah a 0).bind λ_=>
(Ah a 0).bind λn=>
if(geq n.1 0)then
(Ah a 1).bind λ_=>
(Ah a 1).bind λo=>
if(geq o.1 0)then
(Ah a 1).bind λ_=>
(Ah a 1).bind λp=>
if(geq (Ac p.2.1) 0)then
(Ah a 2).bind λ_=>
(Ah a 2).bind λu=>
if(geq (Ac u.2.1) 22)then
(Ah a 3).bind λ_=>
(Ah a 3).bind λv=>
if(geq (Ac v.2.1) 14)then
(Bf a).bind λw=>
some (((geq (Ac w) 36)&&(geq f 0))&&(geq (Ac b) 8))
else
some ((false&&(geq f 0))&&(geq (Ac b) 8))
else
if false then
(Bf a).bind λy=>
some (((geq (Ac y) 36)&&(geq f 0))&&(geq (Ac b) 8))
else
some ((false&&(geq f 0))&&(geq (Ac b) 8))
else
if false then
(Ah a 3).bind λ_=>
(Ah a 3).bind λaa=>
if(geq (Ac aa.2.1) 14)then
(Bf a).bind λab=>
some (((geq (Ac ab) 36)&&(geq f 0))&&(geq (Ac b) 8))
else
some ((false&&(geq f 0))&&(geq (Ac b) 8))
else
if false then
(Bf a).bind λac=>
some (((geq (Ac ac) 36)&&(geq f 0))&&(geq (Ac b) 8))
else
some ((false&&(geq f 0))&&(geq (Ac b) 8))
else
if false then
(Ah a 2).bind λ_=>
(Ah a 2).bind λad=>
if(geq (Ac ad.2.1) 22)then
(Ah a 3).bind λ_=>
(Ah a 3).bind λae=>
if(geq (Ac ae.2.1) 14)then
(Bf a).bind λaf=>
some (((geq (Ac af) 36)&&(geq f 0))&&(geq (Ac b) 8))
else
some ((false&&(geq f 0))&&(geq (Ac b) 8))
else
if false then
(Bf a).bind λag=>
some (((geq (Ac ag) 36)&&(geq f 0))&&(geq (Ac b) 8))
else
some ((false&&(geq f 0))&&(geq (Ac b) 8))
else
if false then
(Ah a 3).bind λ_=>
(Ah a 3).bind λah=>
if(geq (Ac ah.2.1) 14)then
(Bf a).bind λai=>
some (((geq (Ac ai) 36)&&(geq f 0))&&(geq (Ac b) 8))
else
some ((false&&(geq f 0))&&(geq (Ac b) 8))
else
if false then
(Bf a).bind λaj=>
some (((geq (Ac aj) 36)&&(geq f 0))&&(geq (Ac b) 8))
else
some ((false&&(geq f 0))&&(geq (Ac b) 8))
else
if false then
(Ah a 1).bind λ_=>
(Ah a 1).bind λak=>
if(geq (Ac ak.2.1) 0)then
(Ah a 2).bind λ_=>
(Ah a 2).bind λal=>
if(geq (Ac al.2.1) 22)then
(Ah a 3).bind λ_=>
(Ah a 3).bind λam=>
if(geq (Ac am.2.1) 14)then
(Bf a).bind λan=>
some (((geq (Ac an) 36)&&(geq f 0))&&(geq (Ac b) 8))
else
some ((false&&(geq f 0))&&(geq (Ac b) 8))
else
if false then
(Bf a).bind λao=>
some (((geq (Ac ao) 36)&&(geq f 0))&&(geq (Ac b) 8))
else
some ((false&&(geq f 0))&&(geq (Ac b) 8))
else
if false then
(Ah a 3).bind λ_=>
(Ah a 3).bind λap=>
if(geq (Ac ap.2.1) 14)then
(Bf a).bind λaq=>
some (((geq (Ac aq) 36)&&(geq f 0))&&(geq (Ac b) 8))
else
some ((false&&(geq f 0))&&(geq (Ac b) 8))
else
if false then
(Bf a).bind λar=>
some (((geq (Ac ar) 36)&&(geq f 0))&&(geq (Ac b) 8))
else
some ((false&&(geq f 0))&&(geq (Ac b) 8))
else
if false then
(Ah a 2).bind λ_=>
(Ah a 2).bind λau=>
if(geq (Ac au.2.1) 22)then
(Ah a 3).bind λ_=>
(Ah a 3).bind λav=>
if(geq (Ac av.2.1) 14)then
(Bf a).bind λaw=>
some (((geq (Ac aw) 36)&&(geq f 0))&&(geq (Ac b) 8))
else
some ((false&&(geq f 0))&&(geq (Ac b) 8))
else
if false then
(Bf a).bind λax=>
some (((geq (Ac ax) 36)&&(geq f 0))&&(geq (Ac b) 8))
else
some ((false&&(geq f 0))&&(geq (Ac b) 8))
else
if false then
(Ah a 3).bind λ_=>
(Ah a 3).bind λay=>
if(geq (Ac ay.2.1) 14)then
(Bf a).bind λaz=>
some (((geq (Ac az) 36)&&(geq f 0))&&(geq (Ac b) 8))
else
some ((false&&(geq f 0))&&(geq (Ac b) 8))
else
if false then
(Bf a).bind λba=>
some (((geq (Ac ba) 36)&&(geq f 0))&&(geq (Ac b) 8))
else
some ((false&&(geq f 0))&&(geq (Ac b) 8))
else
if false then
(Ah a 1).bind λ_=>
(Ah a 1).bind λbb=>
if(geq bb.1 0)then
(Ah a 1).bind λ_=>
(Ah a 1).bind λbc=>
if(geq (Ac bc.2.1) 0)then
(Ah a 2).bind λ_=>
(Ah a 2).bind λbd=>
if(geq (Ac bd.2.1) 22)then
(Ah a 3).bind λ_=>
(Ah a 3).bind λbe=>
if(geq (Ac be.2.1) 14)then
(Bf a).bind λbf=>
some (((geq (Ac bf) 36)&&(geq f 0))&&(geq (Ac b) 8))
else
some ((false&&(geq f 0))&&(geq (Ac b) 8))
else
if false then
(Bf a).bind λbg=>
some (((geq (Ac bg) 36)&&(geq f 0))&&(geq (Ac b) 8))
else
some ((false&&(geq f 0))&&(geq (Ac b) 8))
else
if false then
(Ah a 3).bind λ_=>
(Ah a 3).bind λbh=>
if(geq (Ac bh.2.1) 14)then
(Bf a).bind λbi=>
some (((geq (Ac bi) 36)&&(geq f 0))&&(geq (Ac b) 8))
else
some ((false&&(geq f 0))&&(geq (Ac b) 8))
else
if false then
(Bf a).bind λbj=>
some (((geq (Ac bj) 36)&&(geq f 0))&&(geq (Ac b) 8))
else
some ((false&&(geq f 0))&&(geq (Ac b) 8))
else
if false then
(Ah a 2).bind λ_=>
(Ah a 2).bind λbk=>
if(geq (Ac bk.2.1) 22)then
(Ah a 3).bind λ_=>
(Ah a 3).bind λbl=>
if(geq (Ac bl.2.1) 14)then
(Bf a).bind λbm=>
some (((geq (Ac bm) 36)&&(geq f 0))&&(geq (Ac b) 8))
else
some ((false&&(geq f 0))&&(geq (Ac b) 8))
else
if false then
(Bf a).bind λbn=>
some (((geq (Ac bn) 36)&&(geq f 0))&&(geq (Ac b) 8))
else
some ((false&&(geq f 0))&&(geq (Ac b) 8))
else
if false then
(Ah a 3).bind λ_=>
(Ah a 3).bind λbp=>
if(geq (Ac bp.2.1) 14)then
(Bf a).bind λbq=>
some (((geq (Ac bq) 36)&&(geq f 0))&&(geq (Ac b) 8))
else
some ((false&&(geq f 0))&&(geq (Ac b) 8))
else
if false then
(Bf a).bind λbr=>
some (((geq (Ac br) 36)&&(geq f 0))&&(geq (Ac b) 8))
else
some ((false&&(geq f 0))&&(geq (Ac b) 8))
else
if false then
(Ah a 1).bind λ_=>
(Ah a 1).bind λbs=>
if(geq (Ac bs.2.1) 0)then
(Ah a 2).bind λ_=>
(Ah a 2).bind λbt=>
if(geq (Ac bt.2.1) 22)then
(Ah a 3).bind λ_=>
(Ah a 3).bind λbu=>
if(geq (Ac bu.2.1) 14)then
(Bf a).bind λbv=>
some (((geq (Ac bv) 36)&&(geq f 0))&&(geq (Ac b) 8))
else
some ((false&&(geq f 0))&&(geq (Ac b) 8))
else
if false then
(Bf a).bind λbw=>
some (((geq (Ac bw) 36)&&(geq f 0))&&(geq (Ac b) 8))
else
some ((false&&(geq f 0))&&(geq (Ac b) 8))
else
if false then
(Ah a 3).bind λ_=>
(Ah a 3).bind λbx=>
if(geq (Ac bx.2.1) 14)then
(Bf a).bind λbz=>
some (((geq (Ac bz) 36)&&(geq f 0))&&(geq (Ac b) 8))
else
some ((false&&(geq f 0))&&(geq (Ac b) 8))
else
if false then
(Bf a).bind λda=>
some (((geq (Ac da) 36)&&(geq f 0))&&(geq (Ac b) 8))
else
some ((false&&(geq f 0))&&(geq (Ac b) 8))
else
if false then
(Ah a 2).bind λ_=>
(Ah a 2).bind λdb=>
if(geq (Ac db.2.1) 22)then
(Ah a 3).bind λ_=>
(Ah a 3).bind λdc=>
if(geq (Ac dc.2.1) 14)then
(Bf a).bind λdd=>
some (((geq (Ac dd) 36)&&(geq f 0))&&(geq (Ac b) 8))
else
some ((false&&(geq f 0))&&(geq (Ac b) 8))
else
if false then
(Bf a).bind λde=>
some (((geq (Ac de) 36)&&(geq f 0))&&(geq (Ac b) 8))
else
some ((false&&(geq f 0))&&(geq (Ac b) 8))
else
if false then
(Ah a 3).bind λ_=>
(Ah a 3).bind λdf=>
if(geq (Ac df.2.1) 14)then
(Bf a).bind λdg=>
some (((geq (Ac dg) 36)&&(geq f 0))&&(geq (Ac b) 8))
else
some ((false&&(geq f 0))&&(geq (Ac b) 8))
else
if false then
(Bf a).bind λdh=>
some (((geq (Ac dh) 36)&&(geq f 0))&&(geq (Ac b) 8))
else
some ((false&&(geq f 0))&&(geq (Ac b) 8))
def FG:Option Bool:=
some (((Du (Ac c) 5000)&&(Ck (Ac c) 12000))||(Du (Ac c) 12100))
def Pe:Option Bool:=
some (((Du (Ac M) 60)&&(pB (Ac M) 200))||(Du (Ac M) 210))
def cN:Option Int:=
some 0
def GL:=cN
def Jq:Option Int:=
if(Ck Ax7 (Ac M))then
(Ah M Ax7).bind λz=>
if((((Ck z.1 1)||(Du z.1 3))||(Ck z.2.1 0))||(Du z.2.1 100000))then
some 2
else
if((geq z.1 3)&&(Bi z.2.1 0))then
some 2
else
Ax6 (Ae Ax7 1)
else
q8
def Ef:Nat->Int->Option Int
|0,_=>none
|z+1,c=>Jq GL (Ef z) M c
def HI a:=Ef a Aq
def Oe(j4:(List (UInt8×Int×Unit))->Int->Option Int)(a:List (UInt8×Int×Unit)):Option Int:=
if(Du (Ac a) 200)then
some 4
else
j4 a 0
def Td:=Oe HI
def Ev:Option Bool:=
(Pe M).bind λz=>
if(!z)then
(Td M).bind λc=>
some (geq c 0)
else
some false
def fY:Option (LB×LB×Int×Int×Int×Int×Int×LI×Int×LB×Bool×Int×Int):=
if(Du (Ac c) 64)then
some (([]:LB),([]:LB),0,0,0,0,0,([]:LI),0,([]:LB),false,0,2)
else
some (c,([]:LB),0,0,0,0,0,([]:LI),0,([]:LB),false,0,0)
def Ib:Option (LB):=
(
(Cj ([]:LB) c).bind λz=>
some z)
def Gf:Option (LI):=
(
(Cj ([]:LI) I).bind λz=>
some z)
def Dq:Option (LB×LB×Int×Int×Int×Int×Int×LI×Int×LB×Bool×Int):=
(Ib C).bind λj=>
(Ib i).bind λt=>
(Gf F).bind λE=>
some (c,j,z,d,e,B,D,E,G,t,A,l)
def Ok:Option (LI):=
some I
def Jm:=Ok
def Hj(j10:LI->Option (LI))(Z3:Int->LI->Option (LI))(b:Int)(a:LI):Option (LI):=
if(Ck b (Ac a))then
(
(aB (Ac a) b (Ac a)).bind λ_=>
(aB (Ac a) 0 b).bind λ_=>
Z3 (Ae b (FC ((Ac a)-b) (KT a 0 (b-(0:Int))).length)) (Qo a b ((Ac a)-b) (KT a 0 (b-(0:Int)))))
else
j10 a
def Ey:Nat->Int->LI->Option (LI)
|0,_,_=>none
|q+1,b,a=>Hj Jm (Ey q) b a
def Zn:=Ey Aq
def Qb:Option (LI):=
(mkI (Ad Ayv:Int) (0:Int)).bind λz=>
(Jd (geq (Ad Ayv:Int) (Ad Ayv:Int))).bind λ_=>
Ay7 (FC (Ac z) Ayz.length) (gR z Ayz)
def Zi:=Qb Zn
def Pw(j7:LI->UInt64->Option (LI))(f:LI)(h:Int):Option (LI):=
(Zm (Ad (Ac f):UInt64) (Ad h:UInt64)).bind λ(m,g)=>
if((Du m 0)||(Du g 9223372036854775807))then
none
else
j7 f g
def Zp:=Pw Zi
def Pz(j6:LI->Int->Option (LI))(f:LI)(h:Int):Option (LI):=
if(Ck h 0)then
none
else
j6 f h
def Og:=Pz Zp
def SN:Option (LI):=
some I
def Xx:=SN
def Gs(j16:LI->Option (LI))(iD:Int->LI->Option (LI))(a:List LI)(g:Int)(f:LI):Option (LI):=
if(Ck g (Ac a))then
(Ah a g).bind λn=>
(Cj f n).bind λo=>
iD (Ae g 1) o
else
j16 f
def En:Nat->Int->LI->Option (LI)
|0,_,_=>none
|z+1,c,d=>Gs Xx (En z) Ayw c d
def Oq a:=En a Aq
def Om(j14:(List LI)->Int->LI->Option (LI))(a:List LI)(p:LI):Option (LI):=
j14 a 0 p
def Ot:=Om Oq
def On(j13:(List LI)->LI->Option (LI))(b:Int)(a:List LI):Option (LI):=
if(Du (Al b (Al (0:Int) (0:Int))) 0)then
(aB 0 0 0).bind λ_=>
(mkI (Al b (Al (0:Int) (0:Int))) (0:Int)).bind λu=>
(Cj ([]:LI) u).bind λk=>
(aB (Ac k) 0 0).bind λ_=>
j13 a (KT k 0 ((0:Int)-(0:Int)))
else
j13 a ([]:LI)
def Xv:=On Ot
def Ou(j12:Int-> (List LI)->Option (LI))(a:List LI)(b:Int):Option (LI):=
if(Ck b 0)then
none
else
j12 b a
def Xt:=Ou Xv
def Hh(j11:(List LI)->Int->Option (LI))(bk9:Int->Int->Option (LI))(a:List LI)(b h:Int):Option (LI):=
if(Ck h (Ac a))then
(Ah a h).bind λm=>
if(Ck (Ae b (Ac m)) 0)then
none
else
bk9 (Ae b (Ac m)) (Ae h 1)
else
j11 a b
def Ew:Nat->Int->Int->Option (LI)
|0,_,_=>none
|z+1,c,d=>Hh Xt (Ew z) Ayw c d
def Zd a:=Ew a Aq
def Py(j9:(List LI)->Int->Int->Option (LI))(a:List LI):Option (LI):=
j9 a 0 0
def Nz:=Py Zd
def RA:Option (LI):=
(Nz ([I,F]:List LI)).bind λz=>
some z
def TC:Option (LI×Int):=
(Ze z d).bind λ(c,e)=>
if(Bi e 0)then
some (([]:LI),e)
else
(Rs z).bind λ(i,j)=>
(Og ([i]:LI) (Al c 1)).bind λl=>
(RA l ([(Al d (Ce (Al c 1) i))]:LI)).bind λt=>
some (t,0)
def Dz:Option (LI×Int):=
(Rq z d e B D).bind λc=>
if(Bi c 0)then
some (([]:LI),c)
else
(TC B D).bind λ(i,j)=>
some (i,j)
def Nk(a f g h k:Int)(b:LB):Option Int:=
if((b==([]:LB)) !=(geq a 1))then
some 26
else
some 0
def bG(y:Int)(o p:LB)(h b f k m:Int)(g:LI)(a:Int)(n:LB)(u:Bool)(v:Int):Option Bool:=
some (pB (Ac n) y)
def MR:=bG
def Zs(j8:Int->LB->LB->Int->Int->Int->Int->Int->LI->Int->LB->Bool->Int->Option Bool)(H2:Int->Int->Option Bool)(w:LI)(o p:LB)(h b f k m:Int)(g:LI)(a:Int)(n:LB)(u:Bool)(v y aa:Int):Option Bool:=
if(Ck aa (Ac w))then
(Ah w aa).bind λac=>
H2 (Ae y (Cq (Ce (Ce ac b) f) 8)) (Ae aa 1)
else
j8 y o p h b f k m g a n u v
def Oz:Nat->Int->Int->Option Bool
|0,_,_=>none
|j+1,t,E=>Zs MR (Oz j) I c C z d e B D F G i A l t E
def cD w o p h b f k m g a n u v:=Oz w o p h b f k m g a n u v Aq
def MQ(j6:LI->LB->LB->Int->Int->Int->Int->Int->LI->Int->LB->Bool->Int->Int->Int->Option Bool)(o p:LB)(h b f k m:Int)(g:LI)(a:Int)(n:LB)(u:Bool)(v:Int)(ab:LI):Option Bool:=
if(geq (Ac g) 0)then
some ((geq a 0)&&(geq (Ac n) 0))
else
(Ps g).bind λad=>
if((((Bi ad 0)||(Bi (Ac g) (Ac ab)))||(Ck a 0))||(Du a (Ac ab)))then
some false
else
(Bl ab 0 a).bind λw=>
j6 w o p h b f k m g a n u v 0 0
def cB:=MQ cD
def MW(j5:LB->LB->Int->Int->Int->Int->Int->LI->Int->LB->Bool->Int->LI->Option Bool)(o p:LB)(h b f k m:Int)(g:LI)(a:Int)(n:LB)(u:Bool)(v:Int):Option Bool:=
if((geq h 0)&&((geq b 0)&&((geq f 0)&&((geq k 0)&&((geq m 0)&&true)))))then
some (((geq (Ac g) 0)&&(geq a 0))&&(geq (Ac n) 0))
else
(Dz h b f k m).bind λ(ab,ae)=>
if(Bi ae 0)then
some false
else
(Nk h b f k m o).bind λaf=>
if(Bi af 0)then
some false
else
j5 o p h b f k m g a n u v ab
def Xc:=MW cB
def Ji:Option Bool:=
some (c==C)
def Lr:Option Bool:=
if(Ks (Ac c) (Ac C))then
(Bl c 0 (Ac C)).bind λz=>
(Ji z C).bind λd=>
some d
else
some false
abbrev Lu:=Option (Int×Int)
def rX:Lu:=
some (z,0)
def XW:=rX
def Xg(j6:Int->Lu)(Qf:Int->Int->Lu)(a:LB)(b f:Int):Lu:=
if(Ck f (Ac a))then
(Ah a f).bind λg=>
if(Du g 127)then
some (0,12)
else
Qf (uW (Eh b (GI.toZ (7:UInt64)).toNat) (Ad g:Int)) (Ae f 1)
else
j6 b
def Mw:Nat->Int->Int->Lu
|0,_,_=>none
|z+1,d,e=>Xg XW (Mw z) c d e
def WI a:=Mw a Aq
def IU(j4:LB->Int->Int->Lu)(a:LB):Lu:=
if(Bi (Ac a) 4)then
some (0,2)
else
j4 a 0 0
def JC:=IU WI
abbrev Iu:=Option (Int×Int)
def bP:Iu:=
if(Du Y 4000)then
some (0,4)
else
if(Ck (Ac c) Y)then
some (0,24)
else
if(geq Ax8 16)then
(Bl c (Al Y 10) Y).bind λz=>
(Bl z 0 3).bind λd=>
if(d !=([51,68,73]:LB))then
some (0,12)
else
(Bl z 3 (Ac z)).bind λe=>
(Bl c 3 10).bind λi=>
(Ji e i).bind λj=>
if(!j)then
some (0,12)
else
some (Y,0)
else
some (Y,0)
def MI:=bP
def bZ(j8:LB->UInt8->Int->Iu)(a:LB)(g:Int)(b:UInt8):Iu:=
if(geq b 16)then
j8 a b (Ae (Ae g 10) 10)
else
j8 a b (Ae g 10)
def NB:=bZ MI
def bE(j7:LB->Int->UInt8->Iu)(a:LB)(g:Int)(b:UInt8)(m:Bool):Iu:=
if m then
some (0,12)
else
j7 a g b
def MB:=bE NB
def NA(j6:LB->Int->UInt8->Bool->Iu)(a:LB)(f b:UInt8):Iu:=
(Bl a 6 10).bind λaa=>
(JC aa).bind λ(g,ab)=>
if(Bi ab 0)then
if true then
j6 a g b true
else
if(geq b 0)then
j6 a g b (!((Ks f 2)&&(pB f 4)))
else
if(geq b 16)then
j6 a g b (!(geq f 4))
else
j6 a g b (!false)
else
(Ah a 4).bind λac=>
if(Bi ac 0)then
j6 a g b true
else
if(geq b 0)then
j6 a g b (!((Ks f 2)&&(pB f 4)))
else
if(geq b 16)then
j6 a g b (!(geq f 4))
else
j6 a g b (!false)
def ML:=NA MB
def Zu(j5:LB->UInt8->UInt8->Iu)(a:LB):Iu:=
(Lr a ([(73:UInt8),(68:UInt8),(51:UInt8)]:LB)).bind λn=>
if(!n)then
some (0,6)
else
if(Ck (Ac a) 10)then
some (0,24)
else
(Ah a 3).bind λf=>
(Ah a 5).bind λb=>
(
(
(
j5 a f b)))
def OK:=Zu ML
abbrev BD:=Option (UInt64×Int)
def jq:BD:=
some (t,0)
def uL:=jq
def TR(j6:UInt64->BD)(Qf:UInt64->Int->BD)(a:LB)(f:UInt64)(b:Int):BD:=
if(Ck b (Ac a))then
(Ah a b).bind λg=>
(Jd (Ks (Ce 8 b) 0)).bind λ_=>
Qf (uW f (Eh (Ad g:UInt64) (GI.toZ (Ce 8 b)).toNat)) (Ae b 1)
else
j6 f
def BO:Nat->UInt64->Int->BD
|0,_,_=>none
|z+1,d,e=>TR uL (BO z) c d e
def vA a:=BO a Aq
def hH(j4:LB->UInt64->Int->BD)(a:LB):BD:=
if((Ck (Ac a) 1)||(Du (Ac a) 8))then
some (0,2)
else
j4 a 0 0
def eT:=hH vA
def XQ:Option (UInt64×Int):=
if(((Ck d 1)||(Du d 8))||(Ck z 0))then
some (0,2)
else
if(Du z (Al (Ac c) d))then
some (0,24)
else
(Bl c z (Ae z d)).bind λe=>
(eT e).bind λ(i,j)=>
some (i,j)
def C6:Option (LB):=
some c
def mE:=C6
def ZU(j6:LB->Option (LB))(Qf:Int->LB->Option (LB))(a b:Int)(f:UInt64)(h:Int)(g:LB):Option (LB):=
if(Ck h (Ac ([(2000:UInt64),(Ad (Ae a 32):UInt64),(Ad b:UInt64),f,(0:UInt64),(0:UInt64)]:LQ)))then
(Ah ([(2000:UInt64),(Ad (Ae a 32):UInt64),(Ad b:UInt64),f,(0:UInt64),(0:UInt64)]:LQ) h).bind λ_=>
(Ah ([(2000:UInt64),(Ad (Ae a 32):UInt64),(Ad b:UInt64),f,(0:UInt64),(0:UInt64)]:LQ) h).bind λk=>
(Yy k 4).bind λ(m,o)=>
(Cj g m).bind λn=>
Qf (Ae h 1) n
else
j6 g
def BH:Nat->Int->LB->Option (LB)
|0,_,_=>none
|c+1,e,i=>ZU mE (BH c) z d t e i
def yH a b f:=BH a b f Aq
def mR(j4:Int->Int->UInt64->Int->LB->Option (LB))(a b:Int)(f:UInt64):Option (LB):=
j4 a b f 0 ([(65:UInt8),(80:UInt8),(69:UInt8),(84:UInt8),(65:UInt8),(71:UInt8),(69:UInt8),(88:UInt8)]:LB)
def iJ:=mR yH
def PG:Option (Int×Int×Bool):=
(XQ c 12 4).bind λ(z,d)=>
(XQ c 16 4).bind λ(e,i)=>
if(((Ck z 32)||(Du z 3032))||(Du e 1000))then
some (0,0,false)
else
(iJ (Al (Ad z:Int) 32) (Ad e:Int) t).bind λj=>
(Ji c j).bind λl=>
some ((Al (Ad z:Int) 32),(Ad e:Int),l)
def iM:Option (Int×Int):=
(Lr c ([(65:UInt8),(80:UInt8),(69:UInt8),(84:UInt8),(65:UInt8),(71:UInt8),(69:UInt8),(88:UInt8)]:LB)).bind λz=>
if(!z)then
some (0,6)
else
if(Ck (Ac c) 32)then
some (0,24)
else
(Bl c 0 32).bind λd=>
(PG d 2684354560).bind λ(e,i,j)=>
if(!j)then
some (0,12)
else
if(Ck (Ac c) (Ae e 64))then
some (0,24)
else
(Bl c (Al (Ae e 64) 32) (Ae e 64)).bind λl=>
(iJ e i 2147483648).bind λt=>
(Ji l t).bind λA=>
if(!A)then
some (0,12)
else
some ((Ae e 64),0)
def Wb:Option (Int×Int):=
(OK c).bind λ(z,d)=>
if(Bi d 6)then
some (z,d)
else
(iM c).bind λ(e,i)=>
some (e,i)
def Tq(b:List UInt8):Nat->Int->Option (Int×Int)
  |0,_=>none
  |q+1,x=>Option.bind (Bl b x (Ac b)) λs=>Option.bind (Wb s) λr=>
    if geq r.2 (6:Int)=true then some (x,0)
    else if(geq r.2 (0:Int)&&Du (Ae x r.1) (4000:Int))=true then some (0,4)
    else if Bi r.2 (0:Int)=true then some (0,r.2)
    else Tq b q (Ae x r.1)
def Lf(b:List UInt8):Option (Int×Int):=Tq b Aq 0
def Aj:Option (Bool×Int):=
some (false,z)
def Gl:Option Bool:=
if(Ks (Ac c) (Ac C))then
(Bl c 0 (Ac C)).bind λz=>
some (z==C)
else
some false
def Ig:Option Bool:=
(Gl c C).bind λz=>
some z
def vP:Option Bool:=
some false
def bO:=vP
def Th(j6:Option Bool)(Qf:Int->Option Bool)(a:LB)(b:Int):Option Bool:=
if(Ck b 2)then
(Ah ([([73,68,51]:LB),([65,80,69,84,65,71,69,88]:LB)]:List LB) b).bind λf=>
if(Ck (Ac a) (Ac f))then
(Ig f a).bind λg=>
if g then
some true
else
Qf (Ae b 1)
else
Qf (Ae b 1)
else
j6
def Je:Nat->Int->Option Bool
|0,_=>none
|z+1,d=>Th bO (Je z) c d
def bR a:=Je a Aq
def MU(j4:LB->Int->Option Bool)(a:LB):Option Bool:=
j4 a 0
def Pu:=MU bR
abbrev Qc:=Option (Int×Int×Int×Int×Int×Int)
def gP:Qc:=
(Ah I 0).bind λ_=>
(Ah I 0).bind λz=>
(Ah I 1).bind λ_=>
(Ah I 1).bind λc=>
(Ah I 2).bind λ_=>
(Ah I 2).bind λd=>
(Ah I 3).bind λ_=>
(Ah I 3).bind λe=>
(Ah I 4).bind λ_=>
(Ah I 4).bind λi=>
(Pv z c d e i).bind λj=>
if(!j)then
some (0,0,0,0,0,12)
else
(LH z c d e i).bind λl=>
if(!l)then
some (0,0,0,0,0,4)
else
some (z,c,d,e,i,0)
def DJ:=gP
def DK(j6:LI->Qc)(Qf:Int->Int->LI->Qc)(b:LB)(g f:Int)(a:LI):Qc:=
if(Ck f 5)then
(Ah ([(2:Int),(2:Int),(2:Int),(4:Int),(4:Int)]:LI) f).bind λh=>
(XQ b g h).bind λ(v,ae)=>
(Ah a f).bind λ_=>
(Mi a f (Ad v:Int)).bind λw=>
Qf (Ae g h) (Ae f 1) w
else
j6 a
def Nd:Nat->Int->Int->LI->Qc
|0,_,_,_=>none
|z+1,d,e,i=>DK DJ (Nd z) c d e i
def QQ b:=Nd b Aq
def RO(j4:LB->Int->Int->LI->Qc)(b:LB):Qc:=
(Bl b 0 (Ee 4 (Ac b))).bind λy=>
(Ig ([84,84,65,49]:LB) y).bind λaa=>
if(!aa)then
some (0,0,0,0,0,12)
else
if(Ck (Ac b) 22)then
some (0,0,0,0,0,24)
else
(XQ b 18 4).bind λ(ab,af)=>
(Bl b 0 18).bind λac=>
(Xd ac).bind λ(ad,ag)=>
if(Bi (Ad ad:UInt64) ab)then
some (0,0,0,0,0,22)
else
j4 b 4 0 (List.replicate 5 (0:Int))
def Ph:=RO QQ
def FN:Option (Bool×Int):=
(EP C).bind λ(z,d)=>
if((Bi d 0)||(Bi (Ac c) (Ac z)))then
some (false,2)
else
(Ji c z).bind λe=>
some (e,0)
abbrev Sm:=Option (LI×Int)
def lJ:Sm:=
(Ps I).bind λz=>
if(Bi z 0)then
some (([]:LI),12)
else
some (I,0)
def IX:=lJ
def JB(j6:LI->Sm)(Qf:Int->LI->Sm)(a:LB)(f:LI)(g:Int)(b:LI):Sm:=
if(Ck g (Ac f))then
(XQ a (Ce 4 g) 4).bind λ(k,u)=>
(Ah b g).bind λ_=>
(Mi b g (Ad k:Int)).bind λm=>
Qf (Ae g 1) m
else
j6 b
def Tn:Nat->Int->LI->Sm
|0,_,_=>none
|z+1,d,e=>JB IX (Tn z) c F d e
def kR a f:=Tn a f Aq
def VW(j4:LB->LI->Int->LI->Sm)(a:LB)(h:Int):Sm:=
if((Ck h 1)||(Du h 1000))then
some (([]:LI),2)
else
if(Ck (Ac a) (Ae (Ce 4 h) 4))then
some (([]:LI),24)
else
(XQ a (Ce 4 h) 4).bind λ(n,v)=>
(Bl a 0 (Ce 4 h)).bind λo=>
(Xd o).bind λ(p,w)=>
if(Bi (Ad p:UInt64) n)then
some (([]:LI),22)
else
(mkI h (0:Int)).bind λf=>
(Jd (geq h h)).bind λ_=>
j4 a f 0 f
def RC:=VW kR
def Za(f a b g h:Int):Option (Int×Int):=
some (a,b)
def EJ:Option (LB×Int):=
if(Ck (Ac c) 5)then
some (([]:LB),24)
else
if(Du (Ac c) 41254)then
some (([]:LB),4)
else
(Bl c 0 (Al (Ac c) 4)).bind λz=>
(Xd z).bind λ(d,e)=>
if(Bi e 0)then
some (([]:LB),e)
else
(Bl c (Al (Ac c) 4) (Ac c)).bind λi=>
(eT i).bind λ(j,l)=>
if((Bi l 0)||(Bi j (Ad d:UInt64)))then
some (([]:LB),22)
else
(Bl c 0 (Al (Ac c) 4)).bind λt=>
some (t,0)
def X4:Option (LB×Int×Int):=
if(Du (Ac c) 41250)then
some (([]:LB),0,4)
else
(Cw c).bind λz=>
some (z,(Ce 8 (Ac c)),0)
def zy:Option UInt64:=
some t
def uZ:=zy
def fR(j6:UInt64->Option UInt64)(Qf:UInt64->Int->Option UInt64)(b f:Int)(h:LB)(k:Int)(g:UInt64)(a:Int):Option UInt64:=
if(Ck a f)then
(Ah h (W7 (Ae b a) (GI.toZ (3:UInt64)).toNat)).bind λm=>
(Jd (Ks (Ex (Ae b a) 7) 0)).bind λ_=>
(Jd (Ks (Ee (Al f a) (Al 8 (Ex (Ae b a) 7))) 0)).bind λ_=>
(Jd (Ks a 0)).bind λ_=>
Qf (uW g (Eh (Ad (Ex (Ct m (GI.toZ (Ex (Ae b a) 7)).toNat) (Al (Eh (1:UInt8) (GI.toZ (Ee (Al f a) (Al 8 (Ex (Ae b a) 7)))).toNat) 1)):UInt64) (GI.toZ a).toNat)) (Ae a (Ee (Al f a) (Al 8 (Ex (Ae b a) 7))))
else
j6 g
def KI:Nat->UInt64->Int->Option UInt64
|0,_,_=>none
|c+1,e,j=>fR uZ (KI c) z d i l e j
def qb b f h k:=KI b f h k Aq
def tW(j4:Int->Int->LB->Int->UInt64->Int->Option UInt64)(h:LB)(k b f:Int):Option UInt64:=
j4 b f h k 0 0
def pY:=tW qb
abbrev Fj:=Option (LB×Int×Int)
def qB:Fj:=
some (i,z,0)
def ZG:=qB
def oV(bC:Int->Int->LB->Fj)(a:Int)(g:LB)(b f h:Int)(u:LB):Fj:=
bC (Ae f 64) h u
def OJ bC:=oV bC
def oX(H3:UInt64->Int->Int->LB->Fj)(a f:Int)(g:LB)(b:Int)(m n:UInt64)(k h:Int)(w:LB):Fj:=
(Jd (Ks (Ee k (Al 8 (Ex h 7))) 0)).bind λ_=>
H3 (Ct n (GI.toZ (Ee k (Al 8 (Ex h 7)))).toNat) (Al k (Ee k (Al 8 (Ex h 7)))) (Ae h (Ee k (Al 8 (Ex h 7)))) w
def pL H3:=oX H3
def qR(j48:UInt64->Int->Int->LB->Fj)(a f:Int)(g:LB)(b:Int)(m n:UInt64)(k h:Int)(v:LB):Fj:=
(Ah v (Al (Ac v) 1)).bind λ_=>
(Jd (Ks (Ee k (Al 8 (Ex h 7))) 0)).bind λ_=>
(Jd (Ks (Ex h 7) 0)).bind λ_=>
(Ah v (Al (Ac v) 1)).bind λaa=>
(Ah v (Al (Ac v) 1)).bind λ_=>
Option.bind (Mi v (Al (Ac v) 1) (uW aa (Eh (Ad (Ex n (Al (Eh (1:UInt64) (GI.toZ (Ee k (Al 8 (Ex h 7)))).toNat) 1)):UInt8) (GI.toZ (Ex h 7)).toNat))) λw=>
j48 n k h w
def OQ H3 a f g b m:=qR (pL H3 a f g b m) a f g b m
def OP(j47:UInt64->Int->Int->LB->Fj)(j50:Int->Int->LB->Fj)(a:Int)(g:LB)(b f:Int)(m n:UInt64)(k h:Int)(u:LB):Fj:=
if(Du k 0)then
if(geq (Ex h 7) 0)then
(Cj u ([(0:UInt8)]:LB)).bind λab=>
j47 n k h ab
else
j47 n k h u
else
j50 f h u
def Pj(bC:Int->Int->LB->Fj)(a:Int)(g:LB)(b f:Int)(m:UInt64):Nat->UInt64->Int->Int->LB->Fj
|0,_,_,_,_=>none
|q+1,n,k,h,u=>OP (OQ (Pj bC a g b f m q) a f g b m) (OJ bC a g b) a g b f m n k h u
def aN bC a g b f m:=Pj bC a g b f m Aq
def aI(j44:Int->UInt64->UInt64->Int->Int->LB->Fj)(j52:Int->LB->Fj)(a:Int)(g:LB)(b f o:Int)(p:LB):Fj:=
if(Ck f a)then
(pY g b f (Ee 64 (Al a f))).bind λm=>
j44 f m m (Ee 64 (Al a f)) o p
else
j52 o p
def Xb:Nat->Int->Int->LB->Fj
|0,_,_,_=>none
|c+1,d,e,j=>aI (aN (Xb c) z i l) ZG z i l d e j
def nF a g b:=Xb a g b Aq
def fV(j27:Int->LB->Int->Int->Int->LB->Fj)(g:LB)(b y a:Int):Fj:=
(Km g b).bind λac=>
if(Bi ac 0)then
some (([]:LB),0,8)
else
if(((Ck y 0)||(Du y a))||(Du a b))then
some (([]:LB),0,2)
else
j27 a g b y 0 ([]:LB)
def fO:=fV nF
def EX:Option (UInt64×Int):=
(Km c z).bind λi=>
if(Bi i 0)then
some (0,8)
else
if(((Ck e 0)||(Du e 64))||(Ck d 0))then
some (0,2)
else
if(Du d (Al z e))then
some (0,24)
else
(pY c z d e).bind λj=>
some (j,0)
def Gq:Option Int:=
if(geq t 0)then
some 64
else
(Ah ([(0:UInt8),(1:UInt8),(56:UInt8),(2:UInt8),(57:UInt8),(49:UInt8),(28:UInt8),(3:UInt8),(61:UInt8),(58:UInt8),(42:UInt8),(50:UInt8),(38:UInt8),(29:UInt8),(17:UInt8),(4:UInt8),(62:UInt8),(47:UInt8),(59:UInt8),(36:UInt8),(45:UInt8),(43:UInt8),(51:UInt8),(22:UInt8),(53:UInt8),(39:UInt8),(33:UInt8),(30:UInt8),(24:UInt8),(18:UInt8),(12:UInt8),(5:UInt8),(63:UInt8),(55:UInt8),(48:UInt8),(27:UInt8),(60:UInt8),(41:UInt8),(37:UInt8),(16:UInt8),(46:UInt8),(35:UInt8),(44:UInt8),(21:UInt8),(52:UInt8),(32:UInt8),(23:UInt8),(11:UInt8),(54:UInt8),(26:UInt8),(40:UInt8),(15:UInt8),(34:UInt8),(20:UInt8),(31:UInt8),(10:UInt8),(25:UInt8),(14:UInt8),(19:UInt8),(9:UInt8),(13:UInt8),(8:UInt8),(7:UInt8),(6:UInt8)]:LB) (GI.toZ (Ct (Ce (Ex t (nW t)) 285870213051353865) (GI.toZ (58:UInt64)).toNat))).bind λz=>
some (Ad z:Int)
abbrev Il:=Option (Int×Int×Int)
def yW:Il:=
some (0,0,24)
def yT:=yW
def J3(j10:Il):Il:=
j10
def I4:=J3 yT
def kK(j9:Il)(f a:Int):Il:=
if(geq f 48)then
some (f,(Ae 0 (Ae a f)),0)
else
j9
def kX:=kK I4
def kQ(j8:Int->Int->Il)(f b a:Int):Il:=
if(Ck f (Ee 48 (Al b a)))then
some (f,(Ae (Ae (0:Int) (1:Int)) (Ae a f)),0)
else
j8 f a
def lC:=kQ kX
def lA(j7:Int->Int->Int->Il)(h:Int)(k:UInt64)(a:Int)(g:LB)(b:Int):Il:=
if(Bi h 0)then
some (0,0,h)
else
(Gq (B7 k)).bind λf=>
j7 f b a
def VF:=lA lC
def Zl(j6:Int->UInt64->Int->LB->Int->Il)(g:LB)(b a:Int):Il:=
(Km g b).bind λm=>
if(Bi m 0)then
some (0,0,m)
else
if(Ck a 0)then
some (0,0,2)
else
if(Ks a b)then
some (0,0,24)
else
(
(
(EX g b a (Ee 48 (Al b a))).bind λ(k,h)=>
j6 h k a g b))
def IK:=Zl VF
abbrev gA:=Option (UInt32×Int×Int)
def ZX:gA:=
(EX i l d V).bind λ(c,j)=>
if(Bi j 0)then
some (0,0,j)
else
if(Ck e 48)then
(Jd (Ks z 0)).bind λ_=>
some ((uW (Eh (Ad e:UInt32) (GI.toZ z).toNat) (Ad c:UInt32)),(Ae d V),0)
else
(OW (Ad c:UInt32) z).bind λt=>
if(!t)then
some (0,0,12)
else
some ((Ad c:UInt32),(Ae d V),0)
def aQ:=ZX
def pJ(j2:Int->Int->Int->LB->Int->Int->gA)(g:LB)(h v a:Int):gA:=
(Km g h).bind λo=>
if(Bi o 0)then
some (0,0,o)
else
if((Ck a 0)||(Du a 24))then
some (0,0,2)
else
(IK g h v).bind λ(f,b,p)=>
if(Bi p 0)then
some (0,0,p)
else
if(geq f 48)then
j2 a b f g h 32
else
j2 a b f g h a
def iS:=pJ aQ
abbrev Lh:=Option (UInt32×Int×Int×Int×UInt64×UInt64×Int)
def kE:Lh:=
some (O,T,Ayt,Z,(Ae Ayi (Al (Ad O:UInt64) (Ct Ayi (GI.toZ (4:UInt64)).toNat))),Aym,0)
def kO:=kE
def pW(j10:UInt32->Int->Int->Int->UInt64->UInt64->Lh)(f:UInt32)(k m:Int)(b n:UInt64)(w:Int):Lh:=
j10 f k w m b n
def nJ:=pW kO
def qN(j9:UInt32->Int->Int->UInt64->UInt64->Int->Lh)(f:UInt32)(k a:Int)(b:UInt64)(m:Int)(n:UInt64):Lh:=
if(Du a 0)then
(Jd (Ks a 0)).bind λ_=>
if(Ck (Ae b (Al (Ad f:UInt64) (Ct b (GI.toZ (4:UInt64)).toNat))) (Eh (16:UInt64) (GI.toZ a).toNat))then
j9 f k m b n (Al a 1)
else
if(Ck a 24)then
(Jd (Ks a 0)).bind λ_=>
if(Du (Ae b (Al (Ad f:UInt64) (Ct b (GI.toZ (4:UInt64)).toNat))) (Eh (32:UInt64) (GI.toZ a).toNat))then
j9 f k m b n (Ae a 1)
else
j9 f k m b n a
else
j9 f k m b n a
else
if(Ck a 24)then
(Jd (Ks a 0)).bind λ_=>
if(Du (Ae b (Al (Ad f:UInt64) (Ct b (GI.toZ (4:UInt64)).toNat))) (Eh (32:UInt64) (GI.toZ a).toNat))then
j9 f k m b n (Ae a 1)
else
j9 f k m b n a
else
j9 f k m b n a
def FU:=qN nJ
def ZH(j8:UInt32->Int->Int->UInt64->Int->UInt64->Lh)(a h:Int)(b g:UInt64)(f:UInt32)(k:Int):Lh:=
(IP a h b g f).bind λ(ad,o)=>
if(geq ad 1)then
if(Du h 0)then
(Jd (Ks h 0)).bind λ_=>
if(Ck (Ae g (Al (Ad o:UInt64) (Ct g (GI.toZ (4:UInt64)).toNat))) (Eh (16:UInt64) (GI.toZ h).toNat))then
j8 f k a b (Al h 1) (Ae g (Al (Ad o:UInt64) (Ct g (GI.toZ (4:UInt64)).toNat)))
else
if(Ck h 24)then
(Jd (Ks h 0)).bind λ_=>
if(Du (Ae g (Al (Ad o:UInt64) (Ct g (GI.toZ (4:UInt64)).toNat))) (Eh (32:UInt64) (GI.toZ h).toNat))then
j8 f k a b (Ae h 1) (Ae g (Al (Ad o:UInt64) (Ct g (GI.toZ (4:UInt64)).toNat)))
else
j8 f k a b h (Ae g (Al (Ad o:UInt64) (Ct g (GI.toZ (4:UInt64)).toNat)))
else
j8 f k a b h (Ae g (Al (Ad o:UInt64) (Ct g (GI.toZ (4:UInt64)).toNat)))
else
if(Ck h 24)then
(Jd (Ks h 0)).bind λ_=>
if(Du (Ae g (Al (Ad o:UInt64) (Ct g (GI.toZ (4:UInt64)).toNat))) (Eh (32:UInt64) (GI.toZ h).toNat))then
j8 f k a b (Ae h 1) (Ae g (Al (Ad o:UInt64) (Ct g (GI.toZ (4:UInt64)).toNat)))
else
j8 f k a b h (Ae g (Al (Ad o:UInt64) (Ct g (GI.toZ (4:UInt64)).toNat)))
else
j8 f k a b h (Ae g (Al (Ad o:UInt64) (Ct g (GI.toZ (4:UInt64)).toNat)))
else
j8 f k a b h g
def ZL:=ZH FU
def ZO(j7:Int->Int->UInt64->UInt64->UInt32->Int->Lh)(p:Int)(u:LB)(v a h:Int)(b g:UInt64):Lh:=
(EX u v p 1).bind λ(ae,aa)=>
if(Bi aa 0)then
some (0,0,0,0,0,0,aa)
else
if(geq ae 0)then
(EX u v (Ae p 1) a).bind λ(af,ab)=>
if(Bi ab 0)then
some (0,0,0,0,0,0,ab)
else
j7 a h b g (Ad af:UInt32) (Ae (Ae p 1) a)
else
(iS u v (Ae p 1) h).bind λ(y,ag,ac)=>
if(Bi ac 0)then
some (0,0,0,0,0,0,ac)
else
(Jd (Ks a 0)).bind λ_=>
if(Ck (Ae y (Eh (1:UInt32) (GI.toZ a).toNat)) y)then
some (0,0,0,0,0,0,12)
else
j7 a h b g (Ae y (Eh (1:UInt32) (GI.toZ a).toNat)) ag
def qP:=ZO ZL
def aY(j6:Int->LB->Int->Int->Int->UInt64->UInt64->Lh)(u:LB)(v p a h:Int)(b g:UInt64):Lh:=
(Km u v).bind λah=>
if(Bi ah 0)then
some (0,0,0,0,0,0,8)
else
(RQ a h b g).bind λai=>
if(Bi ai 0)then
some (0,0,0,0,0,0,8)
else
j6 p u v a h b g
def IE:=aY qP
abbrev Ca:=Option (LU×Int×Int)
def mI:Ca:=
some (R,z,0)
def RR:=mI
def RP(Hn:Int->Int-> (List (Int×Int×UInt64×UInt64×Unit))->LU->Ca)(a f:Int)(g:LB)(b k v:Int)(w:UInt32)(h:Int)(ah:List (Int×Int×UInt64×UInt64×Unit))(n:LU):Ca:=
(Cj n ([w]:LU)).bind λak=>
Hn (Ae k v) (Ae h 1) ah ak
def PZ Hn:=RP Hn
def AH(j22:Int->Int->UInt32->Int-> (List (Int×Int×UInt64×UInt64×Unit))->LU->Ca)(a f:Int)(g:LB)(b k h y:Int)(w:UInt32)(v:Int)(m:List (Int×Int×UInt64×UInt64×Unit))(n:LU)(aa ab:Int)(ac ad:UInt64):Ca:=
if(Bi y 0)then
some (([]:LU),0,y)
else
(Jd (Bi a 0)).bind λ_=>
(Ah m (Ho h a)).bind λ_=>
(Mi m (Ho h a) (aa,ab,ac,ad,())).bind λah=>
j22 k v w h ah n
def Sf Hn a f g b:=AH (PZ Hn a f g b) a f g b
def Ta(j21:Int->Int->Int->UInt32->Int-> (List (Int×Int×UInt64×UInt64×Unit))->LU->Int->Int->UInt64->UInt64->Ca)(j24:Int->LU->Ca)(a f:Int)(g:LB)(b k h:Int)(m:List (Int×Int×UInt64×UInt64×Unit))(n:LU):Ca:=
if(Ck h (Ce f a))then
(fO g b k (Ee (Ae k 81) b)).bind λ(ag,ae,af)=>
if(Bi af 0)then
some (([]:LU),0,af)
else
(Jd (Bi a 0)).bind λ_=>
(Ah m (Ho h a)).bind λ_=>
(
(
(Ah m (Ho h a)).bind λo=>
(
(IE ag ae 0 o.1 o.2.1 o.2.2.1 o.2.2.2.1).bind λ(w,v,aa,ab,ac,ad,y)=>
j21 k h y w v m n aa ab ac ad)))
else
j24 k n
def Nc:Nat->Int->Int-> (List (Int×Int×UInt64×UInt64×Unit))->LU->Ca
|0,_,_,_,_=>none
|c+1,e,j,t,A=>Ta (Sf (Nc c) z d i l) RR z d i l e j t A
def SE a f g b:=Nc a f g b Aq
def PR(j16:Int->Int->LB->Int->Int->Int-> (List (Int×Int×UInt64×UInt64×Unit))->LU->Ca)(a f:Int)(g:LB)(b:Int)(p:List (Int×Int×UInt64×UInt64×Unit)):Ca:=
j16 a f g b 0 0 p ([]:LU)
def PN:=PR SE
def QB(j15:Int->Int->LB->Int-> (List (Int×Int×UInt64×UInt64×Unit))->Ca)(Als:Int-> (List (Int×Int×UInt64×UInt64×Unit))->Ca)(a f:Int)(g:LB)(b u:Int)(p:List (Int×Int×UInt64×UInt64×Unit)):Ca:=
if(Ck u 6)then
(nD).bind λ(al,ae,af,am)=>
(Ah p u).bind λ_=>
(Mi p u (al,ae,af,am,())).bind λan=>
Als (Ae u 1) an
else
j15 a f g b p
def AF:Nat->Int-> (List (Int×Int×UInt64×UInt64×Unit))->Ca
|0,_,_=>none
|c+1,e,j=>QB PN (AF c) z d i l e j
def BC a f g b:=AF a f g b Aq
def EF(j13:Int->Int->LB->Int->Int-> (List (Int×Int×UInt64×UInt64×Unit))->Ca)(a f:Int)(g:LB)(b:Int):Ca:=
j13 a f g b 0 (List.replicate 6 ((0:Int),(0:Int),(0:UInt64),(0:UInt64),()))
def EG:=EF BC
def Xn:Option Int32:=
some (Yq (Ad (Ct O (GI.toZ (1:UInt64)).toNat):Int32) (nW (Ad (Ex O 1):Int32)))
def gS:Option (Int32×Int×LX×LX×Int):=
(RE z j N).bind λ(c,d)=>
if(Bi d 0)then
some (0,0,(List.replicate 16 (0:Int32)),(List.replicate 16 (0:Int32)),d)
else
(YZ z j N (Ae E c) E).bind λ(e,i,l)=>
some ((Ae E c),e,i,l,0)
def Lt:Option (Int32×Int×Int32×Int×LX×LX×Int):=
(Wc z E L l5 l6).bind λc=>
if(Bi c 0)then
some (0,0,0,0,(List.replicate 16 (0:Int32)),(List.replicate 16 (0:Int32)),c)
else
(We z E).bind λ(d,e)=>
(gS L l5 l6 Ayh).bind λ(i,j,l,t,A)=>
(
some ((Ae i d),z,(Ae i d),j,l,t,A))
abbrev Gw:=Option (LX×Int)
def T8:Gw:=
some (j,0)
def oE:=T8
def pE(Zr:Int->LX->Gw)(b a:Int)(h:LX):Gw:=
Zr (Ae a b) h
def aC Zr:=pE Zr
def OM(j20:Int->LX->Gw)(wA:Int->LX->Gw)(b a g:Int)(h:LX):Gw:=
if(Ks g 0)then
(Jd (decide (0<= (Ae g 1)/\ (Ae g 1)<((Ae a b)-a)))).bind λ_=>
(Jd (decide (0<=g/\g<((Ae a b)-a)))).bind λ_=>
(Ah h (a+(Ae g 1))).bind λn=>
(Ah h (a+g)).bind λo=>
(Jd (decide (0<=g/\g<((Ae a b)-a)))).bind λ_=>
(Mi h (a+g) (Al n o)).bind λp=>
wA (Al g 1) p
else
j20 a h
def Xl(Zr:Int->LX->Gw)(b a:Int):Nat->Int->LX->Gw
|0,_,_=>none
|q+1,g,h=>OM (aC Zr b) (Xl Zr b a q) b a g h
def ZF Zr b a:=Xl Zr b a Aq
def YV(j18:Int->Int->LX->Gw)(b a:Int)(u:LX):Gw:=
j18 a (Al (Al ((Ae a b)-a) 1) 1) u
def aJ Zr b:=YV (ZF Zr b) b
def ZB(j17:Int->LX->Gw)(j22:LX->Gw)(b a:Int)(f:LX):Gw:=
if(Ck a (Ac f))then
(aB (Ac f) a (Ae a b)).bind λ_=>
if(Du (Al ((Ae a b)-a) 1) 0)then
(Jd (decide (0<= (Al ((Ae a b)-a) 1)/\ (Al ((Ae a b)-a) 1)<((Ae a b)-a)))).bind λ_=>
Option.bind (Jd (decide (0<= (Al (Al ((Ae a b)-a) 1) 1)/\ (Al (Al ((Ae a b)-a) 1) 1)<((Ae a b)-a)))) λ_=>
(Ah f (a+(Al ((Ae a b)-a) 1))).bind λv=>
(Ah f (a+(Al (Al ((Ae a b)-a) 1) 1))).bind λw=>
(Jd (decide (0<= (Al ((Ae a b)-a) 1)/\ (Al ((Ae a b)-a) 1)<((Ae a b)-a)))).bind λ_=>
(Mi f (a+(Al ((Ae a b)-a) 1)) (Ae v (Cq w 2))).bind λy=>
j17 a y
else
j17 a f
else
j22 f
def Sk:Nat->Int->LX->Gw
|0,_,_=>none
|c+1,d,e=>ZB (aJ (Sk c) z) oE z d e
def pK b:=Sk b Aq
def gX(j12:Int->Int->LX->Gw)(b:Int)(k:LX):Gw:=
(XN b k).bind λm=>
if(Bi m 0)then
some (([]:LX),m)
else
(Dy k).bind λaa=>
j12 b 0 aa
def oR:=gX pK
abbrev Cl:=Option (LX×Int)
def NJ:Cl:=
(oR z j).bind λ(c,e)=>
if(Bi e 0)then
some (([]:LX),e)
else
(Wd d c).bind λi=>
if(Bi i 0)then
some (([]:LX),i)
else
some (c,0)
def Mc:=NJ
def NV(Als:Int-> (List (Int×Int32×(Int×LX×LX×Unit)×Unit))->LX->Cl)(a:Int)(f:LU)(b g:Int)(y:Int32)(v:Int)(h:List (Int×Int32×(Int×LX×LX×Unit)×Unit))(k:LX)(aa:Int)(w:Int32)(ab:Int)(ac ad:LX):Cl:=
if(Bi v 0)then
some (([]:LX),v)
else
(Mi h (Ho g a) (aa,w,(ab,ac,ad,()),())).bind λai=>
(Cj k ([y]:LX)).bind λaj=>
Als (Ae g 1) ai aj
def Yi Als:=NV Als
def Mb(j16:Int->Int32->Int-> (List (Int×Int32×(Int×LX×LX×Unit)×Unit))->LX->Int->Int32->Int->LX->LX->Cl)(j18:Int->Int->LX->Cl)(f:LU)(a b g:Int)(h:List (Int×Int32×(Int×LX×LX×Unit)×Unit))(k:LX):Cl:=
if(Ck g (Ac f))then
(Ah f g).bind λag=>
(Jd (Bi a 0)).bind λ_=>
(Ah h (Ho g a)).bind λ_=>
(
(Ah h (Ho g a)).bind λm=>
(
(Xn ag).bind λae=>
(
(Lt m.1 m.2.1 m.2.2.1.1 m.2.2.1.2.1 m.2.2.1.2.2.1 ae).bind λ(y,aa,w,ab,ac,ad,v)=>
j16 g y v h k aa w ab ac ad)))
else
j18 a b k
def Ja:Nat->Int-> (List (Int×Int32×(Int×LX×LX×Unit)×Unit))->LX->Cl
|0,_,_,_=>none
|z+1,c,d,e=>Mb (Yi (Ja z) Ax2 R Ax3) Mc R Ax2 Ax3 c d e
def OI f a b:=Ja f a b Aq
def OA(j13:LU->Int->Int->Int-> (List (Int×Int32×(Int×LX×LX×Unit)×Unit))->LX->Cl)(f:LU)(a b:Int)(n:List (Int×Int32×(Int×LX×LX×Unit)×Unit)):Cl:=
j13 f a b 0 n ([]:LX)
def OH:=OA OI
def OD(j12:LU->Int->Int-> (List (Int×Int32×(Int×LX×LX×Unit)×Unit))->Cl)(Acx:Int-> (List (Int×Int32×(Int×LX×LX×Unit)×Unit))->Cl)(f:LU)(a b:Int)(o:LX)(p:Int)(n:List (Int×Int32×(Int×LX×LX×Unit)×Unit)):Cl:=
if(Ck p 6)then
(tM b o).bind λ(ak,af,ae,al,am,w)=>
(Ah n p).bind λ_=>
(Mi n p (ak,af,(ae,al,am,()),())).bind λan=>
Acx (Ae p 1) an
else
j12 f a b n
def Ys:Nat->Int-> (List (Int×Int32×(Int×LX×LX×Unit)×Unit))->Cl
|0,_,_=>none
|z+1,c,d=>OD OH (Ys z) R Ax2 Ax3 Ayp c d
def Yn f a b o:=Ys f a b o Aq
def BA(j10:LU->Int->Int->LX->Int-> (List (Int×Int32×(Int×LX×LX×Unit)×Unit))->Cl)(a b:Int)(o:LX)(f:LU):Cl:=
j10 f a b o 0 (List.replicate 6 ((0:Int),(0:Int32),((0:Int),(List.replicate 16 (0:Int32)),(List.replicate 16 (0:Int32)),()),()))
def Ti:=BA Yn
def Qn:Option (LX×Int):=
(Tr z d).bind λc=>
if(Bi c 0)then
some (([]:LX),c)
else
if(Ck J 1)then
some (([]:LX),2)
else
(Jd (Bi z 0)).bind λ_=>
if(Du J (Cq 4000 z))then
some (([]:LX),2)
else
(EJ w9).bind λ(e,i)=>
if(Bi i 0)then
some (([]:LX),i)
else
(X4 e).bind λ(l,t,A)=>
if(Bi A 0)then
some (([]:LX),A)
else
(EG z J l t).bind λ(B,C,D)=>
if(Bi D 0)then
some (([]:LX),D)
else
if(Ks (Al t C) 8)then
some (([]:LX),12)
else
(EX l t C (Al t C)).bind λ(E,F)=>
if((Bi F 0)||(Bi E 0))then
some (([]:LX),12)
else
(Ti z d j B).bind λ(G,I)=>
some (G,I)
abbrev Dt:=Option (LB×Int)
def vM:Dt:=
some (c,0)
def cH:=vM
def cC(Hn:Int->LB->Dt)(b:Int)(a:LX)(f:Int)(h:LB):Dt:=
Hn (Ae f 1) h
def MM Hn:=cC Hn
def Zt(j28:Int->LB->Dt)(Acy:Int->LB->Dt)(b:Int)(a:LX)(k:Int32)(f m:Int)(h:LB):Dt:=
if(Ck m (Cq b 8))then
(Jd (Ks (Ce 8 m) 0)).bind λ_=>
(Cj h ([(Ad (Ct k (GI.toZ (Ce 8 m)).toNat):UInt8)]:LB)).bind λp=>
Acy (Ae m 1) p
else
j28 f h
def Jh(Hn:Int->LB->Dt)(b:Int)(a:LX)(k:Int32)(f:Int):Nat->Int->LB->Dt
|0,_,_=>none
|q+1,m,h=>Zt (MM Hn b a) (Jh Hn b a k f q) b a k f m h
def ND Hn b a k f:=Jh Hn b a k f Aq
def MA(j26:Int32->Int->Int->LB->Dt)(b:Int)(a:LX)(f:Int)(g:LB)(k:Int32):Dt:=
j26 k f 0 g
def Pb Hn b a:=MA (ND Hn b a) b a
def Zx(j25:Int->LB->Int32->Dt)(j30:LB->Dt)(b:Int)(a:LX)(f:Int)(g:LB):Dt:=
if(Ck f (Ac a))then
(Ah a f).bind λn=>
if(geq b 8)then
j25 f g (Ae n 128)
else
j25 f g n
else
j30 g
def Gi:Nat->Int->LB->Dt
|0,_,_=>none
|c+1,d,e=>Zx (Pb (Gi c) z j) cH z j d e
def vV b a:=Gi b a Aq
def RK(j16:Int->LX->Int->LB->Dt)(b:Int)(a:LX):Dt:=
(Wd b a).bind λo=>
if(Bi o 0)then
some (([]:LB),o)
else
j16 b a 0 ([]:LB)
def Rp:=RK vV
def Zk:Option Int:=
some (-1:Int)
def Ms:=Zk
def Ek:Option Int:=
if(Ck o7 (Ac Ayb))then
(Ah Ayb o7).bind λz=>
if(geq o9 z)then
some o7
else
Ax6 (Ae o7 1)
else
q8
def Bw:Nat->Int->Option Int
|0,_=>none
|c+1,d=>Ek Ms (Bw c) I z d
def Mu a b:=Bw a b Aq
def Hk(j4:LI->Int->Int->Option Int)(a:LI)(b:Int):Option Int:=
j4 a b 0
def Im:=Hk Mu
def Hg:Option Bool:=
(Im I z).bind λc=>
some (Ks c 0)
def Px:Option Bool:=
(Hg ([(4:Int),(12:Int),(16:Int),(22:Int),(24:Int),(26:Int),(38:Int)]:LI) z).bind λc=>
some c
def UP:Option Int:=
if(!A)then
some 8
else
some 0
def Bm:=UP
def UA:Option Int:=
q9 ((true==true)&&((geq (0:Int) (0:Int))&&true))
def Vf:=UA Bm
def SO:Option Int:=
q9 ((Ayc==true)&&((geq Ayn 0)&&true))
def Ei:=SO Bm
def US(j13:Bool->Int->Option Int)(g ax:LB)(ay az ab ba af b:Int)(n:Bool)(o:Int)(f:LI)(k:LB):Option Int:=
(Nk ay az ab ba af g).bind λdi=>
(Aj di).bind λ(dj,ai)=>
j13 dj ai
def Uv:=US Ei
def TJ:Option Int:=
q9 ((Ayc==true)&&((geq Ayn 0)&&true))
def Io:=TJ Bm
def SY(j25:Bool->Int->Option Int)(g a:LB)(h p m u v b:Int)(n:Bool)(o:Int)(f:LI)(k:LB)(de:Int):Option Int:=
(Dz h p m u v).bind λ(dm,be)=>
if(Bi be 0)then
(Aj be).bind λ(aj,bg)=>
j25 aj bg
else
(Bl a de (Ac a)).bind λdn=>
(RC dn (Ac dm)).bind λ(dp,ab)=>
if(geq ab 24)then
j25 true 0
else
if(Bi ab 0)then
(Aj ab).bind λ(dq,af)=>
j25 dq af
else
(Bl a (Ae (Ae de (Ce 4 (Ac dp))) 4) (Ac a)).bind λfc=>
j25 false 0
def Iz:=SY Io
def TD(j25:Bool->Int->Option Int)(j24:LB->LB->Int->Int->Int->Int->Int->Int->Bool->Int->LI->LB->Int->Option Int)(bh:Bool)(bf:Int)(g a:LB)(h p m u v b:Int)(n:Bool)(o:Int)(f:LI)(k:LB):Option Int:=
if(Bi bf 0)then
(Aj bf).bind λ(dr,be)=>
j25 dr be
else
if(!bh)then
(Aj 26).bind λ(aj,bg)=>
j25 aj bg
else
j24 g a h p m u v b n o f k 8
def UG:=TD Io Iz
def UM(j15:Bool->Int->LB->LB->Int->Int->Int->Int->Int->Int->Bool->Int->LI->LB->Option Int)(g a:LB)(h p m u v b:Int)(n:Bool)(o:Int)(f:LI)(k:LB):Option Int:=
(Bl a 0 8).bind λds=>
(FN ds g).bind λ(bh,bf)=>
j15 bh bf g a h p m u v b n o f k
def Ut:=UM UG
def SX:Option Int:=
q9 ((Ayc==true)&&((geq Ayn 0)&&true))
def Fm:=SX Bm
def Vj(j28:Bool->Int->Option Int)(y ac:Int)(g a:LB)(h p m u v b:Int)(n:Bool)(o:Int)(ak:LX)(f:LI)(k:LB):Option Int:=
if(Bi ac 0)then
(Aj ac).bind λ(bi,bj)=>
j28 bi bj
else
(Rp m ak).bind λ(bk,bb)=>
if(Bi bb 0)then
(Aj bb).bind λ(bl,bm)=>
j28 bl bm
else
(Cj k bk).bind λdv=>
(
(Bl a y (Ac a)).bind λdw=>
j28 false 0)
def GF:=Vj Fm
def EL(j27:Int->Int->LB->LB->Int->Int->Int->Int->Int->Int->Bool->Int->LX->LI->LB->Option Int)(y:Int)(g a:LB)(h p m u v b:Int)(n:Bool)(o:Int)(bc:LX)(ag f:LI)(k:LB):Option Int:=
(Ah ag b).bind λ_=>
(Bl a 0 y).bind λdx=>
(Ah ag b).bind λdy=>
(Za h p m u v).bind λ(dz,bd)=>
(Qn dz bd bc dy dx).bind λ(ak,ac)=>
j27 y ac g a h p m u v b n o ak f k
def DC:=EL GF
def Xk(j13:Bool->Int->Option Int)(j12:LB->LB->Int->Int->Int->Int->Int->Int->Bool->Int->LI->LB->Option Int)(j25:Bool->Int->Option Int)(j23:LB->LB->Int->Int->Int->Int->Int->Int->Bool->Int->LI->LB->Option Int)(j24:LB->LB->Int->Int->Int->Int->Int->Int->Bool->Int->LI->LB->Int->Option Int)(j28:Bool->Int->Option Int)(j26:Int->LB->LB->Int->Int->Int->Int->Int->Int->Bool->Int->LX->LI->LI->LB->Option Int)(j22:Bool->Option Int)(j21:Option Int)(al am:LB)(an ao ap aq ar:Int)(au:LI)(ad:Int)(ae:LB)(aa:Bool)(w:Int):Option Int:=
if(Du (Ac al) 64)then
some 8
else
if((geq w 0)&&(!aa))then
(Dq al am an ao ap aq ar au ad ae aa w).bind λ(g,a,h,p,m,u,v,f,b,k,n,o)=>
(Xc al am an ao ap aq ar au ad ae aa w).bind λbn=>
if bn then
if(geq h 0)then
(Lf a).bind λ(ah,av)=>
if(geq av 24)then
j13 true 0
else
if(Bi av 0)then
(Aj av).bind λ(bp,bq)=>
j13 bp bq
else
(Bl a ah (Ac a)).bind λbr=>
(Pu br).bind λaj=>
if aj then
j13 true 0
else
(Bl a ah (Ac a)).bind λbs=>
(Ph bs).bind λ(ay,az,ab,ba,af,aw)=>
if(geq aw 24)then
j13 true 0
else
if(Bi aw 0)then
(Aj aw).bind λ(bt,bu)=>
j13 bt bu
else
(
(Bl a (Ae ah 22) (Ac a)).bind λax=>
(
j12 g ax ay az ab ba af b n o f k))
else
if(geq (Ac f) 0)then
if(geq h 2)then
if(Ck (Ac a) 8)then
j25 true 0
else
j23 g a h p m u v b n o f k
else
j24 g a h p m u v b n o f k 0
else
if(Ck b (Ac f))then
(Ah f b).bind λ_=>
(Ah f b).bind λy=>
if(Ck (Ac a) y)then
j28 true 0
else
(Tt g).bind λ(bc,ai)=>
if(Bi ai 0)then
(Aj ai).bind λ(bv,bw)=>
j28 bv bw
else
(Dz h p m u v).bind λ(ag,bx)=>
if((Bi bx 0)||(Ks b (Ac ag)))then
(Aj 8).bind λ(bz,da)=>
j28 bz da
else
j26 y g a h p m u v b n o bc ag f k
else
if(Du (Ac a) 4000)then
(Aj 38).bind λ(db,bd)=>
j22 ((db==true)&&((geq bd 0)&&true))
else
j21
else
j22 false
else
if((geq (Ac am) 0)&&(geq (Ac au) 0))then
if((((geq an 0)&&((geq ao 0)&&((geq ap 0)&&((geq aq 0)&&((geq ar 0)&&true)))))&&(geq ad 0))&&(pB (Ac ae) 12000))then
if(geq w 0)then
j22 true
else
if(!aa)then
(Px w).bind λdc=>
j22 dc
else
j22 false
else
j22 false
else
if((false&&(geq ad 0))&&(pB (Ac ae) 12000))then
if(geq w 0)then
j22 true
else
if(!aa)then
(Px w).bind λdd=>
j22 dd
else
j22 false
else
j22 false
def Hm:=Xk Ei Uv Io Ut Iz Fm DC Bm Vf
def Qd:Option (LB×LB×Int×Int×Int×Int×Int×LI×Int×LB×Bool×Int×Int):=
(Hm c C z d e B D F G i A l).bind λj=>
if(Bi j 0)then
some (([]:LB),([]:LB),0,0,0,0,0,([]:LI),0,([]:LB),false,0,j)
else
if(Bi l 0)then
(
(
(Dq c C z d e B D F G i A l).bind λ(t,E,I,J,L,M,N,O,P,R,T,U)=>
(
some (t,E,I,J,L,M,N,O,P,R,T,U,l))))
else
if A then
(Dq c C z d e B D F G i A l).bind λ(V,X,Y,Z,l5,l6,l7,l9,o7,o8,o9,p8)=>
some (V,X,Y,Z,l5,l6,l7,l9,o7,o8,o9,p8,36)
else
(Dq c C z d e B D F G i A l).bind λ(p9,q8,q9,r9,w9,Ax1,Ax2,Ax3,Ax4,Ax5,Ax6,Ax7)=>
some (p9,q8,q9,r9,w9,Ax1,Ax2,Ax3,Ax4,Ax5,Ax6,Ax7,0)
def aU(b g:LB)(h k m n o:Int)(p:LI)(u:Int)(f:LB)(v:Bool)(w a:Int):Option (LB×LB×Int×Int×Int×Int×Int×LI×Int×LB×Bool×Int×Int):=
some (b,([]:LB),0,0,0,0,0,([]:LI),0,f,false,a,a)
abbrev Ap:=Option (LB×LB×Int×Int×Int×Int×Int×LI×Int×LB×Bool×Int×Int)
def HP(PA:LB->Int->Int->Int->Int->Int->Int->LI->LB->Ap)(a:LB)(b:Bool)(f:Int)(av:LB)(aw ax ay az ba bb:Int)(dy:Bool)(dk:Int)(bc:LI)(bd:LB):Ap:=
if dy then
(Dq a av aw ax ay az ba bc bb bd b f).bind λ(dz,fa,fb,ap,be,ae,fc,fd,fe,ff,fg,af)=>
some (dz,fa,fb,ap,be,ae,fc,fd,fe,ff,fg,af,0)
else
if(Bi dk 0)then
(aU a av aw ax ay az ba bc bb bd b f dk).bind λ(fh,fi,fj,fk,fl,fm,fn,fo,fp,fq,fs,ft,fu)=>
some (fh,fi,fj,fk,fl,fm,fn,fo,fp,fq,fs,ft,fu)
else
PA av aw ax ay az ba bb bc bd
def Cb PA:=HP PA
def tI(j71:LB->Int->Int->Int->Int->Int->Int->Bool->Int->LI->LB->Ap)(a:LB)(b:Bool)(f:Int)(g:LB)(m o n p u h:Int)(k:LI)(v:LB):Ap:=
j71 g m o n p u h true 0 k v
def Xm PA a b f:=tI (Cb PA a b f) a b f
def sR(j71:LB->Int->Int->Int->Int->Int->Int->Bool->Int->LI->LB->Ap)(a:LB)(b:Bool)(f h:Int)(k:LI)(v:LB)(fv:Bool)(fw:Int)(fx:LB)(fy fz ga gb gc:Int):Ap:=
j71 fx fy fz ga gb gc h fv fw k v
def Na PA a b f:=sR (Cb PA a b f) a b f
def XZ(j62:Int->LI->LB->Bool->Int->LB->Int->Int->Int->Int->Int->Ap)(a:LB)(b:Bool)(f:Int)(ag:LB)(ah ai y aj aa h:Int)(k:LI)(v:LB):Ap:=
(Nk ah ai y aj aa a).bind λgd=>
(Aj gd).bind λ(ge,ak)=>
j62 h k v ge ak ag ah ai y aj aa
def Qq PA a b f:=XZ (Na PA a b f) a b f
def sP(j71:LB->Int->Int->Int->Int->Int->Int->Bool->Int->LI->LB->Ap)(a:LB)(b:Bool)(f m o n p u h:Int)(v:LB)(bf:Bool)(bg:Int)(bh:LB)(bi:LI):Ap:=
j71 bh m o n p u h bf bg bi v
def Kk PA a b f:=sP (Cb PA a b f) a b f
def Xs(j75:Int->Int->Int->Int->Int->Int->LB->Bool->Int->LB->LI->Ap)(a:LB)(b:Bool)(f:Int)(g:LB)(m o n p u h:Int)(k:LI)(v:LB)(dl:Int):Ap:=
(Dz m o n p u).bind λ(gf,ar)=>
if(Bi ar 0)then
(Aj ar).bind λ(al,bj)=>
j75 m o n p u h v al bj g k
else
(Bl g dl (Ac g)).bind λgg=>
(RC gg (Ac gf)).bind λ(dm,y)=>
if(geq y 24)then
j75 m o n p u h v true 0 g k
else
if(Bi y 0)then
(Aj y).bind λ(gh,aa)=>
j75 m o n p u h v gh aa g k
else
(Bl g (Ae (Ae dl (Ce 4 (Ac dm))) 4) (Ac g)).bind λgi=>
j75 m o n p u h v false 0 gi dm
def Nb PA a b f:=Xs (Kk PA a b f) a b f
def IV(j75:Int->Int->Int->Int->Int->Int->LB->Bool->Int->LB->LI->Ap)(j74:LB->Int->Int->Int->Int->Int->Int->LI->LB->Int->Ap)(a:LB)(b:Bool)(f:Int)(bk:Bool)(au:Int)(g:LB)(m o n p u h:Int)(k:LI)(v:LB):Ap:=
if(Bi au 0)then
(Aj au).bind λ(gj,ar)=>
j75 m o n p u h v gj ar g k
else
if(!bk)then
(Aj 26).bind λ(al,bj)=>
j75 m o n p u h v al bj g k
else
j74 g m o n p u h k v 8
def WC PA a b f:=IV (Kk PA a b f) (Nb PA a b f) a b f
def HW(j64:Bool->Int->LB->Int->Int->Int->Int->Int->Int->LI->LB->Ap)(a:LB)(b:Bool)(f:Int)(g:LB)(m o n p u h:Int)(k:LI)(v:LB):Ap:=
(Bl g 0 8).bind λgk=>
(FN gk a).bind λ(bk,au)=>
j64 bk au g m o n p u h k v
def Xa PA a b f:=HW (WC PA a b f) a b f
def sG(j71:LB->Int->Int->Int->Int->Int->Int->Bool->Int->LI->LB->Ap)(a:LB)(b:Bool)(f m o n p u:Int)(k:LI)(bl:Bool)(bm:Int)(bn:LB)(bp:Int)(bq:LB):Ap:=
j71 bn m o n p u bp bl bm k bq
def Mz PA a b f:=sG (Cb PA a b f) a b f
def Xi(j78:Int->Int->Int->Int->Int->LI->Bool->Int->LB->Int->LB->Ap)(a:LB)(b:Bool)(f w ab:Int)(g:LB)(m o n p u h:Int)(am:LX)(k:LI)(v:LB):Ap:=
if(Bi ab 0)then
(Aj ab).bind λ(br,bs)=>
j78 m o n p u k br bs g h v
else
(Rp n am).bind λ(bt,af)=>
if(Bi af 0)then
(Aj af).bind λ(bu,bv)=>
j78 m o n p u k bu bv g h v
else
(Cj v bt).bind λbw=>
(
(Bl g w (Ac g)).bind λbx=>
j78 m o n p u k false 0 bx (Ae h 1) bw)
def IH PA a b f:=Xi (Mz PA a b f) a b f
def HV(j77:Int->Int->LB->Int->Int->Int->Int->Int->Int->LX->LI->LB->Ap)(a:LB)(b:Bool)(f w:Int)(g:LB)(m o n p u h:Int)(aq:LX)(ac k:LI)(v:LB):Ap:=
(Ah ac h).bind λ_=>
(Bl g 0 w).bind λgl=>
(Ah ac h).bind λgm=>
(Za m o n p u).bind λ(be,ae)=>
(Qn be ae aq gm gl).bind λ(am,ab)=>
j77 w ab g m o n p u h am k v
def Xr PA a b f:=HV (IH PA a b f) a b f
def Hw(j62:Int->LI->LB->Bool->Int->LB->Int->Int->Int->Int->Int->Ap)(j61:LB->Int->Int->Int->Int->Int->Int->LI->LB->Ap)(j75:Int->Int->Int->Int->Int->Int->LB->Bool->Int->LB->LI->Ap)(j73:LB->Int->Int->Int->Int->Int->Int->LI->LB->Ap)(j74:LB->Int->Int->Int->Int->Int->Int->LI->LB->Int->Ap)(j78:Int->Int->Int->Int->Int->LI->Bool->Int->LB->Int->LB->Ap)(j76:Int->LB->Int->Int->Int->Int->Int->Int->LX->LI->LI->LB->Ap)(j71:LB->Int->Int->Int->Int->Int->Int->Bool->Int->LI->LB->Ap)(j70:LB->Int->Int->Int->Int->Int->Int->LI->LB->Ap)(a:LB)(b:Bool)(f:Int)(g:LB)(m o n p u h:Int)(k:LI)(v:LB):Ap:=
if(geq m 0)then
(Lf g).bind λ(ad,an)=>
if(geq an 24)then
j62 h k v true 0 g m o n p u
else
if(Bi an 0)then
(Aj an).bind λ(bz,da)=>
j62 h k v bz da g m o n p u
else
(Bl g ad (Ac g)).bind λdb=>
(Pu db).bind λal=>
if al then
j62 h k v true 0 g m o n p u
else
(Bl g ad (Ac g)).bind λdc=>
(Ph dc).bind λ(ah,ai,y,aj,aa,ao)=>
if(geq ao 24)then
j62 h k v true 0 g m o n p u
else
if(Bi ao 0)then
(Aj ao).bind λ(dd,de)=>
j62 h k v dd de g m o n p u
else
(
(Bl g (Ae ad 22) (Ac g)).bind λag=>
(
j61 ag ah ai y aj aa h k v))
else
if(geq (Ac k) 0)then
if(geq m 2)then
if(Ck (Ac g) 8)then
j75 m o n p u h v true 0 g k
else
j73 g m o n p u h k v
else
j74 g m o n p u h k v 0
else
if(Ck h (Ac k))then
(Ah k h).bind λ_=>
(Ah k h).bind λw=>
if(Ck (Ac g) w)then
j78 m o n p u k true 0 g h v
else
(Tt a).bind λ(aq,ak)=>
if(Bi ak 0)then
(Aj ak).bind λ(df,dg)=>
j78 m o n p u k df dg g h v
else
(Dz m o n p u).bind λ(ac,dh)=>
if((Bi dh 0)||(Ks h (Ac ac)))then
(Aj 8).bind λ(di,ap)=>
j78 m o n p u k di ap g h v
else
j76 w g m o n p u h aq ac k v
else
if(Du (Ac g) 4000)then
(Aj 38).bind λ(dj,ae)=>
j71 g m o n p u h dj ae k v
else
j70 g m o n p u h k v
def Bd:Nat->LB->Int->Int->Int->Int->Int->Int->LI->LB->Ap
|0,_,_,_,_,_,_,_,_,_=>none
|z+1,d,e,i,j,t,B,C,D,E=>Hw (Na (Bd z) c A l) (Qq (Bd z) c A l) (Kk (Bd z) c A l) (Xa (Bd z) c A l) (Nb (Bd z) c A l) (Mz (Bd z) c A l) (Xr (Bd z) c A l) (Cb (Bd z) c A l) (Xm (Bd z) c A l) c A l d e i j t B C D E
def sH a b f:=Bd a b f Aq
def Tk(j37:LB->Bool->Int->LB->Int->Int->Int->Int->Int->Int->LI->LB->Ap)(gn go:LB)(gp gq gr gs gt:Int)(gu:LI)(gv:Int)(gw:LB)(gx:Bool)(gy:Int)(gz:LB):Ap:=
(Qd gn go gp gq gr gs gt gu gv gw gx gy).bind λ(a,dn,dp,dq,dr,ds,dt,du,dv,dw,b,f,dx)=>
if(Bi dx 0)then
some (a,dn,dp,dq,dr,ds,dt,du,dv,dw,b,f,dx)
else
(Cj dn gz).bind λha=>
j37 a b f ha dp dq dr ds dt dv du dw
def Dr:=Tk sH
def Tp:Option (LB×LB×Int×Int×Int×Int×Int×LI×Int×LB×Bool×Int×LB×Int):=
(Hm c C z d e B D F G i A l).bind λj=>
if(Bi j 0)then
some (([]:LB),([]:LB),0,0,0,0,0,([]:LI),0,([]:LB),false,0,([]:LB),j)
else
if(Ck V 0)then
some (([]:LB),([]:LB),0,0,0,0,0,([]:LI),0,([]:LB),false,0,([]:LB),2)
else
(Dq c C z d e B D F G i A l).bind λ(t,E,I,J,L,M,N,O,P,R,T,U)=>
(Bl R 0 (Ee V (Ac R))).bind λX=>
(Ib X).bind λY=>
(Bl R (Ee V (Ac R)) (Ac R)).bind λZ=>
some (t,E,I,J,L,M,N,O,P,Z,T,U,Y,0)
abbrev mZ:=Option (Int×Int)
def vB:mZ:=
(Bl c (Al (Ac c) 32) (Ac c)).bind λz=>
(PG z 0).bind λ(d,e,i)=>
if i then
if(Ck (Al (Ac c) 32) d)then
some (0,24)
else
some ((Ae d 32),0)
else
(Bl c (Al (Ac c) 32) (Ac c)).bind λj=>
(PG j 2147483648).bind λ(l,t,A)=>
if(!A)then
some (0,12)
else
if(Ck (Ac c) (Ae l 64))then
some (0,24)
else
(Bl c (Al (Ac c) (Ae l 64)) (Ae (Al (Ac c) (Ae l 64)) 32)).bind λB=>
(iJ l t 2684354560).bind λC=>
(Ji B C).bind λD=>
if(!D)then
some (0,12)
else
some ((Ae l 64),0)
def tP:=vB
def uQ(j2:LB->mZ)(a:LB):mZ:=
if(Ck (Al (Ac a) 32) 0)then
some (0,6)
else
(Bl a (Al (Ac a) 32) (Ac a)).bind λv=>
(Lr v ([(65:UInt8),(80:UInt8),(69:UInt8),(84:UInt8),(65:UInt8),(71:UInt8),(69:UInt8),(88:UInt8)]:LB)).bind λw=>
if(!w)then
some (0,6)
else
j2 a
def oH:=uQ tP
abbrev Fy:=Option (Int×Int)
def sT:Fy:=
some (z,0)
def YD:=sT
def YJ(Z3:Int->LB->Fy)(a:Int)(g:LB):Fy:=
Z3 (Ae a 1) g
def YG Z3:=YJ Z3
def YB(j12:Int->LB->Fy)(a f:Int)(b:LB):Fy:=
if(geq f 0)then
some (0,38)
else
(Bl b 0 (Al (Ac b) f)).bind λg=>
j12 a g
def IG Z3:=YB (YG Z3)
def MZ(j11:Int->Int->LB->Fy)(j14:Int->Fy)(a:Int)(b:LB):Fy:=
if(Du (Ac b) 0)then
(oH b).bind λ(f,k)=>
j11 a f b
else
j14 a
def Tg:Nat->Int->LB->Fy
|0,_,_=>none
|q+1,a,b=>MZ (IG (Tg q)) YD a b
def vU:=Tg Aq
def MS(j8:Int->LB->Fy)(h:LB):Fy:=
if(Du (Ac h) 4000)then
some (0,38)
else
j8 0 h
def OO:=MS vU
def Vz(p a:LB)(g u v w y:Int)(b:LI)(h:Int)(aa:LB)(ab:Bool)(ac:Int):Option Int:=
if(geq g 0)then
(Lf a).bind λ(k,f)=>
if(Bi f 0)then
some f
else
(Bl a k (Ac a)).bind λm=>
(Ph m).bind λ(ad,ae,af,ag,ah,n)=>
some n
else
if((Ck h (Ac b))||(geq (Ac b) 0))then
some 24
else
(OO a).bind λ(ai,o)=>
some o
def Hl:Option (LB×LB×Int×Int×Int×Int×Int×LI×Int×LB×Bool×Int×Int):=
(Qd c C z d e B D F G i A l).bind λ(j,t,E,I,J,L,M,N,O,P,R,T,U)=>
if(Bi U 0)then
some (j,t,E,I,J,L,M,N,O,P,R,T,U)
else
(Vz j t E I J L M N O P R T).bind λV=>
if(Bi V 0)then
(aU j t E I J L M N O P R T V).bind λ(X,Y,Z,l5,l6,l7,l9,o7,o8,o9,p8,p9,q8)=>
some (X,Y,Z,l5,l6,l7,l9,o7,o8,o9,p8,p9,q8)
else
some (j,([]:LB),0,0,0,0,0,([]:LI),0,P,true,0,0)
abbrev Bn:=Option (LB×LB×Int×Int×Int×Int×Int×LI×Int×LB×Bool×Int×(List (Int×LB×Unit))×Int)
def UB(f:LB)(g h k m n o:Int)(p:LB)(u:Bool)(v:Int)(a:LB)(aa:List (Int×LB×Unit))(w:LB)(y:LI):Bn:=
some (f,w,g,h,k,m,n,y,o,p,u,v,aa,0)
def TA:=UB
def UI(j32:LB->Int->Int->Int->Int->Int->Int->LB->Bool->Int->LB-> (List (Int×LB×Unit))->LB->LI->Bn)(aa:List (Int×LB×Unit))(f:LB)(g h k m n o:Int)(p:LB)(u:Bool)(v:Int)(a w:LB)(y:LI):Bn:=
j32 f g h k m n o p u v a aa w y
def DB:=UI TA
def Vg(VX:Int->LB->Int->Int->Int->Int->Int->Int->LB->Bool->Int->LB-> (List (Int×LB×Unit))->LB->LI->Bn)(b:List (UInt8×Int×Unit))(ab:Int)(dm:LB)(dn dp dq dr ds dt:Int)(du:LB)(dv:Bool)(dw:Int)(dx:LB)(dy:List (Int×LB×Unit))(dz:LB)(fa:LI):Bn:=
VX (Ae ab 1) dm dn dp dq dr ds dt du dv dw dx dy dz fa
def Fq VX:=Vg VX
def Ve(j29:Int->LB->Int->Int->Int->Int->Int->Int->LB->Bool->Int->LB-> (List (Int×LB×Unit))->LB->LI->Bn)(b:List (UInt8×Int×Unit))(ac:UInt8×Int×Unit)(a:LB)(ad ab:Int)(f w:LB)(g h k m n:Int)(y:LI)(o:Int)(p:LB)(u:Bool)(v:Int)(ae:LB)(af ag ah ai aj ak:Int)(al:LB)(am:Bool)(an:Int)(aa:List (Int×LB×Unit))(ao:LB)(ap:LI):Bn:=
(
(Bl a (Ee ac.2.1 (Ac a)) (Ac a)).bind λbv=>
(Cj aa ([(ad,([]:LB),())]:List (Int×LB×Unit))).bind λar=>
j29 ab ae af ag ah ai aj ak al am an bv ar ao ap)
def GD VX b:=Ve (Fq VX b) b
def UX(j29:Int->LB->Int->Int->Int->Int->Int->Int->LB->Bool->Int->LB-> (List (Int×LB×Unit))->LB->LI->Bn)(b:List (UInt8×Int×Unit))(au ab:Int)(f w:LB)(g h k m n:Int)(y:LI)(o:Int)(p:LB)(u:Bool)(v:Int)(a av:LB)(aw ax ay az ba bb:Int)(bc:LB)(bd:Bool)(be:Int)(bf:LB)(aa:List (Int×LB×Unit))(ar:LB)(bg:LI):Bn:=
(Cj aa ([(au,bf,())]:List (Int×LB×Unit))).bind λfb=>
j29 ab av aw ax ay az ba bb bc bd be a fb ar bg
def CX VX b:=UX (Fq VX b) b
def UO(j29:Int->LB->Int->Int->Int->Int->Int->Int->LB->Bool->Int->LB-> (List (Int×LB×Unit))->LB->LI->Bn)(b:List (UInt8×Int×Unit))(bh ab:Int)(f w:LB)(g h k m n:Int)(y:LI)(o:Int)(p:LB)(u:Bool)(v:Int)(a bi:LB)(bj bk bl bm bn bp:Int)(bq:LB)(br:Bool)(bs:Int)(aa:List (Int×LB×Unit))(bt:LB)(bu:LI):Bn:=
(Cj aa ([(bh,([]:LB),())]:List (Int×LB×Unit))).bind λfc=>
j29 ab bi bj bk bl bm bn bp bq br bs a fc bt bu
def DQ VX b:=UO (Fq VX b) b
def Pm(j26:(UInt8×Int×Unit)->LB->Int->Int->LB->LB->Int->Int->Int->Int->Int->LI->Int->LB->Bool->Int->LB->Int->Int->Int->Int->Int->Int->LB->Bool->Int-> (List (Int×LB×Unit))->LB->LI->Bn)(j33:Int->Int->LB->LB->Int->Int->Int->Int->Int->LI->Int->LB->Bool->Int->LB->LB->Int->Int->Int->Int->Int->Int->LB->Bool->Int->LB-> (List (Int×LB×Unit))->LB->LI->Bn)(j34:Int->Int->LB->LB->Int->Int->Int->Int->Int->LI->Int->LB->Bool->Int->LB->LB->Int->Int->Int->Int->Int->Int->LB->Bool->Int-> (List (Int×LB×Unit))->LB->LI->Bn)(j29:Int->LB->Int->Int->Int->Int->Int->Int->LB->Bool->Int->LB-> (List (Int×LB×Unit))->LB->LI->Bn)(j31:(List (Int×LB×Unit))->LB->Int->Int->Int->Int->Int->Int->LB->Bool->Int->LB->LB->LI->Bn)(b:List (UInt8×Int×Unit))(ab:Int)(f:LB)(g h k m n o:Int)(p:LB)(u:Bool)(v:Int)(a:LB)(aa:List (Int×LB×Unit))(w:LB)(y:LI):Bn:=
if(Ck ab (Ac b))then
(Ah b ab).bind λac=>
if(geq ac.1 1)then
(
(
(
(Bl a 0 (Ee ac.2.1 (Ac a))).bind λaq=>
(
(Dr f w g h k m n y o p u v aq).bind λ(ae,ao,af,ag,ah,ai,aj,ap,ak,al,am,an,ad)=>
j26 ac a ad ab f w g h k m n y o p u v ae af ag ah ai aj ak al am an aa ao ap))))
else
if(geq ac.1 2)then
(
(
(
(Tp f w g h k m n y o p u v ac.2.1).bind λ(av,ar,aw,ax,ay,az,ba,bg,bb,bc,bd,be,bf,au)=>
j33 au ab f w g h k m n y o p u v a av aw ax ay az ba bb bc bd be bf aa ar bg)))
else
if(geq ac.1 3)then
(
(
(
(Hl f w g h k m n y o p u v).bind λ(bi,bt,bj,bk,bl,bm,bn,bu,bp,bq,br,bs,bh)=>
j34 bh ab f w g h k m n y o p u v a bi bj bk bl bm bn bp bq br bs aa bt bu)))
else
j29 ab f g h k m n o p u v a aa w y
else
j31 aa f g h k m n o p u v a w y
def Fl:Nat->Int->LB->Int->Int->Int->Int->Int->Int->LB->Bool->Int->LB-> (List (Int×LB×Unit))->LB->LI->Bn
|0,_,_,_,_,_,_,_,_,_,_,_,_,_,_,_=>none
|z+1,c,d,e,i,j,l,t,A,B,C,D,E,F,G,I=>Pm (GD (Fl z) M) (CX (Fl z) M) (DQ (Fl z) M) (Fq (Fl z) M) DB M c d e i j l t A B C D E F G I
def pV b:=Fl b Aq
def HY(j17:(List (UInt8×Int×Unit))->Int->LB->Int->Int->Int->Int->Int->Int->LB->Bool->Int->LB-> (List (Int×LB×Unit))->LB->LI->Bn)(fd fe:LB)(b:List (UInt8×Int×Unit)):Bn:=
(EM b).bind λbx=>
if(Bi bx 0)then
some (([]:LB),([]:LB),0,0,0,0,0,([]:LI),0,([]:LB),false,0,([]:List (Int×LB×Unit)),bx)
else
(fY fd).bind λ(ff,fg,fh,fi,fj,fk,fl,fm,fn,fo,fp,fq,bz)=>
if(Bi bz 0)then
some (([]:LB),([]:LB),0,0,0,0,0,([]:LI),0,([]:LB),false,0,([]:List (Int×LB×Unit)),bz)
else
j17 b 0 ff fh fi fj fk fl fn fo fp fq fe ([]:List (Int×LB×Unit)) fg fm
def Zg:=HY pV
def JX:Option Bool:=
some A
def Ro:=JX
def Hb(j20:Bool->Option Bool)(wA:Int->Option Bool)(a:Bool)(b:LI)(o:List (Int×LB×Unit))(p:Int):Option Bool:=
if(Ck p (Ac b))then
(Ah o p).bind λ_=>
(Ah b p).bind λ_=>
(Ah o p).bind λaf=>
(Ah b p).bind λag=>
if(Bi af.1 ag)then
some false
else
wA (Ae p 1)
else
j20 a
def Ds:Nat->Int->Option Bool
|0,_=>none
|z+1,c=>Hb Ro (Ds z) A Ayk Ayj c
def Rn a b o:=Ds a b o Aq
def Kw(j18:Bool->LI-> (List (Int×LB×Unit))->Int->Option Bool)(k m:LB)(a:Bool)(n:List (UInt8×Int×Unit))(b:LI):Option Bool:=
(Zg k m n).bind λ(ao,ap,aq,ar,au,av,aw,ax,ay,az,ba,bb,o,ah)=>
if((Bi ah 0)||(Bi (Ac o) (Ac b)))then
some false
else
j18 a b o 0
def Le:=Kw Rn
def Hc(Zr:Int-> (List (UInt8×Int×Unit))->LI->Option Bool)(k m:LB)(h:List (UInt8×Int×Unit))(a:Bool)(g:List (Int×LB×Unit))(f:Int)(n:List (UInt8×Int×Unit))(b:LI):Option Bool:=
(Ah g f).bind λ_=>
(Ah g f).bind λy=>
if(Du (Ac y.2.1) 0)then
some false
else
(Ah h f).bind λu=>
(Ah g f).bind λ_=>
(
(
(
(Cj n ([(u.1,u.2.1,())]:List (UInt8×Int×Unit))).bind λab=>
(Ah g f).bind λac=>
(Cj b ([ac.1]:LI)).bind λv=>
Zr (Ae f 1) ab v)))
def Kv Zr:=Hc Zr
def Ha(j15:Int-> (List (UInt8×Int×Unit))->LI->Option Bool)(j17:LB->LB->Bool-> (List (UInt8×Int×Unit))->LI->Option Bool)(Zr:Int-> (List (UInt8×Int×Unit))->LI->Option Bool)(k m:LB)(h:List (UInt8×Int×Unit))(a:Bool)(g:List (Int×LB×Unit))(f:Int)(n:List (UInt8×Int×Unit))(b:LI):Option Bool:=
if(Ck f (Ac h))then
(Ah h f).bind λai=>
if(geq ai.1 2)then
(Ah g f).bind λ_=>
(Ah g f).bind λy=>
if(Bi y.1 0)then
some false
else
(Ah g f).bind λ_=>
(Ah h f).bind λu=>
(Ah g f).bind λw=>
if(Du (Ac w.2.1) u.2.1)then
some false
else
Zr (Ae f 1) n b
else
j15 f n b
else
j17 k m a n b
def Da:Nat->Int-> (List (UInt8×Int×Unit))->LI->Option Bool
|0,_,_,_=>none
|z+1,d,e,i=>Ha (Kv (Da z) c C M Ax9 Ayj) Le (Da z) c C M Ax9 Ayj d e i
def Rl k m h a g:=Da k m h a g Aq
def La(j12:LB->LB-> (List (UInt8×Int×Unit))->Bool-> (List (Int×LB×Unit))->Int-> (List (UInt8×Int×Unit))->LI->Option Bool)(k m:LB)(h:List (UInt8×Int×Unit))(a:Bool):Option Bool:=
(Zg k m h).bind λ(bc,bd,be,bf,bg,bh,bi,bj,bk,bl,bm,bn,g,aj)=>
if((Bi aj 0)||(Bi (Ac g) (Ac h)))then
some false
else
j12 k m h a g 0 ([]:List (UInt8×Int×Unit)) ([]:LI)
def Kz:=La Rl
def Lw(j11:LB->LB-> (List (UInt8×Int×Unit))->Bool->Option Bool)(k m:LB)(h:List (UInt8×Int×Unit)):Option Bool:=
(Sr).bind λa=>
if(Du (Ac k) 64)then
if true then
if(true||(!a))then
some a
else
j11 k m h a
else
(Ev h).bind λak=>
if((!ak)||(!a))then
some a
else
j11 k m h a
else
(FG m).bind λal=>
if al then
if(true||(!a))then
some a
else
j11 k m h a
else
(Ev h).bind λam=>
if((!am)||(!a))then
some a
else
j11 k m h a
def Jo:=Lw Kz
def Jb:Option Bool:=
if((((geq z 1)||(geq z 2))&&(Ks d 1))&&(pB d 6))then
some ((((((geq e 8)||(geq e 16))||(geq e 24))&&(Ks B 1))&&(pB B 1048576))&&(Ks D 1))
else
some (((false&&(Ks B 1))&&(pB B 1048576))&&(Ks D 1))
def Vd:Option Int:=
some (oK 1 (Cq (Ce 256 z) 245))
def Oc:Option (LI):=
some I
def Oi:=Oc
def Jy(j6:LI->Option (LI))(Qf:Int->LI->Option (LI))(a f:Int)(b:LI):Option (LI):=
if(Du f 0)then
(Vd a).bind λg=>
(Cj b ([(Ee f g)]:LI)).bind λh=>
(Vd a).bind λk=>
Qf (Al f k) h
else
j6 b
def Fg:Nat->Int->LI->Option (LI)
|0,_,_=>none
|c+1,d,e=>Jy Oi (Fg c) z d e
def GM a:=Fg a Aq
def GW(j4:Int->Int->LI->Option (LI))(a m:Int):Option (LI):=
j4 a m ([]:LI)
def Nr:=GW GM
def Vk(h a k f b:Int):Option Bool:=
(
(Jd (Bi a 0)).bind λ_=>
(
if(Du b (Cq 4000 a))then
some true
else
(Nr f b).bind λg=>
some (Du (Ac g) 1000)))
def Kn:Option Int:=
(Jb z d e B D).bind λc=>
if(!c)then
some 8
else
(Vk z d e B D).bind λi=>
if i then
some 8
else
some 0
def Eb(a f g h k:Int)(b:LB):Option Int:=
if((b==([]:LB)) !=(geq a 1))then
some 26
else
some 0
def FO:Option Int:=
if(Du z 100000)then
some 8
else
some 0
def EY:=FO
def GY:Option Int:=
(Ah Ayb o7).bind λz=>
Aya (Ae o9 z) (Ae o7 1)
def HC H2:=GY H2
def Uk:Option Int:=
if(Ck Ayo (Ac Ayu))then
(Ah Ayu Ayo).bind λz=>
if(Ck z 5)then
some 8
else
(Ah Ayu Ayo).bind λc=>
if(Du c 100000)then
some 8
else
Aya Ax7 Ayo
else
Ay4 Ax7
def Kb:Nat->Int->Int->Option Int
|0,_,_=>none
|z+1,c,d=>Uk (HC (Kb z) I) EY I c d
def HK a:=Kb a Aq
def Tw(j6:LI->Int->Int->Option Int)(a:LI):Option Int:=
if((Ck (Ac a) 1)||(Du (Ac a) 1000))then
some 8
else
j6 a 0 0
def Hq:=Tw HK
def Gc(g h k a b:Int):Option (LI):=
(Nr a b).bind λf=>
some f
def Ht(f a b g h:Int):Option (Int×Int):=
some (a,b)
def NX:Option Int:=
some (Cq (Ce z d) 8)
def KR:Option Int:=
(Ht d e B D G).bind λ(c,i)=>
(NX c i).bind λj=>
some (Ce z j)
def JM:=KR
def Vy(j6:Int->Int->Int->Int->Int->Int->Option Int)(Qf:Int->Int->Option Int)(n a b f g h:Int)(k:LI)(m o:Int):Option Int:=
if(Ck o n)then
(Ah k o).bind λ_=>
(Ah k o).bind λw=>
Qf (Ae m w) (Ae o 1)
else
j6 m a b f g h
def Lc:Nat->Int->Int->Option Int
|0,_,_=>none
|c+1,i,j=>Vy JM (Lc c) z d e B D G Ayk i j
def dP n a b f g h k:=Lc n a b f g h k Aq
def KG(j4:Int->Int->Int->Int->Int->Int->LI->Int->Int->Option Int)(a b f g h n:Int):Option Int:=
(Gc a b f g h).bind λk=>
j4 n a b f g h k 0 0
def Vh:=KG dP
abbrev Fx:=Option (Int×Int)
def cX:Fx:=
some (z,0)
def dL:=cX
def Uj(j6:Int->Fx)(Qf:Int->Int->Fx)(a:LB)(b f:Int):Fx:=
if(Ck f 4)then
(Ah a f).bind λg=>
if(Ks g 128)then
some (0,12)
else
(Ah a f).bind λh=>
Qf (Ae (Ce 128 b) (Ad h:Int)) (Ae f 1)
else
j6 b
def Ka:Nat->Int->Int->Fx
|0,_,_=>none
|z+1,d,e=>Uj dL (Ka z) c d e
def GQ a:=Ka a Aq
def HG(j4:LB->Int->Int->Fx)(a:LB):Fx:=
if(Bi (Ac a) 4)then
some (0,2)
else
j4 a 0 0
def AT:=HG GQ
abbrev Gz:=Option (Int×Int)
def KP:Gz:=
if(Du z 4000)then
some (0,4)
else
if(Ck (Ac c) z)then
some (0,24)
else
(Ah c 5).bind λd=>
if(geq d 16)then
(Bl c (Al z 10) z).bind λe=>
(Bl c 3 10).bind λi=>
(Cj ([51,68,73]:LB) i).bind λj=>
if(e !=j)then
some (0,12)
else
some (z,0)
else
some (z,0)
def Vq:=KP
def JS(j6:LB->Int->Gz)(a:LB)(b:Int):Gz:=
(Ah a 5).bind λo=>
if(geq o 16)then
j6 a (Ae (Ae 10 b) 10)
else
j6 a (Ae 10 b)
def Vw:=JS Vq
def KC(j5:LB->Int->Gz)(a:LB):Gz:=
if(Ck (Ac a) 10)then
some (0,24)
else
(Bl a 6 10).bind λp=>
(AT p).bind λ(b,f)=>
(Ah a 3).bind λu=>
if(Ck u 2)then
if true then
if true then
if(true||(Bi f 0))then
some (0,12)
else
j5 a b
else
(Ah a 5).bind λv=>
if(Bi v 0)then
(Ah a 5).bind λw=>
if(Bi w 16)then
if(true||(Bi f 0))then
some (0,12)
else
j5 a b
else
(Ah a 3).bind λy=>
if((Bi y 4)||(Bi f 0))then
some (0,12)
else
j5 a b
else
if(false||(Bi f 0))then
some (0,12)
else
j5 a b
else
(Ah a 4).bind λaa=>
if(Bi aa 0)then
if(true||(Bi f 0))then
some (0,12)
else
j5 a b
else
(Ah a 5).bind λab=>
if(Bi ab 0)then
(Ah a 5).bind λac=>
if(Bi ac 16)then
if(true||(Bi f 0))then
some (0,12)
else
j5 a b
else
(Ah a 3).bind λad=>
if((Bi ad 4)||(Bi f 0))then
some (0,12)
else
j5 a b
else
if(false||(Bi f 0))then
some (0,12)
else
j5 a b
else
(Ah a 3).bind λae=>
if(Du ae 4)then
if true then
if(true||(Bi f 0))then
some (0,12)
else
j5 a b
else
(Ah a 5).bind λaf=>
if(Bi af 0)then
(Ah a 5).bind λag=>
if(Bi ag 16)then
if(true||(Bi f 0))then
some (0,12)
else
j5 a b
else
(Ah a 3).bind λah=>
if((Bi ah 4)||(Bi f 0))then
some (0,12)
else
j5 a b
else
if(false||(Bi f 0))then
some (0,12)
else
j5 a b
else
(Ah a 4).bind λai=>
if(Bi ai 0)then
if(true||(Bi f 0))then
some (0,12)
else
j5 a b
else
(Ah a 5).bind λaj=>
if(Bi aj 0)then
(Ah a 5).bind λak=>
if(Bi ak 16)then
if(true||(Bi f 0))then
some (0,12)
else
j5 a b
else
(Ah a 3).bind λal=>
if((Bi al 4)||(Bi f 0))then
some (0,12)
else
j5 a b
else
if(false||(Bi f 0))then
some (0,12)
else
j5 a b
def LW:=KC Vw
def JW(j4:LB->Gz)(a:LB):Gz:=
if(Ck (Ac a) 3)then
some (0,6)
else
(Bl a 0 3).bind λam=>
if(am !=([73,68,51]:LB))then
some (0,6)
else
j4 a
def DP:=JW LW
def PX:Option UInt64:=
some t
def RG:=PX
def BE:Option UInt64:=
if(Ks Z 0)then
(Ah Ayg Z).bind λz=>
Ax5 (Ae (Ce 256 l9) (Ad z:UInt64)) (Al Z 1)
else
Ax4 l9
def Nt:Nat->UInt64->Int->Option UInt64
|0,_,_=>none
|z+1,d,e=>BE RG (Nt z) c d e
def QT a:=Nt a Aq
def QR(j4:LB->UInt64->Int->Option UInt64)(a:LB):Option UInt64:=
j4 a 0 (Al (Ac a) 1)
def Dw:=QR QT
def Us:Option (Int×Int×Bool):=
(Bl c 12 16).bind λz=>
(Dw z).bind λd=>
(Bl c 16 20).bind λe=>
(Dw e).bind λi=>
if(((Ck d 32)||(Du d 3032))||(Du i 1000))then
some (0,0,false)
else
some ((Al (Ad d:Int) 32),(Ad i:Int),true)
def CA:Option (LB):=
some c
def BL:=CA
def Ri(j6:LB->Option (LB))(Qf:UInt64->Int->LB->Option (LB))(b:Int)(f:UInt64)(g:Int)(a:LB):Option (LB):=
if(Ck g b)then
(Cj a ([(Ad (CT f 256):UInt8)]:LB)).bind λh=>
Qf (Cq f 256) (Ae g 1) h
else
j6 a
def Hx:Nat->UInt64->Int->LB->Option (LB)
|0,_,_,_=>none
|c+1,d,e,i=>Ri BL (Hx c) z d e i
def BY b:=Hx b Aq
def CH(j4:Int->UInt64->Int->LB->Option (LB))(k:UInt64)(b:Int):Option (LB):=
j4 b k 0 ([]:LB)
def Em:=CH BY
def Rb:Option (LB):=
(Em 2000 4).bind λc=>
(Cj ([(65:UInt8),(80:UInt8),(69:UInt8),(84:UInt8),(65:UInt8),(71:UInt8),(69:UInt8),(88:UInt8)]:LB) c).bind λe=>
(Em (Ad (Ae z 32):UInt64) 4).bind λi=>
(Cj e i).bind λj=>
(Em (Ad d:UInt64) 4).bind λl=>
(Cj j l).bind λA=>
(Em t 4).bind λB=>
(Cj A B).bind λC=>
(mkI (8:Int) (0:UInt8)).bind λD=>
(Cj C D).bind λE=>
some E
def Uz:Option (LB):=
(Rb z d 2684354560).bind λc=>
some c
def Lp:Option (LB):=
if A then
(Rb z d 2147483648).bind λc=>
some c
else
(Rb z d 0).bind λe=>
some e
abbrev Ld:=Option (Int×Int)
def HB:Ld:=
if(Ck (Ac c) (Ae 64 z))then
some (0,24)
else
(Bl c (Al (Ae 64 z) 32) (Ae 64 z)).bind λe=>
(Lp z d true).bind λi=>
if(e !=i)then
some (0,12)
else
some ((Ae 64 z),0)
def HN:=HB
def GR(j4:LB->Int->Int->Ld)(a:LB):Ld:=
if(Ck (Ac a) 32)then
some (0,24)
else
(Bl a 0 32).bind λk=>
(Us k).bind λ(b,f,m)=>
if(!m)then
some (0,12)
else
(Bl a 0 32).bind λn=>
(Uz b f).bind λo=>
if(n !=o)then
some (0,12)
else
j4 a b f
def HA:=GR HN
def GO(j3:LB->Ld)(a:LB):Ld:=
if(Ck (Ac a) 8)then
some (0,6)
else
(Bl a 0 8).bind λp=>
if(p !=([65,80,69,84,65,71,69,88]:LB))then
some (0,6)
else
j3 a
def AM:=GO HA
abbrev Gb:=Option (LI×Int)
def GZ(H2:Int->LI->Gb)(a:LB)(b:Int)(f:LI)(g h:Int):Gb:=
if(geq h 6)then
some (f,0)
else
if(Bi h 0)then
some (([]:LI),h)
else
if(Du (Ae b g) 4000)then
some (([]:LI),4)
else
(Cj f ([g]:LI)).bind λm=>
H2 (Ae b g) m
def Oh H2:=GZ H2
def Un(j9:Int->LI->Int->Int->Gb)(a:LB)(b:Int)(f:LI):Gb:=
(Bl a b (Ac a)).bind λn=>
(DP n).bind λ(o,k)=>
if(geq k 6)then
(Bl a b (Ac a)).bind λp=>
(AM p).bind λ(u,v)=>
j9 b f u v
else
j9 b f o k
def Ny:Nat->Int->LI->Gb
|0,_,_=>none
|z+1,d,e=>Un (Oh (Ny z) c) c d e
def dN a:=Ny a Aq
def cQ(j6:LB->Int->LI->Gb)(a:LB):Gb:=
j6 a 0 ([]:LI)
def QD:=cQ dN
abbrev Gg:=Option (Int×Int)
def GN:Gg:=
some (d,z)
def HM:=GN
def Tv(j6:Int->Int->Gg)(Qf:Int->Int->Gg)(a:Int)(b:LI)(f g:Int):Gg:=
if(Ck g (Ac b))then
(Ah b g).bind λ_=>
(Ah b g).bind λh=>
Qf (Ae f h) (Ae g 1)
else
j6 a f
def Js:Nat->Int->Int->Gg
|0,_,_=>none
|c+1,d,e=>Tv HM (Js c) z F d e
def Tx a b:=Js a b Aq
def GX(j4:Int->LI->Int->Int->Gg)(k:LB):Gg:=
(QD k).bind λ(b,a)=>
j4 a b 0 0
def Tc:=GX Tx
def Ql:Option Bool:=
if(Ck (Ac c) (Ac C))then
(Bl C 0 (Ac c)).bind λz=>
some (c==z)
else
some false
def KN:Option UInt32:=
if Ax9 then
some (Yq (Cq O 2) 3988292384)
else
some (Cq O 2)
def JU:=KN
def JJ(j2:UInt32->Bool->Option UInt32)(a:UInt32)(f:Int):Option UInt32:=
if(geq f 1)then
j2 a (!(geq (CT a 2) 1))
else
j2 a (geq (CT a 2) 1)
def FD:=JJ JU
def KY:Option UInt32:=
some O
def LZ:=KY
def Wr(j6:UInt32->Option UInt32)(Qf:UInt32->UInt8->Int->Option UInt32)(a:UInt32)(b:UInt8)(f:Int):Option UInt32:=
if(Ck f 8)then
(FD a (Ad (CT b 2):Int)).bind λg=>
Qf g (Cq b 2) (Ae f 1)
else
j6 a
def Ky:Nat->UInt32->UInt8->Int->Option UInt32
|0,_,_,_=>none
|q+1,a,b,f=>Wr LZ (Ky q) a b f
def eG:=Ky Aq
def gW(j4:UInt32->UInt8->Int->Option UInt32)(h:UInt32)(k:UInt8):Option UInt32:=
j4 h k 0
def UD:=gW eG
def EE:Option UInt32:=
some O
def GB:=EE
def Rv(j6:UInt32->Option UInt32)(Qf:UInt32->Int->Option UInt32)(a:LB)(b:UInt32)(f:Int):Option UInt32:=
if(Ck f (Ac a))then
(Ah a f).bind λg=>
(UD b g).bind λh=>
Qf h (Ae f 1)
else
j6 b
def It:Nat->UInt32->Int->Option UInt32
|0,_,_=>none
|z+1,d,e=>Rv GB (It z) c d e
def EV a:=It a Aq
def DY(j4:LB->UInt32->Int->Option UInt32)(k:UInt32)(a:LB):Option UInt32:=
j4 a k 0
def NK:=DY EV
def Tj:Option UInt32:=
(NK 4294967295 c).bind λz=>
some (Al 4294967295 z)
abbrev Gx:=Option (Int×Int×Int×Int×Int×Int)
def KJ:Gx:=
(Jb (Ad t:Int) (Ad P:Int) (Ad l9:Int) (Ad Ayi:Int) (Ad Aym:Int)).bind λz=>
if(!z)then
some (0,0,0,0,0,12)
else
(Vk (Ad t:Int) (Ad P:Int) (Ad l9:Int) (Ad Ayi:Int) (Ad Aym:Int)).bind λc=>
if c then
some (0,0,0,0,0,4)
else
some ((Ad t:Int),(Ad P:Int),(Ad l9:Int),(Ad Ayi:Int),(Ad Aym:Int),0)
def KU:=KJ
def KK(j6:UInt64->UInt64->UInt64->UInt64->UInt64->Gx)(a:LB):Gx:=
(Bl a 4 6).bind λu=>
(Bl a 6 8).bind λp=>
(Bl a 8 10).bind λo=>
(Bl a 10 14).bind λn=>
(Bl a 14 18).bind λm=>
(
(Dw u).bind λk=>
(
(Dw p).bind λh=>
(
(Dw o).bind λg=>
(
(Dw n).bind λf=>
(
(Dw m).bind λb=>
(
j6 k h g f b))))))
def LC:=KK KU
def KB(j5:LB->Gx)(a:LB):Gx:=
if(Ck (Ac a) 22)then
some (0,0,0,0,0,24)
else
(Bl a 18 22).bind λy=>
(Bl a 0 18).bind λaa=>
(Dw y).bind λab=>
(Tj aa).bind λac=>
if(Bi ab (Ad ac:UInt64))then
some (0,0,0,0,0,22)
else
j5 a
def KX:=KB LC
def JY(j4:LB->Gx)(a:LB):Gx:=
(Bl a 0 (Ee 4 (Ac a))).bind λad=>
(Bl ([84,84,65,49]:LB) 0 (Ee 4 (Ac a))).bind λae=>
if(ad !=ae)then
some (0,0,0,0,0,12)
else
j4 a
def Vi:=JY KX
abbrev Rt:=Option (Int×Int×Int×Int×Int×Int×Int)
def BU:Rt:=
(Vi i).bind λ(c,d,e,j,l,t)=>
if(geq t 24)then
some (0,0,0,0,0,0,(-1:Int))
else
some ((Ae z 22),c,d,e,j,l,t)
def BJ:=BU
def BM(j2:Int->LB->Rt)(f:LB):Rt:=
(Tc f).bind λ(b,g)=>
if(geq g 24)then
some (0,0,0,0,0,0,(-1:Int))
else
if(Bi g 0)then
some (0,0,0,0,0,0,g)
else
(Bl f b (Ac f)).bind λa=>
(Ql a ([73,68,51]:LB)).bind λu=>
if u then
some (0,0,0,0,0,0,(-1:Int))
else
(Ql a ([65,80,69,84,65,71,69,88]:LB)).bind λv=>
if v then
some (0,0,0,0,0,0,(-1:Int))
else
j2 b a
def Wk:=BM BJ
def LA:Option UInt64:=
if Ax9 then
some (Yq (Ce t 2) 4823603603198064275)
else
some (Ce t 2)
def Vr:=LA
def KF(j2:UInt64->Bool->Option UInt64)(a:UInt64)(f:Int):Option UInt64:=
if(geq f 1)then
j2 a (!(Ks a 9223372036854775808))
else
j2 a (Ks a 9223372036854775808)
def FE:=KF Vr
def LJ:Option UInt64:=
some t
def JL:=LJ
def Wx:Option UInt64:=
if(Du Y 0)then
(Jd (Bi Y 0)).bind λ_=>
(FE Ayy (Ho (Cq (Ad Ax8:Int) Y) 2)).bind λz=>
Ax5 z (Cq Y 2)
else
Ax4 Ayy
def Lb:Nat->UInt64->Int->Option UInt64
|0,_,_=>none
|z+1,c,d=>Wx JL (Lb z) Ax8 c d
def eB b:=Lb b Aq
def eQ(j4:UInt8->UInt64->Int->Option UInt64)(h:UInt64)(b:UInt8):Option UInt64:=
j4 b h 128
def SQ:=eQ eB
def EU:Option UInt64:=
some t
def ER:=EU
def Sj:Option UInt64:=
if(Ck Z (Ac Ayg))then
(Ah Ayg Z).bind λz=>
(SQ l9 z).bind λc=>
Ax5 c (Ae Z 1)
else
Ax4 l9
def Is:Nat->UInt64->Int->Option UInt64
|0,_,_=>none
|z+1,d,e=>Sj ER (Is z) c d e
def aA a:=Is a Aq
def YY(j4:LB->UInt64->Int->Option UInt64)(k:UInt64)(a:LB):Option UInt64:=
j4 a k 0
def Yc:=YY aA
def TX:Option UInt64:=
(Yc 0 c).bind λz=>
some z
def Wn:Option (LB):=
(TX c).bind λz=>
(Em z 8).bind λd=>
some d
abbrev Eg:=Option (LI×Int)
def KQ:Eg:=
(Hq I).bind λz=>
if(Bi z 0)then
some (([]:LI),12)
else
some (I,0)
def Wg:=KQ
def Wa(j8:LI->Eg)(H2:Int->LI->Eg)(b:LB)(a g:Int)(f:LI):Eg:=
if(Ck g a)then
(Bl b (Ce 4 g) (Ae (Ce 4 g) 4)).bind λk=>
(Dw k).bind λm=>
(Cj f ([(Ad m:Int)]:LI)).bind λn=>
H2 (Ae g 1) n
else
j8 f
def Kx:Nat->Int->LI->Eg
|0,_,_=>none
|d+1,e,i=>Wa Wg (Kx d) c z e i
def LG b a:=Kx b a Aq
def JN(j6:LB->Int->Int->LI->Eg)(b:LB)(a:Int):Eg:=
j6 b a 0 ([]:LI)
def KA:=JN LG
def JO(j5:LB->Int->Eg)(b:LB)(a:Int):Eg:=
if((Ck a 1)||(Du a 1000))then
some (([]:LI),2)
else
if(Ck (Ac b) (Ae (Ce 4 a) 4))then
some (([]:LI),24)
else
(Bl b (Ce 4 a) (Ae (Ce 4 a) 4)).bind λo=>
(Bl b 0 (Ce 4 a)).bind λp=>
(Dw o).bind λu=>
(Tj p).bind λv=>
if(Bi u (Ad v:UInt64))then
some (([]:LI),22)
else
j5 b a
def FF:=JO KA
abbrev Kf:=Option (Int×LI×Int)
def FP:Kf:=
if(geq d 24)then
some (0,([]:LI),(-1:Int))
else
some ((Ae (Ae z (Ce 4 (Ac F))) 4),F,d)
def EW:=FP
def GA(j4:Int->Int->LI->Kf)(a:LB)(b k m n o f:Int):Kf:=
(Bl a f (Ac a)).bind λp=>
(Gc b k m n o).bind λu=>
(FF p (Ac u)).bind λ(h,g)=>
j4 f g h
def Dx:=GA EW
def Iv(j3:LB->Int->Int->Int->Int->Int->Int->Kf)(a:LB)(b k m n o:Int)(v:LB):Kf:=
if(geq b 2)then
if(Ck (Ac a) 8)then
some (0,([]:LI),(-1:Int))
else
(Bl a 0 8).bind λw=>
(Wn v).bind λy=>
if(w !=y)then
some (0,([]:LI),26)
else
j3 a b k m n o 8
else
j3 a b k m n o 0
def Fb:=Iv Dx
def TU:Option (UInt64×Int):=
if(Du (Ac p9) 100000)then
some (0,4)
else
(Yc t p9).bind λz=>
some (z,0)
def XU:Option (UInt64×Int):=
(TU 0 c).bind λ(z,d)=>
some (z,d)
def jV:Option (LX):=
some j
def jJ:=jV
def RF(H2:UInt64->Int->LX->Option (LX))(b:UInt64)(f:Int)(a:LX)(g:Int32):Option (LX):=
(Ah a f).bind λ_=>
(Mi a f g).bind λh=>
H2 (Cq b 256) (Ae f 1) h
def AO H2:=RF H2
def AG(j8:UInt64->Int->LX->Int32->Option (LX))(j10:LX->Option (LX))(b:UInt64)(f:Int)(a:LX):Option (LX):=
if(Ck f 8)then
if(Du (Ad (CT b 256):Int32) 127)then
j8 b f a (Al (Ad (CT b 256):Int32) 256)
else
j8 b f a (Ad (CT b 256):Int32)
else
j10 a
def Ko:Nat->UInt64->Int->LX->Option (LX)
|0,_,_,_=>none
|q+1,b,f,a=>AG (AO (Ko q)) jJ b f a
def lR:=Ko Aq
def mV(j6:UInt64->Int->LX->Option (LX))(k:UInt64):Option (LX):=
j6 k 0 (List.replicate 16 (0:Int32))
def bU:=mV lR
def Uw:Option (LX×Int):=
if(Du (Ac c) 64)then
some (([(0:Int32),(0:Int32),(0:Int32),(0:Int32),(0:Int32),(0:Int32),(0:Int32),(0:Int32),(0:Int32),(0:Int32),(0:Int32),(0:Int32),(0:Int32),(0:Int32),(0:Int32),(0:Int32)]:LX),2)
else
(XU c).bind λ(z,d)=>
(bU z).bind λe=>
some (e,0)
def Vn:Option Int:=
if(geq z 8)then
some 128
else
if(geq z 16)then
some 32768
else
if(geq z 24)then
some 8388608
else
some 0
def AZ:Option Int:=
if((Ck z 1)||(Du z 6))then
some 2
else
(Vn d).bind λc=>
if(geq c 0)then
some 2
else
some 0
def Nv:Option Int:=
(AZ z d).bind λc=>
if((Bi c 0)||(Ck e 1))then
some 2
else
(Jd (Bi z 0)).bind λ_=>
if(Du e (Cq 4000 z))then
some 2
else
some 0
def Yf:Option (LB):=
(Tj c).bind λz=>
(Cj ([]:LB) c).bind λd=>
(Cj d ([(Ad z:UInt8),(Ad (Ct z (GI.toZ (8:UInt64)).toNat):UInt8),(Ad (Ct z (GI.toZ (16:UInt64)).toNat):UInt8),(Ad (Ct z (GI.toZ (24:UInt64)).toNat):UInt8)]:LB)).bind λe=>
some e
def Qj:Option Int:=
if(Ck (Ac c) 5)then
some 24
else
if(Du (Ac c) 41254)then
some 4
else
(Bl c 0 (Al (Ac c) 4)).bind λz=>
(Yf z).bind λd=>
if(d !=c)then
some 22
else
some 0
def Nj:Option (Int×Int×UInt64×UInt64):=
some (10,10,16384,16384)
def dC:Option UInt64:=
some t
def cP:=dC
def Ul:Option UInt64:=
if(Ck Z T)then
Ax5 (Ce l9 2) (Ae Z 1)
else
Ax4 l9
def Jp:Nat->UInt64->Int->Option UInt64
|0,_,_=>none
|c+1,d,e=>Ul cP (Jp c) z d e
def cZ b:=Jp b Aq
def cL(j4:Int->UInt64->Int->Option UInt64)(b:Int):Option UInt64:=
j4 b 1 0
def Gd:=cL cZ
def IB(a g:Int)(h k:UInt64)(b:UInt32):Option Bool:=
(Gd a).bind λf=>
some (Ck (Ad b:UInt64) f)
def EK(a g:Int)(h k:UInt64)(b:UInt32):Option UInt32:=
(Gd a).bind λf=>
some (Ad (Al (Ad b:UInt64) f):UInt32)
abbrev Yu:=Option (Int×UInt64)
def LN:Yu:=
if(Ck z 24)then
(Gd (Ae z 5)).bind λc=>
if(Du (Al (Ae t P) (Cq t 16)) c)then
some ((Ae z 1),(Al (Ae t P) (Cq t 16)))
else
some (z,(Al (Ae t P) (Cq t 16)))
else
some (z,(Al (Ae t P) (Cq t 16)))
def Vs:=LN
def KD(j2:Int->UInt64->UInt64->Yu)(b:Int)(a f:UInt64):Yu:=
if(Du b 0)then
(Gd (Ae b 4)).bind λh=>
if(Ck (Al (Ae a f) (Cq a 16)) h)then
some ((Al b 1),(Al (Ae a f) (Cq a 16)))
else
j2 b a f
else
j2 b a f
def Uy:=KD Vs
abbrev Uf:=Option (Int×Int×UInt64×UInt64)
def FB(f:UInt32)(g a:Int)(h b:UInt64)(w:Int)(y:UInt64):Uf:=
(Uy g h (Ad f:UInt64)).bind λ(aa,ab)=>
some (aa,w,ab,y)
def Rz:=FB
def DI(j2:UInt32->Int->Int->UInt64->UInt64->Int->UInt64->Uf)(g a:Int)(h b:UInt64)(f:UInt32):Uf:=
(IB g a h b f).bind λo=>
if(!o)then
(
(
(EK g a h b f).bind λk=>
(Uy a b (Ad k:UInt64)).bind λ(m,n)=>
j2 f g a h b m n))
else
j2 f g a h b a b
def Xz:=DI Rz
abbrev Fh:=Option (Int×Int×UInt64×UInt64)
def ZW:Fh:=
some (z,d,t,P)
def YW:=ZW
def EZ(j6:Int->Int->UInt64->UInt64->Fh)(Qf:Int->Int->Int->UInt64->UInt64->Fh)(a:Int)(b:LU)(m f g:Int)(h k:UInt64):Fh:=
if(Ck m (Ac b))then
(Ah b m).bind λn=>
(Xz f g h k n).bind λ(o,p,u,v)=>
Qf (Ae m a) o p u v
else
j6 f g h k
def Mp:Nat->Int->Int->Int->UInt64->UInt64->Fh
|0,_,_,_,_,_=>none
|c+1,d,e,i,j,l=>EZ YW (Mp c) z R d e i j l
def aX a b:=Mp a b Aq
def DW(j4:Int->LU->Int->Int->Int->UInt64->UInt64->Fh)(a:Int)(b:LU):Fh:=
(Nj).bind λ(w,y,aa,ab)=>
(Jd (Bi a 0)).bind λ_=>
j4 a b (Ho (Ac b) a) w y aa ab
def Qh:=DW aX
def RV:Option Int:=
some (Ho z 2)
def SI:=RV
def AP:Option Int:=
if(Ck Ax7 (Ho o9 8))then
Aya (Cq o7 2) (Ae Ax7 1)
else
Ax6 o7
def Nx:Nat->Int->Int->Option Int
|0,_,_=>none
|c+1,d,e=>AP SI (Nx c) z d e
def RX a:=Nx a Aq
def RZ(j4:Int->Int->Int->Option Int)(g:LB)(k a:Int):Option Int:=
(Ah g (Cq a 8)).bind λh=>
j4 a (Ad h:Int) 0
def Ls:=RZ RX
abbrev Ep:=Option (LB×Int)
def NQ:Ep:=
(Ah i (Cq e 8)).bind λ_=>
(Ah i (Cq e 8)).bind λc=>
(Ah i (Cq e 8)).bind λ_=>
(Mi i (Cq e 8) (Ae c (Ad (Ce z d):UInt8))).bind λj=>
some (j,(Ae e 1))
def Ya:=NQ
def Yw(j8:Int->Int->Int->LB->Ep)(H2:Int->Int->Ep)(b a:Int)(f:LB)(g h:Int):Ep:=
if(Ck h (Ho a 8))then
H2 (Ce g 2) (Ae h 1)
else
j8 b g a f
def Mh:Nat->Int->Int->Ep
|0,_,_=>none
|c+1,e,j=>Yw Ya (Mh c) z d i e j
def NO b a f:=Mh b a f Aq
def NZ(j6:Int->Int->LB->Int->Int->Ep)(b a:Int)(f:LB):Ep:=
j6 b a f 1 0
def Yd:=NZ NO
def NS(j5:Int->Int->LB->Ep)(k:LB)(a b:Int):Ep:=
if(geq (Ho a 8) 0)then
(Cj k ([(0:UInt8)]:LB)).bind λo=>
j5 b a o
else
j5 b a k
def Xe:=NS Yd
abbrev Es:=Option (LB×Int)
def YN:Es:=
some (i,z)
def XX:=YN
def Rh(j6:Int->LB->Es)(Qf:Int->Int->LB->Es)(f:Int)(g:LB)(h k a:Int)(b:LB):Es:=
if(Ck k f)then
(Ls g h k).bind λm=>
(Xe b a m).bind λ(n,o)=>
Qf (Ae k 1) o n
else
j6 a b
def Hz:Nat->Int->Int->LB->Es
|0,_,_,_=>none
|c+1,d,e,j=>Rh XX (Hz c) z i l d e j
def XV f g h:=Hz f g h Aq
def YP(j4:Int->LB->Int->Int->Int->LB->Es)(g:LB)(h p f:Int):Es:=
j4 f g h p 0 ([]:LB)
def KL:=YP XV
def dI:Option UInt64:=
some t
def cT:=dI
def Uh:Option UInt64:=
if(Ks Z 0)then
(Ls Ayg Ayt (Ae T Z)).bind λz=>
Ax5 (Ae (Ce 2 l9) (Ad z:UInt64)) (Al Z 1)
else
Ax4 l9
def Jr:Nat->UInt64->Int->Option UInt64
|0,_,_=>none
|c+1,d,e=>Uh cT (Jr c) z i l d e
def GU b f g:=Jr b f g Aq
def HD(j4:Int->LB->Int->UInt64->Int->Option UInt64)(f:LB)(g b m:Int):Option UInt64:=
j4 b f g 0 (Al m 1)
def Sp:=HD GU
abbrev Hr:=Option (Int×Int)
def OB(b a:Int)(g:LB)(f:Int):Hr:=
if(geq a 48)then
some (a,(Ae b a))
else
if(Ks (Ae b a) f)then
some ((-1:Int),0)
else
some (a,(Ae (Ae b a) 1))
def Yv:=OB
def Yr(j6:Int->Int->LB->Int->Hr)(Qf:Int->Hr)(b:Int)(g:LB)(f a:Int):Hr:=
if((Ck (Ae b a) f)&&(Ck a 48))then
(Ls g f (Ae b a)).bind λh=>
if(geq h 1)then
Qf (Ae a 1)
else
j6 b a g f
else
j6 b a g f
def Lz:Nat->Int->Hr
|0,_=>none
|c+1,d=>Yr Yv (Lz c) z i l d
def jG b g f:=Lz b g f Aq
def jZ(j4:Int->LB->Int->Int->Hr)(g:LB)(f b:Int):Hr:=
j4 b g f 0
def WM:=jZ jG
def DD:Option Int:=
(Gd T).bind λz=>
(Jd (Bi z 0)).bind λ_=>
some (Ad (Ee 48 (Cq (Ad O:UInt64) z)):Int)
abbrev AK:=Option (UInt32×Int×Int)
def Yh:AK:=
if((Ck d 0)||(Ck (Al l e) V))then
some (0,0,24)
else
(Sp i l e V).bind λc=>
if(Ck d 48)then
(Gd z).bind λj=>
some ((Ad (Ae (Ce (Ad d:UInt64) j) c):UInt32),(Ae e V),0)
else
(DD (Ad c:UInt32) z).bind λt=>
if(Ck t d)then
some (0,0,12)
else
some ((Ad c:UInt32),(Ae e V),0)
def Yt:=Yh
def NL(j2:Int->Int->Int->LB->Int->Int->AK)(h:LB)(f n g:Int):AK:=
if(Ks n f)then
some (0,0,24)
else
(WM h f n).bind λ(a,b)=>
if(geq a 48)then
j2 g a b h f 32
else
j2 g a b h f g
def II:=NL Yt
def IF(g:LB)(b a f n:Int)(v w:UInt64):Option (UInt32×Int×Int):=
if(Ks a b)then
some (0,0,24)
else
(Ls g b a).bind λo=>
if(geq o 0)then
if(Ck (Al (Al b a) 1) f)then
some (0,0,24)
else
(Sp g b (Ae a 1) f).bind λp=>
some ((Ad p:UInt32),(Ae (Ae a 1) f),0)
else
(II g b (Ae a 1) n).bind λ(h,u,k)=>
if(Bi k 0)then
some (0,0,k)
else
(Gd f).bind λm=>
if(Du (Ae (Ad h:UInt64) m) 4294967295)then
some (0,0,12)
else
some ((Ad (Ae (Ad h:UInt64) m):UInt32),u,0)
abbrev Bp:=Option (LU×Int)
def dJ:Bp:=
some (R,0)
def cW:=dJ
def Ub(j18:LU->Bp)(Hn:Int->Bp)(a:LB)(b:LU)(m:Int):Bp:=
if(Ck m (Ce 8 (Ac a)))then
(Ls a (Ce 8 (Ac a)) m).bind λn=>
if(Bi n 0)then
some (b,12)
else
Hn (Ae m 1)
else
j18 b
def Jv:Nat->Int->Bp
|0,_=>none
|z+1,d=>Ub cW (Jv z) c R d
def GV a b:=Jv a b Aq
def GP(j16:LB->LU->Int->Bp)(f:Int)(a:LB)(b:LU):Bp:=
if(Du (Al (Ce 8 (Ac a)) f) 7)then
some (b,12)
else
j16 a b f
def Uo:=GP GV
def HE(Acx:Int->Int->LU->Bp)(g h:Int)(a:LB)(f k:Int)(b:LU)(p u:Int)(v w:UInt64):Bp:=
(KL a (Ce 8 (Ac a)) f (Ee (Ae f 81) (Ce 8 (Ac a)))).bind λ(y,aa)=>
(IF y aa 0 p u v w).bind λ(ab,ac,o)=>
if(Bi o 0)then
some (b,o)
else
(Cj b ([ab]:LU)).bind λad=>
Acx (Ae f ac) (Ae k 1) ad
def Jt Acx:=HE Acx
def HL(j13:Int->Int->LU->Int->Int->UInt64->UInt64->Bp)(j15:Int->LB->LU->Bp)(g h:Int)(a:LB)(f k:Int)(b:LU):Bp:=
if(Ck k (Ce h g))then
(Nj).bind λ(n,ae,af,ag)=>
if(Ks k g)then
(Qh g b).bind λ(ah,ai,aj,ak)=>
j13 f k b ah ai aj ak
else
j13 f k b n ae af ag
else
j15 f a b
def Fi:Nat->Int->Int->LU->Bp
|0,_,_,_=>none
|c+1,e,j,l=>HL (Jt (Fi c) z d i) Uo z d i e j l
def cR g h a:=Fi g h a Aq
def KV(j10:Int->Int->LB->Int->Int->LU->Bp)(g h:Int)(a:LB):Bp:=
j10 g h a 0 0 ([]:LU)
def DF:=KV cR
def mW:Option (Int×Int):=
if(geq z 8)then
some (4,0)
else
if((geq z 16)||(geq z 24))then
some (5,0)
else
some (0,2)
def qX:Option (Int×LX×LX×Int):=
(mW z).bind λ(c,d)=>
if(Bi d 0)then
some (0,(List.replicate 16 (0:Int32)),(List.replicate 16 (0:Int32)),2)
else
if(geq z 16)then
some (9,j,(List.replicate 16 (0:Int32)),0)
else
some (10,j,(List.replicate 16 (0:Int32)),0)
def VZ:Option (Int×Int32×Int×LX×LX×Int):=
(qX z j).bind λ(c,d,e,i)=>
if(Bi i 0)then
some (0,0,0,(List.replicate 16 (0:Int32)),(List.replicate 16 (0:Int32)),2)
else
some (z,0,c,d,e,0)
def DS:Option Int32:=
if(geq (CT O 2) 0)then
some (Ad (Cq O 2):Int32)
else
some (Ad (Cq (nW (Ae (Ad O:Int) 1)) 2):Int32)
def Dc:Option Int32:=
some (Ad (Ad (Ad z:UInt64):UInt32):Int32)
def OG:Option Int32:=
some (Ad z:Int32)
def NN:=OG
def Xy(j6:Int->Option Int32)(Qf:Int->Int->Option Int32)(h:Int)(b f:LX)(g a:Int):Option Int32:=
if(Ck a 16)then
(Ah b a).bind λ_=>
(Ah f a).bind λ_=>
(Ah b a).bind λk=>
(Ah f a).bind λm=>
(Dc (Ce (Ad k:Int) (Ad m:Int))).bind λn=>
(Dc (Ae g (Ad n:Int))).bind λo=>
Qf (Ad o:Int) (Ae a 1)
else
j6 g
def Md:Nat->Int->Int->Option Int32
|0,_,_=>none
|c+1,d,e=>Xy NN (Md c) z j N d e
def jC h b f:=Md h b f Aq
def jW(j4:Int->LX->LX->Int->Int->Option Int32)(h:Int)(b f:LX):Option Int32:=
j4 h b f 0 0
def WH:=jW jC
def JQ:Option Int32:=
(WH z j N).bind λc=>
(Dc (Ae (Ad c:Int) (Cq o8 2))).bind λd=>
(Jd (Bi o8 0)).bind λ_=>
(Jd (Bi o8 0)).bind λ_=>
if(Ck (Ho (Ad d:Int) o8) 0)then
some (Ad (Al (Cq (Ad d:Int) o8) 1):Int32)
else
some (Ad (Cq (Ad d:Int) o8):Int32)
def Wu:=JQ
def JV(j2:Int->LX->LX->Int->Option Int32)(b:Int)(f g:LX):Option Int32:=
if(geq b 9)then
j2 b f g 512
else
j2 b f g 1024
def EB:=JV Wu
def FT:Option Int32:=
if(geq z 0)then
some 4
else
if(pB z 3)then
some 2
else
some 1
def Ur:Option Int32:=
if(Ck E 0)then
some (-1:Int32)
else
if(Du E 0)then
some 1
else
some 0
abbrev Er:=Option (Int×LX×LX)
def YS:Er:=
some (z,j,N)
def YM:=YS
def Qt(j6:Int->LX->LX->Er)(Qf:Int->LX->Er)(h:Int32)(g:Int)(b:LX)(a:Int)(f:LX):Er:=
if(Ck a 16)then
(Ah f a).bind λ_=>
(Ah b a).bind λ_=>
(Ah f a).bind λk=>
(Ah b a).bind λm=>
(FT a).bind λn=>
(Ur m).bind λo=>
(Ur h).bind λp=>
(Ah f a).bind λ_=>
(Mi f a (Ae k (Ce (Ce n o) p))).bind λu=>
Qf (Ae a 1) u
else
j6 g f b
def Ic:Nat->Int->LX->Er
|0,_,_=>none
|z+1,c,d=>Qt YM (Ic z) E L l5 c d
def XP h g b:=Ic h g b Aq
def XA(j4:Int32->Int->LX->Int->LX->Er)(g:Int)(v b:LX)(h:Int32):Er:=
j4 h g b 0 v
def JP:=XA XP
abbrev Fe:=Option (Int×LX×LX)
def DV:Fe:=
(Ah l6 0).bind λ_=>
(Mi l6 0 E).bind λz=>
some (L,l5,z)
def DA:=DV
def Sy(j6:Int32->Int->LX->LX->Fe)(Qf:Int->LX->Fe)(b:Int32)(f:Int)(g:LX)(h:Int)(a:LX):Fe:=
if(Du h 0)then
(Ah a (Al h 1)).bind λ_=>
(Ah a (Al h 1)).bind λm=>
(Ah a h).bind λ_=>
(Mi a h m).bind λn=>
Qf (Al h 1) n
else
j6 b f g a
def Ix:Nat->Int->LX->Fe
|0,_,_=>none
|z+1,c,d=>Sy DA (Ix z) E L l5 c d
def aE b f g:=Ix b f g Aq
def ZI(j4:Int32->Int->LX->Int->LX->Fe)(f:Int)(g o:LX)(b:Int32):Fe:=
j4 b f g 15 o
def NI:=ZI aE
def Vx:Option (Int32×Int×LX×LX):=
(EB z j N).bind λc=>
(Dc (Ae (Ad E:Int) (Ad c:Int))).bind λd=>
(JP z j N E).bind λ(e,i,l)=>
(NI e i l d).bind λ(t,A,B)=>
some (d,t,A,B)
def DE:Option Int32:=
(Jd (Bi L 0)).bind λ_=>
(Jd (Bi L 0)).bind λ_=>
if(Ck (Ho (Ce (Al L 1) (Ad E:Int)) L) 0)then
some (Ad (Al (Cq (Ce (Al L 1) (Ad E:Int)) L) 1):Int32)
else
some (Ad (Cq (Ce (Al L 1) (Ad E:Int)) L):Int32)
def Sn:=DE
def FH(j2:Int32->Int->Option Int32)(f:Int)(b:Int32):Option Int32:=
if(geq f 5)then
j2 b 32
else
j2 b 16
def Qk:=FH Sn
def Yk(b:Int)(a:Int32)(h:Int)(k m:LX):Option Int:=
if(geq b 8)then
(Qk 4 a).bind λf=>
some (Ad f:Int)
else
(Qk 5 a).bind λg=>
some (Ad g:Int)
def Vu:Option (Int32×Int×Int32×Int×LX×LX):=
(Vx L l5 l6 Ayh).bind λ(c,d,e,i)=>
(Yk z E L l5 l6).bind λj=>
(Dc (Ae (Ad c:Int) j)).bind λl=>
some (l,z,l,d,e,i)
def Sa:Option Int:=
if((Ck z 1)||(Du z 6))then
some 2
else
if(Du (Ac j) 4000)then
some 4
else
(Jd (Bi z 0)).bind λ_=>
if(Du (Ho (Ac j) z) 0)then
some 2
else
some 0
def YC:Option (LX):=
some j
def XR:=YC
def Re(j8:LX->Option (LX))(H2:Int->LX->Option (LX))(a:LX)(f:Int)(b:LX):Option (LX):=
if(Ks f 0)then
(Ah b (Ae f 1)).bind λ_=>
(Ah a f).bind λk=>
(Ah b (Ae f 1)).bind λm=>
(Dc (Al (Ad m:Int) (Ad k:Int))).bind λn=>
(Ah b f).bind λ_=>
(Mi b f n).bind λo=>
H2 (Al f 1) o
else
j8 b
def Hy:Nat->Int->LX->Option (LX)
|0,_,_=>none
|z+1,c,d=>Re XR (Hy z) j c d
def WG a:=Hy a Aq
def CO(j6:LX->Int->LX->Option (LX))(a p:LX):Option (LX):=
j6 a (Al (Ac a) 2) p
def Qw:=CO WG
def BP(j5:LX->LX->Option (LX))(a:LX):Option (LX):=
(mkI (Ac a) (0:Int32)).bind λh=>
(Jd (geq (Ac a) (Ac a))).bind λ_=>
(Ah a (Al (Ac a) 1)).bind λu=>
(Ah h (Al (Ac a) 1)).bind λ_=>
(Mi h (Al (Ac a) 1) u).bind λg=>
if(Du (Ac a) 1)then
(Ah a (Al (Ac a) 1)).bind λv=>
(Ah a (Al (Ac a) 2)).bind λw=>
(Dc (Ae (Ad v:Int) (Cq (Ad w:Int) 2))).bind λy=>
(Ah g (Al (Ac a) 1)).bind λ_=>
(Mi g (Al (Ac a) 1) y).bind λaa=>
j5 a aa
else
j5 a g
def Wq:=BP Qw
abbrev Gu:=Option (LX×Int)
def gE:Gu:=
some (j,0)
def gM:=gE
def LR(j6:LX->Gu)(Qf:Int->LX->Gu)(a:Int)(b:LX)(g:Int)(f:LX):Gu:=
if(Ck g (Ac b))then
(Bl b g (Ae g a)).bind λh=>
(Wq h).bind λk=>
(Cj f k).bind λm=>
Qf (Ae g a) m
else
j6 f
def Pn:Nat->Int->LX->Gu
|0,_,_=>none
|c+1,d,e=>LR gM (Pn c) z j d e
def fU a b:=Pn a b Aq
def JT(j4:Int->LX->Int->LX->Gu)(a:Int)(b:LX):Gu:=
(Sa a b).bind λn=>
if(Bi n 0)then
(Sa a b).bind λo=>
some (([]:LX),o)
else
j4 a b 0 ([]:LX)
def DU:=JT fU
def CD(b f:Int)(w:LX):Option (LX):=
(DU b w).bind λ(aj,ai)=>
some aj
def Qu:=CD
def CG(wA:Int->LX->Option (LX))(a:LU)(b f:Int)(h:LX)(g:Int)(m:LX):Option (LX):=
wA (Ae g 1) m
def BR wA:=CG wA
def BT(Acy:Int->LX->Int->Int32->Int->LX->LX->Option (LX))(a:LU)(g b f:Int)(h:LX)(k:Int)(ah:LX)(y:Int)(aa:Int32)(ab:Int)(ac ad:LX):Option (LX):=
Acy (Ae k b) ah y aa ab ac ad
def BK Acy:=BT Acy
def CC(j30:Int->LX->Int->Int32->Int->LX->LX->Option (LX))(a:LU)(g b f:Int)(h:LX)(k:Int)(ae:Int32)(m:LX)(n:Int)(o:Int32)(p:Int)(u v:LX)(y:Int)(aa:Int32)(ab:Int)(ac ad:LX):Option (LX):=
(Ah m k).bind λ_=>
(Mi m k ae).bind λah=>
j30 k ah y aa ab ac ad
def CI Acy a g b f h:=CC (BK Acy a g b f h) a g b f h
def CB(j29:Int->Int32->LX->Int->Int32->Int->LX->LX->Int->Int32->Int->LX->LX->Option (LX))(j32:Int->LX->Option (LX))(a:LU)(b f:Int)(h:LX)(g k:Int)(m:LX)(n:Int)(o:Int32)(p:Int)(u v:LX):Option (LX):=
if(Ck k (Ac a))then
(Ah a k).bind λag=>
(
(DS ag).bind λaf=>
(
(Vu n o p u v af).bind λ(ae,y,aa,ab,ac,ad)=>
j29 k ae m n o p u v y aa ab ac ad))
else
j32 g m
def Ln(wA:Int->LX->Option (LX))(a:LU)(b f:Int)(h:LX)(g:Int):Nat->Int->LX->Int->Int32->Int->LX->LX->Option (LX)
|0,_,_,_,_,_,_,_=>none
|q+1,k,m,n,o,p,u,v=>CB (CI (Ln wA a b f h g q) a g b f h) (BR wA a b f h) a b f h g k m n o p u v
def CF wA a b f h g:=Ln wA a b f h g Aq
def Qv(j26:Int->Int->LX->Int->Int32->Int->LX->LX->Option (LX))(j34:Int->Int->LX->Option (LX))(a:LU)(b f:Int)(h:LX)(g:Int)(w:LX):Option (LX):=
if(Ck g b)then
(VZ f h).bind λ(ak,ai,al,am,an,aq)=>
j26 g g w ak ai al am an
else
j34 b f w
def Fu:Nat->Int->LX->Option (LX)
|0,_,_=>none
|z+1,c,d=>Qv (CF (Fu z) R Ax2 Ax3 Ayp) Qu R Ax2 Ax3 Ayp c d
def CP a b f h:=Fu a b f h Aq
def DO(j18:LU->Int->Int->LX->Int->LX->Option (LX))(b f:Int)(h:LX)(a:LU):Option (LX):=
(mkI (Ac a) (0:Int32)).bind λao=>
(Jd (geq (Ac a) (Ac a))).bind λ_=>
j18 a b f h 0 ao
def Qi:=DO CP
def dD:Option Int:=
some 0
def cO:=dD
def Ff:Option Int:=
if(Ck o9 (Ac Ax1))then
(Ah Ax1 o9).bind λz=>
if(Ck (Ad z:Int) (nW L))then
some 16
else
(Ah Ax1 o9).bind λc=>
if(Ks (Ad c:Int) L)then
some 16
else
Ax6 (Ae o9 1)
else
q8
def Bv:Nat->Int->Option Int
|0,_=>none
|z+1,c=>Ff cO (Bv z) j J c
def dK a b:=Bv a b Aq
def Ju(j4:LX->Int->Int->Option Int)(k:Int)(a:LX):Option Int:=
(Vn k).bind λb=>
if(geq b 0)then
some 2
else
if(Du (Ac a) 4000)then
some 4
else
j4 a b 0
def Bq:=Ju dK
def Yp(g f:Int)(a:LX):Option (LX×Int):=
(Bq f a).bind λb=>
if(Bi b 0)then
some (([]:LX),b)
else
some (a,0)
abbrev Ty:=Option (LX×Int)
def Iw:Ty:=
if(Bi z 0)then
some (([]:LX),z)
else
(
(
(Qi d e j R).bind λc=>
(Yp d e c).bind λ(i,l)=>
some (i,l)))
def Ii:=Iw
def Tf(j2:Int->Int->Int->LX->LU->Ty)(a b:Int)(g:LX)(p:Int)(k:LB):Ty:=
(Nv a b p).bind λy=>
if(Bi y 0)then
some (([]:LX),2)
else
(Qj k).bind λaa=>
if(Bi aa 0)then
(Qj k).bind λab=>
some (([]:LX),ab)
else
(Bl k 0 (Al (Ac k) 4)).bind λac=>
(DF a p ac).bind λ(h,f)=>
j2 f a b g h
def Fa:=Tf Ii
def Ym:Option (LB):=
if(geq z 24)then
(Cj ([(Ad (Ho d 256):UInt8),(Ad (Ho (Cq d 256) 256):UInt8)]:LB) ([(Ad (Cq d 65536):UInt8)]:LB)).bind λc=>
some c
else
some ([(Ad (Ho d 256):UInt8),(Ad (Ho (Cq d 256) 256):UInt8)]:LB)
def Me:=Ym
def NY(j2:Int->Int->Option (LB))(a:Int)(f:Int32):Option (LB):=
if(geq a 8)then
some ([(Ad (Ae (Ad f:Int) 128):UInt8)]:LB)
else
if(Ck (Ad f:Int) 0)then
(Vn a).bind λh=>
j2 a (Ae (Ad f:Int) (Ce 2 h))
else
j2 a (Ad f:Int)
def HQ:=NY Me
abbrev Ge:=Option (LB×Int)
def cV:Ge:=
some (c,0)
def cY:=cV
def Ug(j6:LB->Ge)(Qf:Int->LB->Ge)(b:Int)(a:LX)(g:Int)(f:LB):Ge:=
if(Ck g (Ac a))then
(Ah a g).bind λh=>
(HQ b h).bind λk=>
(Cj f k).bind λm=>
Qf (Ae g 1) m
else
j6 f
def Jw:Nat->Int->LB->Ge
|0,_,_=>none
|c+1,d,e=>Ug cY (Jw c) z j d e
def dF b a:=Jw b a Aq
def HF(j4:Int->LX->Int->LB->Ge)(b:Int)(a:LX):Ge:=
(Bq b a).bind λn=>
if(Bi n 0)then
(Bq b a).bind λo=>
some (([]:LB),o)
else
j4 b a 0 ([]:LB)
def Ry:=HF dF
abbrev Ue:=Option (LB×Int)
def Gj(o:LX)(f:Int)(p g:LB)(h k a m n:Int)(u:LI)(b:Int)(v:LB)(w:Bool)(y:Int):Ue:=
if(Bi f 0)then
some (([]:LB),f)
else
(Ry a o).bind λ(ac,ai)=>
some (ac,0)
def Gp:=Gj
def Gn(j2:LX->Int->LB->LB->Int->Int->Int->Int->Int->LI->Int->LB->Bool->Int->Ue)(p g:LB)(h k a m n:Int)(u:LI)(b:Int)(v:LB)(w:Bool)(y:Int):Ue:=
(Ah u b).bind λaa=>
if(Ck (Ac g) aa)then
some (([]:LB),(-1:Int))
else
(Uw p).bind λ(ad,aj)=>
(Bl g 0 aa).bind λae=>
(Ht h k a m n).bind λ(af,ag)=>
(Gc h k a m n).bind λab=>
(Ah ab b).bind λ_=>
(Ah ab b).bind λah=>
(Fa af ag ad ah ae).bind λ(o,f)=>
j2 o f p g h k a m n u b v w y
def Cv:=Gn Gp
abbrev Ma:=Option (LB×LB×Int×Int×Int×Int×Int×LI×Int×LB×Bool×Int×Int)
def Bb:Ma:=
if(geq (Ac F) 0)then
(Fb C z d e B D c).bind λ(j,t,E)=>
if(Bi E 0)then
some (c,C,z,d,e,B,D,F,G,i,A,l,E)
else
(Bl C j (Ac C)).bind λI=>
some (c,I,z,d,e,B,D,t,G,i,A,l,0)
else
if(geq G (Ac F))then
if(Du (Ac C) 4000)then
some (c,C,z,d,e,B,D,F,G,i,A,l,38)
else
some (c,C,z,d,e,B,D,F,G,i,A,l,(-1:Int))
else
(Cv c C z d e B D F G i A l).bind λ(J,L)=>
if(Bi L 0)then
some (c,C,z,d,e,B,D,F,G,i,A,l,L)
else
(Cj ([]:LB) i).bind λM=>
(Cj M J).bind λN=>
(
(
(
(Ah F G).bind λO=>
(
(Bl C O (Ac C)).bind λP=>
some (c,P,z,d,e,B,D,F,(Ae G 1),N,A,l,0)))))
def Bt:=Bb
def Fz:Ma:=
(Eb z d e B D c).bind λj=>
some (c,C,z,d,e,B,D,F,G,i,A,l,j)
def Ga:=Fz
def Br(j3:LB->LB->Int->Int->Int->Int->Int->LI->Int->LB->Bool->Int->Ma)(j4:LB->LB->Int->Int->Int->Int->Int->LI->Int->LB->Bool->Int->Ma)(g a:LB)(m n o p u:Int)(b:LI)(f:Int)(v:LB)(h:Bool)(k:Int):Ma:=
if(geq m 0)then
(Wk a).bind λ(ac,ae,w,af,ag,y,ai)=>
if(Bi ai 0)then
some (g,a,m,n,o,p,u,b,f,v,h,k,ai)
else
(
(Bl a ac (Ac a)).bind λad=>
(
j3 g ad ae w af ag y b f v h k))
else
j4 g a m n o p u b f v h k
def Ag:=Br Ga Bt
def Up:Option Bool:=
(Ag c C z d e B D F G i A l).bind λ(j,t,E,I,J,L,M,N,O,P,R,T,U)=>
some (geq U (-1:Int))
def Ch:=Up
def Od(j4:LB->LB->Int->Int->Int->Int->Int->LI->Int->LB->Bool->Int->Option Bool)(o p:LB)(b f g h k:Int)(m:LI)(a:Int)(n:LB)(u:Bool)(v:Int):Option Bool:=
if(geq (Ac m) 0)then
if((Bi a 0)||(Du (Ac n) 0))then
some false
else
j4 o p b f g h k m a n u v
else
(Hq m).bind λy=>
if(Bi y 0)then
if((true||(Ck a 0))||(Du a (Ac m)))then
some false
else
(Vh b f g h k a).bind λaa=>
if(Du (Ac n) aa)then
some false
else
j4 o p b f g h k m a n u v
else
(Gc b f g h k).bind λab=>
if(((Bi (Ac m) (Ac ab))||(Ck a 0))||(Du a (Ac m)))then
some false
else
(Vh b f g h k a).bind λac=>
if(Du (Ac n) ac)then
some false
else
j4 o p b f g h k m a n u v
def Of:=Od Ch
def Um(j4:LB->LB->Int->Int->Int->Int->Int->LI->Int->LB->Bool->Int->Option Bool)(j3:LB->LB->Int->Int->Int->Int->Int->LI->Int->LB->Bool->Int->Option Bool)(o p:LB)(b f g h k:Int)(m:LI)(a:Int)(n:LB)(u:Bool)(v:Int):Option Bool:=
if((geq b 0)&&((geq f 0)&&((geq g 0)&&((geq h 0)&&((geq k 0)&&true)))))then
if(((Du (Ac m) 0)||(Bi a 0))||(Du (Ac n) 0))then
some false
else
j4 o p b f g h k m a n u v
else
(Kn b f g h k).bind λad=>
if(Bi ad 0)then
some false
else
(Eb b f g h k o).bind λae=>
if(Bi ae 0)then
some false
else
j3 o p b f g h k m a n u v
def Kl:=Um Ch Of
def Wj:Option Bool:=
some (((((((geq z 4)||(geq z 12))||(geq z 16))||(geq z 22))||(geq z 24))||(geq z 26))||(geq z 38))
def De:Option Int:=
if(Du (Ac c) 64)then
some 8
else
if((geq l 0)&&(!A))then
(Kl c C z d e B D F G i A l).bind λj=>
if(!j)then
some 8
else
some 0
else
if((geq (Ac C) 0)&&(geq (Ac F) 0))then
if((!(((geq z 0)&&((geq d 0)&&((geq e 0)&&((geq B 0)&&((geq D 0)&&true)))))&&(geq G 0)))||(Du (Ac i) 12000))then
some 8
else
if(Bi l 0)then
if A then
some 8
else
(Wj l).bind λt=>
if(!t)then
some 8
else
some 0
else
some 0
else
if((!(false&&(geq G 0)))||(Du (Ac i) 12000))then
some 8
else
if(Bi l 0)then
if A then
some 8
else
(Wj l).bind λE=>
if(!E)then
some 8
else
some 0
else
some 0
abbrev Yb:=Option (LB×LB×Int×Int×Int×Int×Int×LI×Int×LB×Bool×Int)
def Pf:Yb:=
(Cj ([]:LI) F).bind λi=>
some (c,X,z,d,e,B,D,i,G,l7,A,l)
def Pg:=Pf
def Pc(j2:LB->Int->Int->Int->Int->Int->LI->Int->Bool->Int->LB->LB->Yb)(f w:LB)(g h k m n:Int)(o:LI)(p:Int)(y:LB)(u:Bool)(v:Int):Yb:=
(
(
(
(Cj ([]:LB) w).bind λa=>
(
(Cj ([]:LB) y).bind λb=>
j2 f g h k m n o p u v a b))))
def Lj:=Pc Pg
def Pp(f g:LB)(h k m n o:Int)(p:LI)(u:Int)(v:LB)(b:Bool)(a:Int):Option Int:=
if(Bi a 0)then
some a
else
if b then
some 36
else
some 0
def Vl(a m:LB)(n o p u v:Int)(w:LI)(y:Int)(b:LB)(aa:Bool)(ab:Int):Option (LB×LB×Int×Int×Int×Int×Int×LI×Int×LB×Bool×Int):=
(
(
(Cj ([]:LB) b).bind λf=>
some (a,([]:LB),0,0,0,0,0,([]:LI),0,f,false,0)))
def Mj:Option (LB×LB×Int×Int×Int×Int×Int×LI×Int×LB×Bool×Int×Int):=
(Vl c C z d e B D F G i A l).bind λ(j,t,E,I,J,L,M,N,O,P,R,T)=>
some (j,t,E,I,J,L,M,N,O,P,R,V,V)
abbrev Mg:=Option (LB×LB×Int×Int×Int×Int×Int×LI×Int×LB×Bool×Int×Int)
def Bs(bk3:LB->LB->Int->Int->Int->Int->Int->LI->Int->LB->Bool->Int->Mg)(a b:LB)(f g h k m:Int)(n:LI)(o:Int)(p:LB)(u:Bool)(v:Int):Mg:=
(Ag a b f g h k m n o p u v).bind λ(bb,bc,bd,be,bf,bg,bh,bi,bj,bk,bl,bm,w)=>
if(geq w (-1:Int))then
(Lj a b f g h k m n o p u v).bind λ(bn,bp,bq,br,bs,bt,bu,bv,bw,bx,bz,da)=>
some (bn,bp,bq,br,bs,bt,bu,bv,bw,bx,bz,da,0)
else
if(Bi w 0)then
(Mj a b f g h k m n o p u v w).bind λ(db,dc,dd,de,df,dg,dh,di,dj,dk,dl,dm,dn)=>
some (db,dc,dd,de,df,dg,dh,di,dj,dk,dl,dm,dn)
else
bk3 bb bc bd be bf bg bh bi bj bk bl bm
def Au:Nat->LB->LB->Int->Int->Int->Int->Int->LI->Int->LB->Bool->Int->Mg
|0,_,_,_,_,_,_,_,_,_,_,_,_=>none
|q+1,a,b,f,g,h,k,m,n,o,p,u,v=>Bs (Au q) a b f g h k m n o p u v
def eY:=Au Aq
def Pq(j3:LB->LB->Int->Int->Int->Int->Int->LI->Int->LB->Bool->Int->Mg)(al am:LB)(an ao ap aq ar:Int)(au:LI)(av:Int)(aw:LB)(ax:Bool)(ay:Int)(dp:LB):Mg:=
(De al am an ao ap aq ar au av aw ax ay).bind λaz=>
if(Bi az 0)then
some (([]:LB),([]:LB),0,0,0,0,0,([]:LI),0,([]:LB),false,0,az)
else
(Lj al am an ao ap aq ar au av aw ax ay).bind λ(y,aa,ab,ac,ad,ae,af,ag,ah,ai,aj,ak)=>
(Pp y aa ab ac ad ae af ag ah ai aj ak).bind λba=>
if(Bi ba 0)then
some (y,aa,ab,ac,ad,ae,af,ag,ah,ai,aj,ak,ba)
else
(Cj aa dp).bind λdq=>
j3 y dq ab ac ad ae af ag ah ai aj ak
def Ij:=Pq eY
abbrev Gv:=Option (Int×Int)
def Ww:Gv:=
if(Ck (Ac c) J)then
some (0,24)
else
if(i==X)then
(Bl c (Al (Ac c) J) (Ae (Al (Ac c) J) 32)).bind λe=>
(Uz z d).bind λj=>
if(e !=j)then
some (0,12)
else
some (J,0)
else
some (J,0)
def Ws:=Ww
def Vv(j6:LB->Int->Int->LB->LB->Int->Gv)(a:LB)(f g:Int)(b h:LB):Gv:=
if(b==h)then
j6 a f g b h (Ae (Ae 32 f) 32)
else
j6 a f g b h (Ae 32 f)
def Wh:=Vv Ws
def KZ(j5:LB->Int->Int->LB->LB->Gv)(a:LB):Gv:=
(Bl a (Al (Ac a) 32) (Ac a)).bind λb=>
(Us b).bind λ(f,g,n)=>
if(!n)then
some (0,12)
else
(Lp f g true).bind λh=>
(
if(!(b==h))then
(Lp f g false).bind λm=>
if(b !=m)then
some (0,12)
else
j5 a f g b h
else
j5 a f g b h)
def LD:=KZ Wh
def JK(j4:LB->Gv)(a:LB):Gv:=
if(Ck (Ac a) 32)then
some (0,6)
else
(Bl a (Al (Ac a) 32) (Ae (Al (Ac a) 32) 8)).bind λu=>
if(u !=([65,80,69,84,65,71,69,88]:LB))then
some (0,6)
else
j4 a
def DR:=JK LD
abbrev Fk:=Option (Int×Int)
def ZE:Fk:=
some (z,0)
def YU:=ZE
def GG(j6:Int->Fk)(Qf:LB->Int->Fk)(b:LB)(a:Int):Fk:=
if(Du (Ac b) 0)then
(DR b).bind λ(g,h)=>
if(Bi h 0)then
some (0,38)
else
(Bl b 0 (Al (Ac b) g)).bind λk=>
Qf k (Ae a 1)
else
j6 a
def Mr:Nat->LB->Int->Fk
|0,_,_=>none
|q+1,b,a=>GG YU (Mr q) b a
def ZY:=Mr Aq
def DH(j4:LB->Int->Fk)(f:LB):Fk:=
if(Du (Ac f) 4000)then
some (0,38)
else
j4 f 0
def Ye:=DH ZY
def Qg(p a:LB)(g u v w y:Int)(b:LI)(h:Int)(aa:LB)(ab:Bool)(ac:Int):Option Int:=
if(geq g 0)then
(Tc a).bind λ(k,f)=>
if(Bi f 0)then
some f
else
(Bl a k (Ac a)).bind λm=>
(Vi m).bind λ(ad,ae,af,ag,ah,n)=>
some n
else
if((geq (Ac b) 0)||(Ck h (Ac b)))then
some 24
else
(Ye a).bind λ(ai,o)=>
if(Bi o 0)then
some 38
else
some 0
def dM:Option Int:=
some z
def dB:=dM
def cU(j6:Int->Option Int)(Qf:Int->Int->Option Int)(b h k m n o f:Int)(g:LI)(a p:Int):Option Int:=
if(Ck p b)then
(Ah g p).bind λu=>
Qf (Ae a u) (Ae p 1)
else
j6 a
def HH:Nat->Int->Int->Option Int
|0,_,_=>none
|c+1,i,j=>cU dB (HH c) z d e B D G l Ayk i j
def cM b h k m n o f g:=HH b h k m n o f g Aq
def dA(j4:Int->Int->Int->Int->Int->Int->Int->LI->Int->Int->Option Int)(h k m n o f:Int)(g:LI)(b:Int):Option Int:=
j4 b h k m n o f g f 0
def lM:=dA cM
abbrev AX:=Option (LB×Int)
def jU(u:LX)(n o g f h k p:Int)(b:LI):AX:=
if(Bi n 0)then
some (([]:LB),n)
else
(Ry f u).bind λ(af,ai)=>
some (af,0)
def jN:=jU
def jM(j2:LX->Int->Int->Int->Int->Int->Int->Int->LI->AX)(v y:LB)(o g f h k p:Int)(b:LI)(a:Int):AX:=
(lM o g f h k p b a).bind λm=>
(Ah b a).bind λaa=>
if(Ck (Al (Ac v) m) aa)then
some (([]:LB),24)
else
(Uw y).bind λ(ab,ag)=>
(Ah b a).bind λac=>
(Bl v m (Ae m ac)).bind λad=>
(
(Nr h k).bind λw=>
(Ah w a).bind λ_=>
(Ah w a).bind λae=>
(Fa g f ab ae ad).bind λ(u,n)=>
j2 u n o g f h k p b)
def sC:=jM jN
end Go.Pl
