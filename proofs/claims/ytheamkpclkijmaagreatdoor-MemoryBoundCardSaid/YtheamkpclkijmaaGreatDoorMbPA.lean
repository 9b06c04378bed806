/- A part of a proof (see the text that ends in Proof). No conditions. -/
import Derived.Test.YtheamkpclkijmaaGreatDoorMbBA
set_option linter.unusedVariables false
namespace Go.Pl
open Go Go.Lv
abbrev LB:=List UInt8
abbrev LI:=List Int
abbrev LX:=List Int32
abbrev LU:=List UInt32
abbrev LQ:=List UInt64
variable(c:LB)(D:LI)(z d B J U p8 Ay3 Azn Azo Azp:Int)(e:LX)(l6:LI)(i Azf:LB)(A F P R T:Int)(M:LI)(N:Int)(O:LB)(C:Bool)(E:Int)(Azg:LB)(Aza Azs Azt Azu Azv Azw:Int)(Azh:LB)(Azx:Bool)(Azy:Int)(Azz:LB)(Az0:LI)(j:UInt64)(V:UInt32)(X:UInt64)(q8:LB)(Ayu:UInt64->Option UInt64)(Ayv:UInt64->Int->Option UInt64)(Z:Int)(Ay4:LB)(Azi:Int)(o8:UInt64)(l7:Int)(Ayx:Option Int)(Ayy:Int->Option Int)(I Azj:Int32)(L:LX)(G:Int)(l9 o7:LX)(l5:Int32)(Ay5 Ay6:UInt64)(Az1:Int32)(Ayz:Int->Int->Option Int)(Ay0:LI)(p9 o9:Int)(r9:List LB)(Azb Azc Az2:LB)(Az3:Int->Option Int)(Azk:LI)(Ay7 Azd:Int)(Ay8:UInt8)(Azq:UInt64)(q9:Int)(Y:LU)(Ayr Ays:Int)(Aze:LX)(Az4:LQ)(Az5:Int->LI->Option (LI))(Azr:LI)(Azl:UInt64)(Ay2:Bool->Option Int)(Ayw:Bool)(Ay9:Int)(Azm:List LI)
def jD(a b f:Int)(g:LX):Option (Int×Int):=
some (a,b)
abbrev TP:=Option (Int32×Int32×Int)
def vE:TP:=
if C then
(Jm (Mf (Am z 1) 0)).bind λ_=>
some ((lI (Dy (1:Int32) (GI.toZ (Am z 1)).toNat)),(Am (Dy (1:Int32) (GI.toZ (Am z 1)).toNat) 1),0)
else
some (0,0,2)
def zG:=vE
def wS(j2:Int->Bool->TP)(a:Int):TP:=
if(geq a 8)then
j2 a (geq a 8)
else
if(geq a 16)then
j2 a (geq a 16)
else
j2 a (geq a 24)
def KI:=wS zG
def Tg:Option Int:=
(KI d).bind λ(c,e,i)=>
if(((Bf i 0)||(Cm z 1))||(Dm z 6))then
some 2
else
some 0
def BZ:Option (Int×Int):=
if((Cm z 1)||(Dm z 1048576))then
some (0,2)
else
some ((aE 1 (Cx (Bo 256 z) 245)),0)
def Tc:Option (Int×Int):=
(BZ z).bind λ(c,e)=>
if(Bf e 0)then
some (0,e)
else
if((Cm d 1)||(Dm d 4000))then
some (0,2)
else
(Jm (Bf c 0)).bind λ_=>
if(Dm (Cx (Am (Ae d c) 1) c) 1000)then
some (0,4)
else
some ((Cx (Am (Ae d c) 1) c),0)
def D7:Option Int:=
(jD z d B e).bind λ(c,i)=>
(Tg c i).bind λj=>
if((Bf j 0)||(Cm A 1))then
some 8
else
(Jm (Bf z 0)).bind λ_=>
if(Dm A (Cx 4000 z))then
some 8
else
(Tc B A).bind λ(C,D)=>
if(Bf D 0)then
some 8
else
some 0
def yY:Option Int:=
some 0
def dJ:=yY
def CK:Option Int:=
if(Cm G (Ac L))then
(Ak L G).bind λz=>
if((Cm z I)||(Dm z Azj))then
some 16
else
Ayy (Ae G 1)
else
Ayx
def Px:Nat->Int->Option Int
|0,_=>none
|z+1,c=>CK dJ (Px z) I Azj L c
def uF b f a:=Px b f a Ba
def PW(j4:Int32->Int32->LX->Int->Option Int)(m:Int)(a:LX):Option Int:=
(KI m).bind λ(b,f,k)=>
if(Bf k 0)then
some k
else
if(Dm (Ac a) 4000)then
some 4
else
j4 b f a 0
def Vt:=PW uF
def GN:Option Int:=
if(Cm z 1)then
some 8
else
(Jm (Bf z 0)).bind λ_=>
if(Bf (Ho (Ac e) z) 0)then
some 8
else
(Jm (Bf z 0)).bind λ_=>
(D7 z d B e (Cx (Ac e) z)).bind λc=>
if(Bf c 0)then
some c
else
(Vt d e).bind λi=>
if(Bf i 0)then
some 8
else
some 0
abbrev TS:=Option (Int×Int×Int×Int×Int×Int)
def wH:TS:=
if(c !=([]:LB))then
some (2,z,d,B,(Cx (Ac e) z),0)
else
some (1,z,d,B,(Cx (Ac e) z),0)
def cS:=wH
def OA(j2:LB->Int->Int->Int->LX->TS)(a b f:Int)(g:LX)(h:LB):TS:=
(GN a b f g).bind λk=>
if(Bf k 0)then
some (0,0,0,0,0,k)
else
if(Dm (Ac h) 64)then
some (0,0,0,0,0,2)
else
(Jm (Bf a 0)).bind λ_=>
(
j2 h a b f g)
def rO:=OA cS
abbrev Ca:=Option (UInt64×Int)
def cV:Ca:=
some (j,0)
def cX:=cV
def bH(j30:UInt64->Ca)(h b:UInt64)(a:LB)(f:LQ):Ca:=
j30 h
def PU:=bH cX
def DE(j29:UInt64->UInt64->LB->LQ->Ca)(Uy:UInt64->Int->Ca)(a:LB)(b:UInt64)(f:LQ)(h:UInt64)(m:Int):Ca:=
if(Cm m (Ac a))then
(Ak a m).bind λp=>
Option.bind (Ak f (GI.toZ (Yg (Ad (Cq h (GI.toZ (56:UInt64)).toNat):UInt8) p))) λ_=>
Option.bind (Ak f (GI.toZ (Yg (Ad (Cq h (GI.toZ (56:UInt64)).toNat):UInt8) p))) λu=>
Uy (Yg (Dy h (GI.toZ (8:UInt64)).toNat) u) (Ae m 1)
else
j29 h b a f
def Qc:Nat->UInt64->Int->Ca
|0,_,_=>none
|z+1,d,e=>DE PU (Qc z) c j Az4 d e
def OQ a b f:=Qc a b f Ba
def OI(j27:LB->UInt64->LQ->UInt64->Int->Ca)(b:UInt64)(a:LB)(f:LQ):Ca:=
j27 a b f b 0
def PN:=OI OQ
def bB(Mi:Int->LQ->Ca)(b:UInt64)(a:LB)(g:Int)(o:LQ):Ca:=
Mi (Ae g 1) o
def bU Mi:=bB Mi
def bK(j24:Int->LQ->Ca)(b:UInt64)(a:LB)(g:Int)(k:UInt64)(f:LQ):Ca:=
(Ak f g).bind λ_=>
(Lp f g k).bind λo=>
j24 g o
def CT Mi b a:=bK (bU Mi b a) b a
def CE(j23:Int->UInt64->LQ->Ca)(Aby:UInt64->Int->Ca)(b:UInt64)(a:LB)(g:Int)(f:LQ)(k:UInt64)(n:Int):Ca:=
if(Cm n 8)then
Aby (Yg (Dy k (GI.toZ (1:UInt64)).toNat) (Bo 4823603603198064275 (Cq k (GI.toZ (63:UInt64)).toNat))) (Ae n 1)
else
j23 g k f
def Qk(Mi:Int->LQ->Ca)(b:UInt64)(a:LB)(g:Int)(f:LQ):Nat->UInt64->Int->Ca
|0,_,_=>none
|q+1,k,n=>CE (CT Mi b a) (Qk Mi b a g f q) b a g f k n
def QT Mi b a g f:=Qk Mi b a g f Ba
def DG(j21:Int->LQ->UInt64->Int->Ca)(j26:UInt64->LB->LQ->Ca)(b:UInt64)(a:LB)(g:Int)(f:LQ):Ca:=
if(Cm g 256)then
j21 g f (Dy (Ad g:UInt64) (GI.toZ (56:UInt64)).toNat) 0
else
j26 b a f
def Mz:Nat->Int->LQ->Ca
|0,_,_=>none
|z+1,c,d=>DG (QT (Mz z) j q8) PN j q8 c d
def cK b a:=Mz b a Ba
def TQ(j16:UInt64->LB->Int->LQ->Ca)(b:UInt64)(a:LB):Ca:=
if(Dm (Ac a) 100000)then
some (0,4)
else
j16 b a 0 (List.replicate 256 (0:UInt64))
def YF:=TQ cK
def UO:Option (UInt64×Int):=
(YF 0 c).bind λ(z,d)=>
some (z,d)
def Abr:Option (LX):=
some e
def vF:=Abr
def YU(j6:LX->Option (LX))(Ps:Int->LX->Option (LX))(f:UInt64)(a:Int)(b:LX):Option (LX):=
if(Cm a 8)then
(Jm (Mf (Bo 8 a) 0)).bind λ_=>
(Ak b a).bind λ_=>
(Lp b a (Ad (Ad (Cq f (GI.toZ (Bo 8 a)).toNat):Int8):Int32)).bind λg=>
Ps (Ae a 1) g
else
j6 b
def HG:Nat->Int->LX->Option (LX)
|0,_,_=>none
|z+1,c,d=>YU vF (HG z) j c d
def Abt f:=HG f Ba
def yP(j4:UInt64->Int->LX->Option (LX))(f:UInt64):Option (LX):=
j4 f 0 (List.replicate 16 (0:Int32))
def L8:=yP Abt
def Qo:Option (LX×Int):=
if(Dm (Ac c) 64)then
some (([(0:Int32),(0:Int32),(0:Int32),(0:Int32),(0:Int32),(0:Int32),(0:Int32),(0:Int32),(0:Int32),(0:Int32),(0:Int32),(0:Int32),(0:Int32),(0:Int32),(0:Int32),(0:Int32)]:LX),2)
else
(UO c).bind λ(z,d)=>
if(Bf d 0)then
some (([(0:Int32),(0:Int32),(0:Int32),(0:Int32),(0:Int32),(0:Int32),(0:Int32),(0:Int32),(0:Int32),(0:Int32),(0:Int32),(0:Int32),(0:Int32),(0:Int32),(0:Int32),(0:Int32)]:LX),d)
else
(L8 z).bind λe=>
some (e,0)
def KY:Option (UInt64×UInt64):=
some ((Ae (Ae (Bo (Cq j (GI.toZ (32:UInt64)).toNat) (Cq X (GI.toZ (32:UInt64)).toNat)) (Cq (Ae (Bo (Cq j (GI.toZ (32:UInt64)).toNat) (Es X 4294967295)) (Cq (Bo (Es j 4294967295) (Es X 4294967295)) (GI.toZ (32:UInt64)).toNat)) (GI.toZ (32:UInt64)).toNat)) (Cq (Ae (Es (Ae (Bo (Cq j (GI.toZ (32:UInt64)).toNat) (Es X 4294967295)) (Cq (Bo (Es j 4294967295) (Es X 4294967295)) (GI.toZ (32:UInt64)).toNat)) 4294967295) (Bo (Es j 4294967295) (Cq X (GI.toZ (32:UInt64)).toNat))) (GI.toZ (32:UInt64)).toNat)),(Bo j X))
def HZ:Option (UInt64×UInt64):=
(KY j X).bind λ(z,c)=>
some (z,c)
def Nr:Option (LI):=
some D
def Iw:=Nr
def Gx(j10:LI->Option (LI))(bk8:Int->LI->Option (LI))(b:Int)(a:LI):Option (LI):=
if(Cm b (Ac a))then
(
(gB (Ac a) b (Ac a)).bind λ_=>
(gB (Ac a) 0 b).bind λ_=>
bk8 (Ae b (QB ((Ac a)-b) (UW a 0 (b-(0:Int))).length)) (Vf a b ((Ac a)-b) (UW a 0 (b-(0:Int)))))
else
j10 a
def Et:Nat->Int->LI->Option (LI)
|0,_,_=>none
|q+1,b,a=>Gx Iw (Et q) b a
def Zb:=Et Ba
def Pg:Option (LI):=
(mkI (Ad Azl:Int) (0:Int)).bind λz=>
(Jm (geq (Ad Azl:Int) (Ad Azl:Int))).bind λ_=>
Az5 (QB (Ac z) Azr.length) (zI z Azr)
def Yx:=Pg Zb
def Pa(j7:LI->UInt64->Option (LI))(f:LI)(h:Int):Option (LI):=
(HZ (Ad (Ac f):UInt64) (Ad h:UInt64)).bind λ(m,g)=>
if((Dm m 0)||(Dm g 9223372036854775807))then
none
else
j7 f g
def Zc:=Pa Yx
def Pe(j6:LI->Int->Option (LI))(f:LI)(h:Int):Option (LI):=
if(Cm h 0)then
none
else
j6 f h
def Nl:=Pe Zc
def RD:Option (LI):=
some D
def Xp:=RD
def Gk(j16:LI->Option (LI))(Ast:Int->LI->Option (LI))(a:List LI)(g:Int)(f:LI):Option (LI):=
if(Cm g (Ac a))then
(Ak a g).bind λn=>
(Dh f n).bind λo=>
Ast (Ae g 1) o
else
j16 f
def Ea:Nat->Int->LI->Option (LI)
|0,_,_=>none
|z+1,c,d=>Gk Xp (Ea z) Azm c d
def Nv a:=Ea a Ba
def Ns(j14:(List LI)->Int->LI->Option (LI))(a:List LI)(p:LI):Option (LI):=
j14 a 0 p
def Nw:=Ns Nv
def Nt(j13:(List LI)->LI->Option (LI))(b:Int)(a:List LI):Option (LI):=
if(Dm (Am b (Am (0:Int) (0:Int))) 0)then
(gB 0 0 0).bind λ_=>
(mkI (Am b (Am (0:Int) (0:Int))) (0:Int)).bind λu=>
(Dh ([]:LI) u).bind λk=>
(gB (Ac k) 0 0).bind λ_=>
j13 a (UW k 0 ((0:Int)-(0:Int)))
else
j13 a ([]:LI)
def Xm:=Nt Nw
def Nx(j12:Int-> (List LI)->Option (LI))(a:List LI)(b:Int):Option (LI):=
if(Cm b 0)then
none
else
j12 b a
def Xk:=Nx Xm
def Gv(j11:(List LI)->Int->Option (LI))(bk9:Int->Int->Option (LI))(a:List LI)(b h:Int):Option (LI):=
if(Cm h (Ac a))then
(Ak a h).bind λm=>
if(Cm (Ae b (Ac m)) 0)then
none
else
bk9 (Ae b (Ac m)) (Ae h 1)
else
j11 a b
def Er:Nat->Int->Int->Option (LI)
|0,_,_=>none
|z+1,c,d=>Gv Xk (Er z) Azm c d
def Yt a:=Er a Ba
def Pd(j9:(List LI)->Int->Int->Option (LI))(a:List LI):Option (LI):=
j9 a 0 0
def Nf:=Pd Yt
def PL:Option (LI):=
(Nf ([D,l6]:List LI)).bind λz=>
some z
def Vn:Option (LI×Int):=
(Tc z d).bind λ(c,e)=>
if(Bf e 0)then
some (([]:LI),e)
else
(BZ z).bind λ(i,j)=>
(Nl ([i]:LI) (Am c 1)).bind λA=>
(PL A ([(Am d (Bo (Am c 1) i))]:LI)).bind λB=>
some (B,0)
def gP:Option Int:=
(Tg z d).bind λc=>
if(Bf c 0)then
some c
else
(Vt d e).bind λi=>
if(Bf i 0)then
some i
else
if(geq (Ac e) 0)then
some 2
else
(Jm (Bf z 0)).bind λ_=>
if(Bf (Ho (Ac e) z) 0)then
some 2
else
some 0
def VA:Option Int:=
if((Cm z 1)||(Dm z 6))then
some 2
else
if(Dm (Ac e) 4000)then
some 4
else
(Jm (Bf z 0)).bind λ_=>
if(Bf (Ho (Ac e) z) 0)then
some 2
else
some 0
def En:Option (LX):=
(
(Dh ([]:LX) e).bind λz=>
some z)
abbrev Io:=Option (LX×Int)
def mh:Io:=
some (e,0)
def qF:=mh
def X0(TX:Int->LX->Io)(b a:Int)(u:LX):Io:=
TX (Ae a b) u
def pz TX:=X0 TX
def vo(j20:Int->LX->Io)(b a:Int)(g:LX):Io:=
if(Dm (Am ((Ae a b)-a) 1) 0)then
(Jm (decide (0<= (Am ((Ae a b)-a) 1)/\ (Am ((Ae a b)-a) 1)<((Ae a b)-a)))).bind λ_=>
Option.bind (Jm (decide (0<= (Am (Am ((Ae a b)-a) 1) 1)/\ (Am (Am ((Ae a b)-a) 1) 1)<((Ae a b)-a)))) λ_=>
(Ak g (a+(Am ((Ae a b)-a) 1))).bind λk=>
(Ak g (a+(Am (Am ((Ae a b)-a) 1) 1))).bind λm=>
(Jm (decide (0<= (Am ((Ae a b)-a) 1)/\ (Am ((Ae a b)-a) 1)<((Ae a b)-a)))).bind λ_=>
(Lp g (a+(Am ((Ae a b)-a) 1)) (Am k (Cx m 2))).bind λn=>
j20 a n
else
j20 a g
def qH TX b:=vo (pz TX b) b
def qE(j19:Int->LX->Io)(Awp:Int->LX->Io)(b a f:Int)(g:LX):Io:=
if(Cm f (Am ((Ae a b)-a) 1))then
(Jm (decide (0<= (Ae f 1)/\ (Ae f 1)<((Ae a b)-a)))).bind λ_=>
(Jm (decide (0<=f/\f<((Ae a b)-a)))).bind λ_=>
(Ak g (a+(Ae f 1))).bind λk=>
(Ak g (a+f)).bind λm=>
(Jm (decide (0<=f/\f<((Ae a b)-a)))).bind λ_=>
(Lp g (a+f) (Am k m)).bind λn=>
Awp (Ae f 1) n
else
j19 a g
def dI(TX:Int->LX->Io)(b a:Int):Nat->Int->LX->Io
|0,_,_=>none
|q+1,f,g=>qE (qH TX b) (dI TX b a q) b a f g
def qT TX b a:=dI TX b a Ba
def qM(j17:Int->Int->LX->Io)(j22:LX->Io)(b a:Int)(h:LX):Io:=
if(Cm a (Ac h))then
(gB (Ac h) a (Ae a b)).bind λ_=>
j17 a 0 h
else
j22 h
def eG:Nat->Int->LX->Io
|0,_,_=>none
|c+1,d,e=>qM (qT (eG c) z) qF z d e
def U9 b:=eG b Ba
def wM(j12:Int->Int->LX->Io)(b:Int)(o:LX):Io:=
(VA b o).bind λp=>
if(Bf p 0)then
some (([]:LX),p)
else
(En o).bind λv=>
j12 b 0 v
def Aej:=wM U9
abbrev jC:=Option (Int×LX×LX×Int)
def uz:jC:=
if C then
some (10,e,(List.replicate 16 (0:Int32)),0)
else
if(geq z 16)then
some (9,e,(List.replicate 16 (0:Int32)),0)
else
some (0,(List.replicate 16 (0:Int32)),(List.replicate 16 (0:Int32)),2)
def Z7:=uz
def oq(j2:Int->LX->Bool->jC)(a:Int)(b:LX):jC:=
if(geq a 8)then
j2 a b (geq a 8)
else
j2 a b (geq a 24)
def mS:=oq Z7
def pY:Option (Int×Int32×Int×LX×LX×Int):=
(mS z e).bind λ(c,d,i,j)=>
if(Bf j 0)then
some (0,0,0,(List.replicate 16 (0:Int32)),(List.replicate 16 (0:Int32)),j)
else
some (z,0,c,d,i,0)
def Vs(a:Int)(k:Int32)(b:Int)(f m:LX):Option Int:=
(mS a f).bind λ(g,n,o,h)=>
if((Bf h 0)||(Bf g b))then
some 8
else
some 0
def cN:Option (Int×Int):=
if(geq z 8)then
some (4,0)
else
if(geq z 16)then
if(geq z 16)then
some (5,0)
else
some (0,2)
else
if(geq z 24)then
some (5,0)
else
some (0,2)
def RJ:Option Int32:=
(Jm (Mf z 0)).bind λ_=>
(Jm (Mf z 0)).bind λ_=>
some (Ad (P6 (Am (Dy (Ad I:Int) (GI.toZ z).toNat) (Ad I:Int)) (GI.toZ z).toNat):Int32)
def Vu:Option (Int32×Int):=
(cN z).bind λ(c,d)=>
if(Bf d 0)then
some (0,d)
else
(RJ c I).bind λe=>
some (e,0)
def HD(a:Int)(b f:LX):Option Int:=
if((Bf a 9)&&(Bf a 10))then
some 8
else
some 0
abbrev Rm:=Option (Int32×Int)
def iJ(h:Int32)(a:Int)(b f:LX):Rm:=
(Jm (Mf a 0)).bind λ_=>
some ((Cq h (GI.toZ a).toNat),0)
def TI:=iJ
def HR(j6:Int32->Int->LX->LX->Rm)(Ps:Int32->Int->Rm)(b:LX)(a:Int)(f:LX)(h:Int32)(g:Int):Rm:=
if(Cm g 16)then
(Ak b g).bind λm=>
(Ak f g).bind λ_=>
(Ak f g).bind λn=>
Ps (Ae h (Bo m n)) (Ae g 1)
else
j6 h a b f
def Th:Nat->Int32->Int->Rm
|0,_,_=>none
|z+1,c,d=>HR TI (Th z) e A L c d
def gZ b a f:=Th b a f Ba
def TF(j4:LX->Int->LX->Int32->Int->Rm)(a:Int)(b f:LX):Rm:=
(HD a b f).bind λk=>
if(Bf k 0)then
some (0,k)
else
(Jm (Mf (Am a 1) 0)).bind λ_=>
j4 b a f (Dy (1:Int32) (GI.toZ (Am a 1)).toNat) 0
def PO:=TF gZ
def UK:Option Int32:=
if(geq z 0)then
some 4
else
if(Cm z 4)then
some 2
else
some 1
abbrev Qu:=Option (Int×LX×LX×Int)
def C1:Qu:=
some (z,e,L,0)
def hH:=C1
def HS(j6:Int->LX->LX->Qu)(Ps:Int->LX->Qu)(h:Int32)(f:LX)(g a:Int)(b:LX):Qu:=
if(Cm a 16)then
(Ak f a).bind λm=>
if(geq m 0)then
Ps (Ae a 1) b
else
if((Cm m 0)==(Cm h 0))then
(Ak b a).bind λ_=>
(Ak b a).bind λo=>
(UK a).bind λp=>
(Ak b a).bind λ_=>
(Lp b a (Ae o p)).bind λu=>
Ps (Ae a 1) u
else
(Ak b a).bind λ_=>
(Ak b a).bind λv=>
(UK a).bind λw=>
(Ak b a).bind λ_=>
(Lp b a (Am v w)).bind λy=>
Ps (Ae a 1) y
else
j6 g b f
def Sp:Nat->Int->LX->Qu
|0,_,_=>none
|z+1,c,d=>HS hH (Sp z) I L G c d
def B2 h f g:=Sp h f g Ba
def TO(j4:Int32->LX->Int->Int->LX->Qu)(g:Int)(k f:LX)(h:Int32):Qu:=
(HD g k f).bind λn=>
if(Bf n 0)then
some (0,(List.replicate 16 (0:Int32)),(List.replicate 16 (0:Int32)),n)
else
if(geq h 0)then
some (g,k,f,0)
else
j4 h f g 0 k
def YV:=TO B2
abbrev dY:=Option (Int×LX×LX×Int)
def lH:dY:=
(Ak (Vf o7 1 ((16:Int)-(1:Int)) (UW o7 0 ((16:Int)-(0:Int)))) 0).bind λ_=>
(Lp (Vf o7 1 ((16:Int)-(1:Int)) (UW o7 0 ((16:Int)-(0:Int)))) 0 I).bind λz=>
some (G,l9,z,0)
def XY:=lH
def NC(j2:Int32->Int->LX->LX->dY)(b:Int)(f a:LX)(g:Int32):dY:=
(HD b f a).bind λh=>
if(Bf h 0)then
some (0,(List.replicate 16 (0:Int32)),(List.replicate 16 (0:Int32)),h)
else
(
(gB 16 1 16).bind λ_=>
(gB 16 0 16).bind λ_=>
j2 g b f a)
def fR:=NC XY
def WK:Option (Int×LX×LX):=
(YV z e L Az1).bind λ(c,d,i,j)=>
(fR c d i l5).bind λ(A,B,C,D)=>
some (A,B,C)
def eT:Option (Int32×Int×LX×LX×Int):=
(PO z e L).bind λ(c,d)=>
if(Bf d 0)then
some (0,0,(List.replicate 16 (0:Int32)),(List.replicate 16 (0:Int32)),d)
else
(WK z e L l5 (Am l5 c)).bind λ(i,j,A)=>
some ((Am l5 c),i,j,A,0)
def HN:Option (Int32×Int×Int32×Int×LX×LX×Int):=
(Vs z I G l9 o7).bind λc=>
if(Bf c 0)then
some (0,0,0,0,(List.replicate 16 (0:Int32)),(List.replicate 16 (0:Int32)),c)
else
(Vu z I).bind λ(d,e)=>
(eT G l9 o7 (Am l5 d)).bind λ(i,j,A,B,C)=>
(
some (i,z,l5,j,A,B,C))
def G3:Option UInt32:=
some (Yg (Dy (Ad I:UInt32) (GI.toZ (1:UInt64)).toNat) (Ad (Cq I (GI.toZ (31:UInt64)).toNat):UInt32))
abbrev Db:=Option (LU×Int)
def kE:Db:=
some (Y,0)
def RA:=kE
def QR(j12:LU->Db)(Abz:Int-> (List (Int×Int32×(Int×LX×LX×Unit)×Unit))->LU->Db)(b:LX)(a f g:Int)(k:List (Int×Int32×(Int×LX×LX×Unit)×Unit))(h:LU):Db:=
if(Cm g (Ac b))then
(Ak b g).bind λ_=>
(Ak b g).bind λac=>
(Jm (Bf a 0)).bind λ_=>
(Ak k (Ho g a)).bind λ_=>
(Ak k (Ho g a)).bind λp=>
(HN p.1 p.2.1 p.2.2.1.1 p.2.2.1.2.1 p.2.2.1.2.2.1 ac).bind λ(u,ad,ae,v,af,ag,w)=>
if(Bf w 0)then
some (([]:LU),w)
else
(Lp k (Ho g a) (ad,ae,(v,af,ag,()),())).bind λah=>
(G3 u).bind λai=>
(Dh h ([ai]:LU)).bind λaj=>
Abz (Ae g 1) ah aj
else
j12 h
def Zy:Nat->Int-> (List (Int×Int32×(Int×LX×LX×Unit)×Unit))->LU->Db
|0,_,_,_=>none
|z+1,c,d,i=>QR RA (Zy z) e A F c d i
def OL b a f:=Zy b a f Ba
def RG(j10:LX->Int->Int->Int-> (List (Int×Int32×(Int×LX×LX×Unit)×Unit))->LU->Db)(a f:Int)(b:LX)(m:List (Int×Int32×(Int×LX×LX×Unit)×Unit)):Db:=
j10 b a f 0 m ([]:LU)
def kU:=RG OL
def RL(j9:Int->Int->LX-> (List (Int×Int32×(Int×LX×LX×Unit)×Unit))->Db)(bk7:Int-> (List (Int×Int32×(Int×LX×LX×Unit)×Unit))->Db)(a f:Int)(n b:LX)(o:Int)(m:List (Int×Int32×(Int×LX×LX×Unit)×Unit)):Db:=
if(Cm o 6)then
(pY f n).bind λ(ak,al,u,am,an,v)=>
(Ak m o).bind λ_=>
(Lp m o (ak,al,(u,am,an,()),())).bind λao=>
bk7 (Ae o 1) ao
else
j9 a f b m
def DH:Nat->Int-> (List (Int×Int32×(Int×LX×LX×Unit)×Unit))->Db
|0,_,_=>none
|c+1,i,j=>RL kU (DH c) z d e L i j
def nU a f n b:=DH a f n b Ba
def RW(j7:Int->Int->LX->LX->Int-> (List (Int×Int32×(Int×LX×LX×Unit)×Unit))->Db)(a f:Int)(n y:LX):Db:=
(gP a f y).bind λaa=>
if(Bf aa 0)then
some (([]:LU),aa)
else
(Aej a y).bind λ(b,ab)=>
if(Bf ab 0)then
some (([]:LU),ab)
else
j7 a f n b 0 (List.replicate 6 ((0:Int),(0:Int32),((0:Int),(List.replicate 16 (0:Int32)),(List.replicate 16 (0:Int32)),()),()))
def bR:=RW nU
def kQ:Option (Int×Int×UInt64×UInt64):=
some (10,10,16384,16384)
abbrev Jq:=Option ((List (Int×Int×UInt64×UInt64×Unit)))
def mV(a:List (Int×Int×UInt64×UInt64×Unit)):Jq:=
some a
def SO:=mV
def SV(j6:(List (Int×Int×UInt64×UInt64×Unit))->Jq)(Ps:Int-> (List (Int×Int×UInt64×UInt64×Unit))->Jq)(b:Int)(a:List (Int×Int×UInt64×UInt64×Unit)):Jq:=
if(Cm b 6)then
(kQ).bind λ(f,g,h,k)=>
(Ak a b).bind λ_=>
(Lp a b (f,g,h,k,())).bind λm=>
Ps (Ae b 1) m
else
j6 a
def CA:Nat->Int-> (List (Int×Int×UInt64×UInt64×Unit))->Jq
|0,_,_=>none
|q+1,b,a=>SV SO (CA q) b a
def mX:=CA Ba
def RU(j4:Int-> (List (Int×Int×UInt64×UInt64×Unit))->Jq):Jq:=
j4 0 (List.replicate 6 ((0:Int),(0:Int),(0:UInt64),(0:UInt64),()))
def dE:=RU mX
def Jw:Option Int:=
if(((Cm z 0)||(Dm z 330000))||(Bf (Ac c) (P6 (Ae z 7) (GI.toZ (3:UInt64)).toNat)))then
some 8
else
if(Dm (Es z 7) 0)then
(Ak c (Am (Ac c) 1)).bind λd=>
(Jm (Mf (Es z 7) 0)).bind λ_=>
if(Bf (Cq d (GI.toZ (Es z 7)).toNat) 0)then
some 8
else
some 0
else
some 0
def gN:Option Int:=
if(!((geq (Ha (aE z 0) 24) z)&&((geq (Ha (aE d 0) 24) d)&&((geq (Ha j 68719476735) j)&&((geq (Ha X 68719476735) X)&&true)))))then
some 8
else
some 0
def TC:=gN
def HO(j4:Int->Int->UInt64->UInt64->Option Int)(a b:Int)(f g:UInt64):Option Int:=
(
(
j4 a b f g))
def TU:=HO TC
def HU(j3:Int->Int->UInt64->UInt64->Option Int)(a b:Int)(f g:UInt64):Option Int:=
(
(
j3 a b f g))
def QF:=HU TU
def HH(a f:Int)(g h:UInt64)(b:UInt32):Option (Int×UInt32):=
(Jm (Mf a 0)).bind λ_=>
if(geq (Cq b (GI.toZ a).toNat) 0)then
some (0,b)
else
(Jm (Mf a 0)).bind λ_=>
some (1,(Am b (Dy (1:UInt32) (GI.toZ a).toNat)))
def Gi:Option (LB):=
(
(Dh ([]:LB) c).bind λz=>
some z)
def oR:Option (LB×Int):=
(Gi c).bind λd=>
some (d,z)
abbrev Dn:=Option (LB×Int×Int)
def K6:Dn:=
some (i,z,0)
def lM:=K6
def P1(Als:UInt64->Int->Int->LB->Dn)(b:UInt64)(a:Int)(m:UInt64)(h f:Int)(w:LB):Dn:=
(Jm (Mf (Ha h (Am 8 (Es f 7))) 0)).bind λ_=>
Als (Cq m (GI.toZ (Ha h (Am 8 (Es f 7)))).toNat) (Am h (Ha h (Am 8 (Es f 7)))) (Ae f (Ha h (Am 8 (Es f 7)))) w
def R5 Als:=P1 Als
def P2(j19:UInt64->Int->Int->LB->Dn)(b:UInt64)(a:Int)(m:UInt64)(h f:Int)(u:LB):Dn:=
(Ak u (Am (Ac u) 1)).bind λ_=>
(Jm (Mf (Ha h (Am 8 (Es f 7))) 0)).bind λ_=>
(Jm (Mf (Es f 7) 0)).bind λ_=>
(Ak u (Am (Ac u) 1)).bind λad=>
(Ak u (Am (Ac u) 1)).bind λ_=>
Option.bind (Lp u (Am (Ac u) 1) (sK ad (Dy (Ad (Es m (Am (Dy (1:UInt64) (GI.toZ (Ha h (Am 8 (Es f 7)))).toNat) 1)):UInt8) (GI.toZ (Es f 7)).toNat))) λw=>
j19 m h f w
def lV Als b a:=P2 (R5 Als b a) b a
def lZ(j18:UInt64->Int->Int->LB->Dn)(j21:Int->LB->Dn)(b:UInt64)(a:Int)(m:UInt64)(h f:Int)(o:LB):Dn:=
if(Dm h 0)then
if(geq (Es f 7) 0)then
(Dh o ([(0:UInt8)]:LB)).bind λaa=>
j18 m h f aa
else
j18 m h f o
else
j21 f o
def WR:Nat->UInt64->Int->Int->LB->Dn
|0,_,_,_,_=>none
|z+1,c,d,e,i=>lZ (lV (WR z) j Z) lM j Z c d e i
def Q8 b a:=WR b a Ba
def M1:Dn:=
some (i,z,0)
def nI:=M1
def O5(Alu:UInt64->Int->Int->LB->Dn)(b:UInt64)(a:Int)(n:UInt64)(k g:Int)(ab:LB):Dn:=
(Jm (Mf (Ha k (Am 8 (Es g 7))) 0)).bind λ_=>
Alu (Cq n (GI.toZ (Ha k (Am 8 (Es g 7)))).toNat) (Am k (Ha k (Am 8 (Es g 7)))) (Ae g (Ha k (Am 8 (Es g 7)))) ab
def N1 Alu:=O5 Alu
def M2(j26:UInt64->Int->Int->LB->Dn)(b:UInt64)(a:Int)(n:UInt64)(k g:Int)(v:LB):Dn:=
(Ak v (Am (Ac v) 1)).bind λ_=>
(Jm (Mf (Ha k (Am 8 (Es g 7))) 0)).bind λ_=>
(Jm (Mf (Es g 7) 0)).bind λ_=>
(Ak v (Am (Ac v) 1)).bind λae=>
(Ak v (Am (Ac v) 1)).bind λ_=>
Option.bind (Lp v (Am (Ac v) 1) (sK ae (Dy (Ad (Es n (Am (Dy (1:UInt64) (GI.toZ (Ha k (Am 8 (Es g 7)))).toNat) 1)):UInt8) (GI.toZ (Es g 7)).toNat))) λab=>
j26 n k g ab
def mM Alu b a:=M2 (N1 Alu b a) b a
def kV(j25:UInt64->Int->Int->LB->Dn)(j28:Int->LB->Dn)(b:UInt64)(a:Int)(n:UInt64)(k g:Int)(p:LB):Dn:=
if(Dm k 0)then
if(geq (Es g 7) 0)then
(Dh p ([(0:UInt8)]:LB)).bind λw=>
j25 n k g w
else
j25 n k g p
else
j28 g p
def XM:Nat->UInt64->Int->Int->LB->Dn
|0,_,_,_,_=>none
|z+1,c,d,e,i=>kV (mM (XM z) j Z) nI j Z c d e i
def O1 b a:=XM b a Ba
def qS(j15:UInt64->Int->UInt64->Int->Int->LB->Dn)(j22:UInt64->Int->UInt64->Int->Int->LB->Dn)(ac:LB)(y:Int)(b:UInt64)(a:Int):Dn:=
(Jw ac y).bind λaf=>
if(Bf af 0)then
some (([]:LB),0,8)
else
if((Cm a 0)||(Dm a 64))then
some (([]:LB),0,2)
else
if(Cm a 64)then
(Jm (Mf a 0)).bind λ_=>
if(Bf (Cq b (GI.toZ a).toNat) 0)then
some (([]:LB),0,16)
else
if(Dm (Ae y a) 330000)then
some (([]:LB),0,18)
else
(oR ac y).bind λ(ag,ah)=>
j15 b a b a ah ag
else
if(Dm (Ae y a) 330000)then
some (([]:LB),0,18)
else
(oR ac y).bind λ(aa,ai)=>
j22 b a b a ai aa
def dK:=qS Q8 O1
def NI:Option Bool:=
(Jm (Mf Z 0)).bind λ_=>
some (Mf (Cq V (GI.toZ Z).toNat) 48)
def nB:Option (Int×Int):=
if((Cm z 0)||(Dm z 48))then
some (0,2)
else
some ((Ha (Ae z 1) 48),0)
def rR:Option (LB×Int×Int):=
(Jw c z).bind λe=>
if(Bf e 0)then
some (([]:LB),0,e)
else
(nB d).bind λ(i,j)=>
if(Bf j 0)then
some (([]:LB),0,j)
else
(Jm (Mf d 0)).bind λ_=>
(dK c z (Am (Dy (1:UInt64) (GI.toZ d).toNat) 1) i).bind λ(A,B,C)=>
some (A,B,C)
abbrev WI:=Option (LB×Int×Int)
def B9:WI:=
(rR c z d).bind λ(e,i,j)=>
if(Bf j 0)then
some (([]:LB),0,j)
else
(dK e i (Ad V:UInt64) Z).bind λ(A,B,C)=>
some (A,B,C)
def B6:=B9
def zY(j2:LB->Int->Int->UInt32->Int->WI)(b:LB)(f:Int)(g:UInt32)(a:Int):WI:=
(Jw b f).bind λk=>
if(Bf k 0)then
some (([]:LB),0,k)
else
if((Cm a 0)||(Dm a 24))then
some (([]:LB),0,2)
else
(Jm (Mf a 0)).bind λ_=>
(Jm (Mf a 0)).bind λ_=>
(NI g a).bind λaa=>
if aa then
j2 b f 48 g 32
else
j2 b f (Ad (Cq g (GI.toZ a).toNat):Int) (Es g (Am (Dy (1:UInt32) (GI.toZ a).toNat) 1)) a
def wY:=zY B6
abbrev Ij:=Option (LB×Int×Int×Int×UInt64×UInt64×Int)
def RB:Ij:=
(
(
some (q8,z,d,B,(Ae j (Am (Ad V:UInt64) (Cq j (GI.toZ (4:UInt64)).toNat))),X,0)))
def eB:=RB
def iE(j10:Int->Int->Int->UInt64->UInt32->UInt64->LB->Ij)(b:UInt32)(k n:Int)(a o:UInt64)(m:LB)(u:Int):Ij:=
j10 k u n a b o m
def B7:=iE eB
def gL(j9:UInt32->Int->Int->UInt64->UInt64->LB->Int->Ij)(b:UInt32)(f:Int)(a:UInt64)(k:Int)(m:LB)(n:Int)(o:UInt64):Ij:=
if(Dm f 0)then
(Jm (Mf f 0)).bind λ_=>
if(Cm (Ae a (Am (Ad b:UInt64) (Cq a (GI.toZ (4:UInt64)).toNat))) (Dy (16:UInt64) (GI.toZ f).toNat))then
j9 b k n a o m (Am f 1)
else
if(Cm f 24)then
(Jm (Mf f 0)).bind λ_=>
if(Dm (Ae a (Am (Ad b:UInt64) (Cq a (GI.toZ (4:UInt64)).toNat))) (Dy (32:UInt64) (GI.toZ f).toNat))then
j9 b k n a o m (Ae f 1)
else
j9 b k n a o m f
else
j9 b k n a o m f
else
if(Cm f 24)then
(Jm (Mf f 0)).bind λ_=>
if(Dm (Ae a (Am (Ad b:UInt64) (Cq a (GI.toZ (4:UInt64)).toNat))) (Dy (32:UInt64) (GI.toZ f).toNat))then
j9 b k n a o m (Ae f 1)
else
j9 b k n a o m f
else
j9 b k n a o m f
def gO:=gL B7
def gJ(j8:UInt32->Int->UInt64->Int->LB->Int->UInt64->Ij)(b:UInt32)(f h:Int)(a g:UInt64)(ac k:Int)(m:LB):Ij:=
if(Bf ac 0)then
some (([]:LB),0,0,0,0,0,ac)
else
(HH f h a g b).bind λ(ag,p)=>
if(geq ag 1)then
if(Dm h 0)then
(Jm (Mf h 0)).bind λ_=>
if(Cm (Ae g (Am (Ad p:UInt64) (Cq g (GI.toZ (4:UInt64)).toNat))) (Dy (16:UInt64) (GI.toZ h).toNat))then
j8 b f a k m (Am h 1) (Ae g (Am (Ad p:UInt64) (Cq g (GI.toZ (4:UInt64)).toNat)))
else
if(Cm h 24)then
(Jm (Mf h 0)).bind λ_=>
if(Dm (Ae g (Am (Ad p:UInt64) (Cq g (GI.toZ (4:UInt64)).toNat))) (Dy (32:UInt64) (GI.toZ h).toNat))then
j8 b f a k m (Ae h 1) (Ae g (Am (Ad p:UInt64) (Cq g (GI.toZ (4:UInt64)).toNat)))
else
j8 b f a k m h (Ae g (Am (Ad p:UInt64) (Cq g (GI.toZ (4:UInt64)).toNat)))
else
j8 b f a k m h (Ae g (Am (Ad p:UInt64) (Cq g (GI.toZ (4:UInt64)).toNat)))
else
if(Cm h 24)then
(Jm (Mf h 0)).bind λ_=>
if(Dm (Ae g (Am (Ad p:UInt64) (Cq g (GI.toZ (4:UInt64)).toNat))) (Dy (32:UInt64) (GI.toZ h).toNat))then
j8 b f a k m (Ae h 1) (Ae g (Am (Ad p:UInt64) (Cq g (GI.toZ (4:UInt64)).toNat)))
else
j8 b f a k m h (Ae g (Am (Ad p:UInt64) (Cq g (GI.toZ (4:UInt64)).toNat)))
else
j8 b f a k m h (Ae g (Am (Ad p:UInt64) (Cq g (GI.toZ (4:UInt64)).toNat)))
else
j8 b f a k m h g
def B5:=gJ gO
def iL(j7:UInt32->Int->Int->UInt64->UInt64->Int->Int->LB->Ij)(b:UInt32)(v:LB)(w f h:Int)(a g:UInt64):Ij:=
(HH f h a g b).bind λ(ad,ae)=>
(dK v w (Ad ad:UInt64) 1).bind λ(y,aa,ab)=>
if((geq ab 0)&&(geq ad 0))then
(dK y aa (Ad ae:UInt64) f).bind λ(ah,ai,aj)=>
j7 b f h a g aj ai ah
else
if(geq ab 0)then
(wY y aa ae h).bind λ(ak,al,am)=>
j7 b f h a g am al ak
else
j7 b f h a g ab aa y
def zZ:=iL B5
def iN(j6:UInt32->LB->Int->Int->Int->UInt64->UInt64->Ij)(v:LB)(w f h:Int)(a g:UInt64)(b:UInt32):Ij:=
(Jw v w).bind λan=>
if(Bf an 0)then
some (([]:LB),0,0,0,0,0,8)
else
(QF f h a g).bind λao=>
if(Bf ao 0)then
some (([]:LB),0,0,0,0,0,8)
else
j6 b v w f h a g
def wG:=iN zZ
abbrev Bz:=Option (UInt32×Int)
def cC:Bz:=
some (V,0)
def OS:=cC
def EF(j30:UInt32->Bz)(Awq:UInt32->Int->Bz)(a:LB)(b:LU)(h:UInt32)(m:Int):Bz:=
if(Cm m (Ac a))then
(Ak a m).bind λp=>
(Ak b (GI.toZ (Yg (Ad h:UInt8) p))).bind λ_=>
(Ak b (GI.toZ (Yg (Ad h:UInt8) p))).bind λu=>
Awq (Yg (Cq h (GI.toZ (8:UInt64)).toNat) u) (Ae m 1)
else
j30 h
def Qd:Nat->UInt32->Int->Bz
|0,_,_=>none
|z+1,d,e=>EF OS (Qd z) c Y d e
def PK a b:=Qd a b Ba
def PB(j28:LB->LU->UInt32->Int->Bz)(f:UInt32)(a:LB)(b:LU):Bz:=
j28 a b f 0
def cD:=PB PK
def OV(j27:UInt32->LB->LU->Bz)(f:UInt32)(a:LB)(b:LU):Bz:=
j27 f a b
def PF:=OV cD
def bJ(Mi:Int->LU->Bz)(f:UInt32)(a:LB)(g:Int)(o:LU):Bz:=
Mi (Ae g 1) o
def dV Mi:=bJ Mi
def cR(j24:Int->LU->Bz)(f:UInt32)(a:LB)(g:Int)(k:UInt32)(b:LU):Bz:=
(Ak b g).bind λ_=>
(Lp b g k).bind λo=>
j24 g o
def DC Mi f a:=cR (dV Mi f a) f a
def CR(j23:Int->UInt32->LU->Bz)(Aby:UInt32->Int->Bz)(f:UInt32)(a:LB)(g:Int)(b:LU)(k:UInt32)(n:Int):Bz:=
if(Cm n 8)then
Aby (Yg (Cq k (GI.toZ (1:UInt64)).toNat) (Bo 3988292384 (Es k 1))) (Ae n 1)
else
j23 g k b
def Pv(Mi:Int->LU->Bz)(f:UInt32)(a:LB)(g:Int)(b:LU):Nat->UInt32->Int->Bz
|0,_,_=>none
|q+1,k,n=>CR (DC Mi f a) (Pv Mi f a g b q) f a g b k n
def OG Mi f a g b:=Pv Mi f a g b Ba
def EG(j21:Int->LU->UInt32->Int->Bz)(j26:UInt32->LB->LU->Bz)(f:UInt32)(a:LB)(g:Int)(b:LU):Bz:=
if(Cm g 256)then
j21 g b (Ad g:UInt32) 0
else
j26 f a b
def Mo:Nat->Int->LU->Bz
|0,_,_=>none
|z+1,c,d=>EG (OG (Mo z) V q8) PF V q8 c d
def bO f a:=Mo f a Ba
def TL(j16:UInt32->LB->Int->LU->Bz)(f:UInt32)(a:LB):Bz:=
if(Dm (Ac a) 100000)then
some (0,4)
else
j16 f a 0 (List.replicate 256 (0:UInt32))
def YL:=TL bO
def Ws:Option (UInt32×Int):=
(YL 4294967295 c).bind λ(z,d)=>
if(Bf d 0)then
some (0,d)
else
some ((yB z),0)
def tK:Option Bool:=
if(geq Z 8)then
some true
else
(Jm (Mf (Bo 8 Z) 0)).bind λ_=>
some (geq (Cq j (GI.toZ (Bo 8 Z)).toNat) 0)
abbrev AI:=Option (LB×Int)
def rK:AI:=
some (c,0)
def bE:=rK
def RZ(j6:LB->AI)(Ps:Int->LB->AI)(f:UInt64)(g:LB)(a:Int)(b:LB):AI:=
if(Cm a (Ac g))then
(Jm (Mf (Bo 8 a) 0)).bind λ_=>
(Ak b a).bind λ_=>
(Lp b a (Ad (Cq f (GI.toZ (Bo 8 a)).toNat):UInt8)).bind λk=>
Ps (Ae a 1) k
else
j6 b
def BP:Nat->Int->LB->AI
|0,_,_=>none
|z+1,c,d=>RZ bE (BP z) j q8 c d
def rL f g:=BP f g Ba
def cW(j4:UInt64->LB->Int->LB->AI)(f:UInt64)(h:Int):AI:=
if((Cm h 1)||(Dm h 8))then
some (([]:LB),2)
else
(tK f h).bind λm=>
if(!m)then
some (([]:LB),16)
else
(mkI h (0:UInt8)).bind λg=>
(Jm (geq h h)).bind λ_=>
j4 f g 0 g
def Yn:=cW rL
def NM:Option (LB):=
some c
def Ug:=NM
def Um(j16:LB->Option (LB))(Ast:Int->LB->Option (LB))(a:List LB)(g:Int)(f:LB):Option (LB):=
if(Cm g (Ac a))then
(Ak a g).bind λn=>
(Dh f n).bind λo=>
Ast (Ae g 1) o
else
j16 f
def Lt:Nat->Int->LB->Option (LB)
|0,_,_=>none
|z+1,c,d=>Um Ug (Lt z) r9 c d
def Ub a:=Lt a Ba
def Un(j14:(List LB)->Int->LB->Option (LB))(a:List LB)(p:LB):Option (LB):=
j14 a 0 p
def NG:=Un Ub
def Uw(j13:(List LB)->LB->Option (LB))(b:Int)(a:List LB):Option (LB):=
if(Dm (Am b (Am (0:Int) (0:Int))) 0)then
(gB 0 0 0).bind λ_=>
(mkI (Am b (Am (0:Int) (0:Int))) (0:UInt8)).bind λu=>
(Dh ([]:LB) u).bind λk=>
(gB (Ac k) 0 0).bind λ_=>
j13 a (UW k 0 ((0:Int)-(0:Int)))
else
j13 a ([]:LB)
def NH:=Uw NG
def Uo(j12:Int-> (List LB)->Option (LB))(a:List LB)(b:Int):Option (LB):=
if(Cm b 0)then
none
else
j12 b a
def NJ:=Uo NH
def Vz(j11:(List LB)->Int->Option (LB))(bk9:Int->Int->Option (LB))(a:List LB)(b h:Int):Option (LB):=
if(Cm h (Ac a))then
(Ak a h).bind λm=>
if(Cm (Ae b (Ac m)) 0)then
none
else
bk9 (Ae b (Ac m)) (Ae h 1)
else
j11 a b
def Mw:Nat->Int->Int->Option (LB)
|0,_,_=>none
|z+1,c,d=>Vz NJ (Mw z) r9 c d
def ON a:=Mw a Ba
def Wk(j9:(List LB)->Int->Int->Option (LB))(a:List LB):Option (LB):=
j9 a 0 0
def BU:=Wk ON
abbrev Br:=Option (LB×Int)
def jW(v:Int)(p:LB):Br:=
(Ws p).bind λ(af,ac)=>
if(Bf ac 0)then
some (([]:LB),ac)
else
(Yn (Ad af:UInt64) 4).bind λ(m,h)=>
if(Bf h 0)then
some (([]:LB),h)
else
(BU ([p,m]:List LB)).bind λag=>
some (ag,0)
def PG:=jW
def jG(Uy:Int-> (List (Int×Int×UInt64×UInt64×Unit))->Int->LB->Br)(b:LU)(a g f:Int)(n:List (Int×Int×UInt64×UInt64×Unit))(k:Int)(w:LB):Br:=
Uy (Ae f 1) n k w
def QW Uy:=jG Uy
def kM(qA:Int->Int->LB->Br)(h:Int)(b:LU)(f a g:Int)(n:List (Int×Int×UInt64×UInt64×Unit))(m:LB)(o k:Int)(ab:LB):Br:=
qA (Ae o 1) (Ae k 1) ab
def jJ qA:=kM qA
def iY(j48:Int->Int->LB->Br)(h:Int)(b:LU)(f a g:Int)(n:List (Int×Int×UInt64×UInt64×Unit))(m:LB)(o k:Int)(y:LB):Br:=
(Ak m (Cx o 8)).bind λ_=>
(Ak m (Cx o 8)).bind λah=>
(Jm (Mf (Ho o 8) 0)).bind λ_=>
(Ak y (Cx k 8)).bind λ_=>
(Jm (Mf (Ho k 8) 0)).bind λ_=>
(Ak y (Cx k 8)).bind λai=>
(Ak y (Cx k 8)).bind λ_=>
Option.bind (Lp y (Cx k 8) (sK ai (Dy (Es (Cq ah (GI.toZ (Ho o 8)).toNat) 1) (GI.toZ (Ho k 8)).toNat))) λab=>
j48 o k ab
def OT qA h b f a g n m:=iY (jJ qA h b f a g n m) h b f a g n m
def QU(j47:Int->Int->LB->Br)(j50:Int-> (List (Int×Int×UInt64×UInt64×Unit))->Int->LB->Br)(b:LU)(a g h f:Int)(n:List (Int×Int×UInt64×UInt64×Unit))(m:LB)(o k:Int)(w:LB):Br:=
if(Cm o h)then
if(geq (Ho k 8) 0)then
(Dh w ([(0:UInt8)]:LB)).bind λaj=>
j47 o k aj
else
j47 o k w
else
j50 f n k w
def AF(Uy:Int-> (List (Int×Int×UInt64×UInt64×Unit))->Int->LB->Br)(b:LU)(a g h f:Int)(n:List (Int×Int×UInt64×UInt64×Unit))(m:LB):Nat->Int->Int->LB->Br
|0,_,_,_=>none
|q+1,o,k,w=>QU (OT (AF Uy b a g h f n m q) h b f a g n m) (QW Uy b a g) b a g h f n m o k w
def PM Uy b a g h f n m:=AF Uy b a g h f n m Ba
def PT(j44:Int->Int-> (List (Int×Int×UInt64×UInt64×Unit))->LB->Int->Int->LB->Br)(j52:Int->LB->Br)(b:LU)(a g f:Int)(u:List (Int×Int×UInt64×UInt64×Unit))(v:Int)(p:LB):Br:=
if(Cm f (Ac b))then
(Ak b f).bind λ_=>
(Ak b f).bind λak=>
(Jm (Bf a 0)).bind λ_=>
(Ak u (Ho f a)).bind λ_=>
(Ak u (Ho f a)).bind λaa=>
(wG ([]:LB) 0 aa.1 aa.2.1 aa.2.2.1 aa.2.2.2.1 ak).bind λ(m,h,al,am,an,ao,ad)=>
if(Bf ad 0)then
some (([]:LB),ad)
else
(Jm (Bf a 0)).bind λ_=>
(Ak u (Ho f a)).bind λ_=>
(Lp u (Ho f a) (al,am,an,ao,())).bind λn=>
j44 h f n m 0 v p
else
j52 v p
def AD:Nat->Int-> (List (Int×Int×UInt64×UInt64×Unit))->Int->LB->Br
|0,_,_,_,_=>none
|z+1,c,d,e,i=>PT (PM (AD z) Y Ayr Ays) PG Y Ayr Ays c d e i
def iV b a g:=AD b a g Ba
def RP(j27:LU->Int->Int->Int-> (List (Int×Int×UInt64×UInt64×Unit))->Int->LB->Br)(a g:Int)(ap aq:LX):Br:=
(bR a g ap aq).bind λ(b,ae)=>
if(Bf ae 0)then
some (([]:LB),ae)
else
(dE).bind λar=>
j27 b a g 0 ar 0 ([]:LB)
def ER:=RP iV
def Wo(a:Int)(b:LX):LI->Int->Option (List LX)
  |[],_=>some []
  |n::l,x=>Option.bind (Bl b x (Ae x (Bo n a))) λp=>Option.bind (Wo a b l (Ae x (Bo n a))) λps=>some (p::ps)
def IA(a f:Int)(t:LX):List LX->List LB->Option (List LB×Int)
  |[],o=>some (o,0)
  |x::xs,o=>Option.bind (ER a f t x) λy=>
    if(Bf y.2 0)=true then some ([],y.2)
    else Option.bind (Dh o [y.1]) λo'=>IA a f t xs o'
def dQ:Option (List LX):=
  Option.bind (Jm (Bf z 0)) λ_=>Option.bind (Vn d (Cx (Ac e) z)) λc=>Option.bind (Jm (decide (Ac c.1<=17179869184))) λ_=>Wo z e c.1 0
def bX:Option (List LB×Int):=
  Option.bind (GN z d B e) λc=>
    if(Bf c 0)=true then some ([],c)
    else Option.bind (Qo i) λj=>
      if(Bf j.2 0)=true then some ([],j.2)
      else Option.bind (dQ z B e) λA=>IA z d j.1 A []
def GU(b f a g h:Int):Option Bool:=
some (((((((geq b 1)||(geq b 2))&&(Dm f 0))&&(xI f 6))&&(Dm g 0))&&(xI g 1048576))&&(Dm h 0))
def Qi:=GU
def GO(j2:Int->Int->Int->Int->Int->Option Bool)(b f a g h:Int):Option Bool:=
if(geq a 8)then
if(geq a 8)then
j2 b f a g h
else
some false
else
if(geq a 16)then
if(geq a 16)then
j2 b f a g h
else
some false
else
if(geq a 24)then
j2 b f a g h
else
some false
def Oz:=GO Qi
def KA(k a m f b:Int):Option Bool:=
(Jm (Bf a 0)).bind λ_=>
if(Dm b (Cx 4000 a))then
some false
else
(Tc f b).bind λ(g,h)=>
some ((geq h 0)&&(xI g 1000))
def Qt:Option Int:=
(Oz z d B J U).bind λc=>
if(!c)then
some 8
else
(KA z d B J U).bind λe=>
if(!e)then
some 8
else
some 0
abbrev Mu:=Option (LB×Int)
def sH:Mu:=
(Ws c).bind λ(z,d)=>
(Yn (Ad z:UInt64) 4).bind λ(e,i)=>
(Dh c e).bind λj=>
some (j,0)
def ZQ:=sH
def LM(j6:LB->Mu)(Ps:Int->LB->Mu)(b f g h k m:Int)(a:LB):Mu:=
if(Cm m 5)then
(Ak ([b,f,g,h,k]:LI) m).bind λw=>
(Ak ([(2:Int),(2:Int),(2:Int),(4:Int),(4:Int)]:LI) m).bind λy=>
(Yn (Ad w:UInt64) y).bind λ(n,v)=>
(Dh a n).bind λo=>
Ps (Ae m 1) o
else
j6 a
def Oc:Nat->Int->LB->Mu
|0,_,_=>none
|c+1,e,i=>LM ZQ (Oc c) z d B J U e i
def sL b f g h k:=Oc b f g h k Ba
def ZT(j4:Int->Int->Int->Int->Int->Int->LB->Mu)(b f g h k:Int):Mu:=
(Qt b f g h k).bind λp=>
if(Bf p 0)then
some (([]:LB),p)
else
j4 b f g h k 0 ([(84:UInt8),(84:UInt8),(65:UInt8),(49:UInt8)]:LB)
def mH:=ZT sL
def pD:Option (UInt64×Int):=
if(Dm (Ac c) 64)then
some (0,2)
else
(UO c).bind λ(z,d)=>
some (z,0)
def DR:Option (LB×Int):=
(pD c).bind λ(z,d)=>
if(Bf d 0)then
some (([]:LB),d)
else
(Yn z 8).bind λ(e,i)=>
some (e,i)
def yC:Option Int:=
some 0
def eU:=yC
def EU:Option Int:=
if(Cm o9 (Ac Ay0))then
(Ak Ay0 o9).bind λz=>
if((Cm z 5)||(Dm z p9))then
some 8
else
Ayz (Am p9 z) (Ae o9 1)
else
Ayx
def Qe:Nat->Int->Int->Option Int
|0,_,_=>none
|z+1,c,d=>EU eU (Qe z) D c d
def dB a:=Qe a Ba
def DZ(j4:LI->Int->Int->Option Int)(a:LI):Option Int:=
if((geq (Ac a) 0)||(Dm (Ac a) 1000))then
some 8
else
j4 a 100000 0
def Ox:=DZ dB
abbrev Gw:=Option (LB×Int)
def sF:Gw:=
some (c,0)
def sO:=sF
def sI(j14:LB->Gw)(b:LB):Gw:=
(Ws b).bind λ(m,u)=>
(Yn (Ad m:UInt64) 4).bind λ(n,v)=>
(Dh b n).bind λg=>
j14 g
def ZA:=sI sO
def sQ(bk8:Int->LB->Gw)(a:LI)(f:Int)(h:LB):Gw:=
bk8 (Ae f 1) h
def ZG bk8:=sQ bk8
def eK(j11:Int->LB->Gw)(j13:LB->Gw)(a:LI)(f:Int)(b:LB):Gw:=
if(Cm f (Ac a))then
(Ak a f).bind λo=>
(Yn (Ad o:UInt64) 4).bind λ(p,w)=>
(Dh b p).bind λh=>
j11 f h
else
j13 b
def OC:Nat->Int->LB->Gw
|0,_,_=>none
|z+1,c,d=>eK (ZG (OC z) D) ZA D c d
def zE a:=OC a Ba
def bS(j8:LI->Int->LB->Gw)(a:LI):Gw:=
(Ox a).bind λk=>
if(Bf k 0)then
some (([]:LB),k)
else
j8 a 0 ([]:LB)
def rX:=bS zE
def gR:Option Int:=
some (Ac c)
def vW:Option (LB):=
some c
def dX:=vW
def dG(j6:LB->Option (LB))(Ps:Int->LB->Option (LB))(a:List LB)(f:Int)(b:LB):Option (LB):=
if(Cm f (Ac a))then
(Ak a f).bind λg=>
(Dh b g).bind λh=>
Ps (Ae f 1) h
else
j6 b
def QS:Nat->Int->LB->Option (LB)
|0,_,_=>none
|z+1,c,d=>dG dX (QS z) r9 c d
def xV a:=QS a Ba
def bT(j4:(List LB)->Int->LB->Option (LB))(a:List LB):Option (LB):=
j4 a 0 ([]:LB)
def rZ:=bT xV
abbrev Eo:=Option (LB×Int)
def sD:Eo:=
if(Bf z 0)then
some (([]:LB),z)
else
(Dh ([Azb,Azc,Az2]:List LB) r9).bind λc=>
(rZ c).bind λd=>
some (d,0)
def sR:=sD
def sE(j14:Int-> (List LB)->LB->LB->LB->Eo)(h:LI)(a:List LB)(b f:LB):Eo:=
(rX h).bind λ(n,k)=>
j14 k a b f n
def ZR:=sE sR
def sC(bk9:Int->LI->Eo)(a:List LB)(b f:LB)(g:Int)(m:LI):Eo:=
bk9 (Ae g 1) m
def ZF bk9:=sC bk9
def dA(j11:Int->LI->Eo)(j13:LI-> (List LB)->LB->LB->Eo)(a:List LB)(b f:LB)(g:Int)(h:LI):Eo:=
if(Cm g (Ac a))then
(Ak a g).bind λ_=>
(Ak a g).bind λae=>
(gR ae).bind λk=>
(Ak h g).bind λ_=>
(Lp h g k).bind λm=>
j11 g m
else
j13 h a b f
def QG:Nat->Int->LI->Eo
|0,_,_=>none
|z+1,c,d=>dA (ZF (QG z) r9 Azb Azc) ZR r9 Azb Azc c d
def yN a b f:=QG a b f Ba
def bC(j9:(List LB)->LB->LB->Int->LI->Eo)(a:List LB)(b f:LB):Eo:=
(mkI (Ac a) (0:Int)).bind λaf=>
(Jm (geq (Ac a) (Ac a))).bind λ_=>
j9 a b f 0 af
def vR:=bC yN
def bM(j8:(List LB)->LB->LB->Eo)(p u v:Int)(w:LX)(o:LB):Eo:=
(rO p u v w o).bind λ(y,ag,ah,ai,aj,aa)=>
if(Bf aa 0)then
some (([]:LB),aa)
else
(bX p u v w o).bind λ(a,ab)=>
if(Bf ab 0)then
some (([]:LB),ab)
else
(mH y ag ah ai aj).bind λ(b,ac)=>
if(Bf ac 0)then
some (([]:LB),ac)
else
if(geq y 2)then
(DR o).bind λ(ak,al)=>
j8 a b ak
else
j8 a b ([]:LB)
def rU:=bM vR
def EH:Option (Int×Int):=
if((Cm z 0)||(Dm z 100000))then
some (0,2)
else
some ((Ae (aE z 8022) 8000),0)
def SH:Option (LB×LB×Int×Int×Int×Int×Int×LI×Int×LB×Bool×Int×Int):=
if(Dm (Ac c) 64)then
some (([]:LB),([]:LB),0,0,0,0,0,([]:LI),0,([]:LB),false,0,2)
else
some (c,([]:LB),0,0,0,0,0,([]:LI),0,([]:LB),false,0,0)
def Kn:Option (LB):=
(
(Dh ([]:LB) c).bind λz=>
some z)
def Fy:Option (LI):=
(
(Dh ([]:LI) D).bind λz=>
some z)
def Dk:Option (LB×LB×Int×Int×Int×Int×Int×LI×Int×LB×Bool×Int):=
(Kn i).bind λz=>
(Kn O).bind λd=>
(Fy M).bind λe=>
some (c,z,A,F,P,R,T,e,N,d,C,E)
def De:Option (LI×Int):=
(Qt z d B J U).bind λc=>
if(Bf c 0)then
some (([]:LI),c)
else
(Vn J U).bind λ(e,i)=>
some (e,i)
def Mr(a f g h k:Int)(b:LB):Option Int:=
if((b==([]:LB)) !=(geq a 1))then
some 26
else
some 0
def YY(y:Int)(o p:LB)(h b f k m:Int)(g:LI)(a:Int)(n:LB)(u:Bool)(v:Int):Option Bool:=
some (xI (Ac n) y)
def LA:=YY
def Zf(j8:Int->LB->LB->Int->Int->Int->Int->Int->LI->Int->LB->Bool->Int->Option Bool)(S9:Int->Int->Option Bool)(w:LI)(o p:LB)(h b f k m:Int)(g:LI)(a:Int)(n:LB)(u:Bool)(v y aa:Int):Option Bool:=
if(Cm aa (Ac w))then
(Ak w aa).bind λac=>
S9 (Ae y (Cx (Bo (Bo ac b) f) 8)) (Ae aa 1)
else
j8 y o p h b f k m g a n u v
def Oa:Nat->Int->Int->Option Bool
|0,_,_=>none
|z+1,c,d=>Zf LA (Oa z) D i Azf A F P R T M N O C E c d
def ZO w o p h b f k m g a n u v:=Oa w o p h b f k m g a n u v Ba
def KZ(j6:LI->LB->LB->Int->Int->Int->Int->Int->LI->Int->LB->Bool->Int->Int->Int->Option Bool)(o p:LB)(h b f k m:Int)(g:LI)(a:Int)(n:LB)(u:Bool)(v:Int)(ab:LI):Option Bool:=
if(geq (Ac g) 0)then
some ((geq a 0)&&(geq (Ac n) 0))
else
(Ox g).bind λad=>
if((((Bf ad 0)||(Bf (Ac g) (Ac ab)))||(Cm a 0))||(Dm a (Ac ab)))then
some false
else
(Bl ab 0 a).bind λw=>
j6 w o p h b f k m g a n u v 0 0
def ZM:=KZ ZO
def LK(j5:LB->LB->Int->Int->Int->Int->Int->LI->Int->LB->Bool->Int->LI->Option Bool)(o p:LB)(h b f k m:Int)(g:LI)(a:Int)(n:LB)(u:Bool)(v:Int):Option Bool:=
if((geq h 0)&&((geq b 0)&&((geq f 0)&&((geq k 0)&&((geq m 0)&&true)))))then
some (((geq (Ac g) 0)&&(geq a 0))&&(geq (Ac n) 0))
else
(De h b f k m).bind λ(ab,ae)=>
if(Bf ae 0)then
some false
else
(Mr h b f k m o).bind λaf=>
if(Bf af 0)then
some false
else
j5 o p h b f k m g a n u v ab
def Wr:=LK ZM
def It:Option Bool:=
some (c==i)
def Ky:Option Bool:=
if(Mf (Ac c) (Ac i))then
(Bl c 0 (Ac i)).bind λz=>
(It z i).bind λd=>
some d
else
some false
abbrev Le:=Option (Int×Int)
def oQ:Le:=
some (z,0)
def VG:=oQ
def Ww(j6:Int->Le)(Ps:Int->Int->Le)(a:LB)(b f:Int):Le:=
if(Cm f (Ac a))then
(Ak a f).bind λg=>
if(Dm g 127)then
some (0,12)
else
Ps (sK (Dy b (GI.toZ (7:UInt64)).toNat) (Ad g:Int)) (Ae f 1)
else
j6 b
def Md:Nat->Int->Int->Le
|0,_,_=>none
|z+1,d,e=>Ww VG (Md z) c d e
def UE a:=Md a Ba
def HJ(j4:LB->Int->Int->Le)(a:LB):Le:=
if(Bf (Ac a) 4)then
some (0,2)
else
j4 a 0 0
def HQ:=HJ UE
abbrev If:=Option (Int×Int)
def ZD:If:=
if(Dm q9 4000)then
some (0,4)
else
if(Cm (Ac c) q9)then
some (0,24)
else
if(geq Ay8 16)then
(Bl c (Am q9 10) q9).bind λz=>
(Bl z 0 3).bind λd=>
if(d !=([51,68,73]:LB))then
some (0,12)
else
(Bl z 3 (Ac z)).bind λe=>
(Bl c 3 10).bind λi=>
(It e i).bind λj=>
if(!j)then
some (0,12)
else
some (q9,0)
else
some (q9,0)
def KS:=ZD
def ZL(j8:LB->UInt8->Int->If)(a:LB)(g:Int)(b:UInt8):If:=
if(geq b 16)then
j8 a b (Ae (Ae g 10) 10)
else
j8 a b (Ae g 10)
def LR:=ZL KS
def YW(j7:LB->Int->UInt8->If)(a:LB)(g:Int)(b:UInt8)(m:Bool):If:=
if m then
some (0,12)
else
j7 a g b
def KN:=YW LR
def LO(j6:LB->Int->UInt8->Bool->If)(a:LB)(f b:UInt8):If:=
(Bl a 6 10).bind λaa=>
(HQ aa).bind λ(g,ab)=>
if(Bf ab 0)then
if true then
j6 a g b true
else
if(geq b 0)then
j6 a g b (!((Mf f 2)&&(xI f 4)))
else
if(geq b 16)then
j6 a g b (!(geq f 4))
else
j6 a g b (!false)
else
(Ak a 4).bind λac=>
if(Bf ac 0)then
j6 a g b true
else
if(geq b 0)then
j6 a g b (!((Mf f 2)&&(xI f 4)))
else
if(geq b 16)then
j6 a g b (!(geq f 4))
else
j6 a g b (!false)
def KU:=LO KN
def Zh(j5:LB->UInt8->UInt8->If)(a:LB):If:=
(Ky a ([(73:UInt8),(68:UInt8),(51:UInt8)]:LB)).bind λn=>
if(!n)then
some (0,6)
else
if(Cm (Ac a) 10)then
some (0,24)
else
(Ak a 3).bind λf=>
(Ak a 5).bind λb=>
(
(
(
j5 a f b)))
def MW:=Zh KU
abbrev AK:=Option (UInt64×Int)
def W9:AK:=
some (j,0)
def qY:=W9
def SC(j6:UInt64->AK)(Ps:UInt64->Int->AK)(a:LB)(f:UInt64)(b:Int):AK:=
if(Cm b (Ac a))then
(Ak a b).bind λg=>
(Jm (Mf (Bo 8 b) 0)).bind λ_=>
Ps (sK f (Dy (Ad g:UInt64) (GI.toZ (Bo 8 b)).toNat)) (Ae b 1)
else
j6 f
def AT:Nat->UInt64->Int->AK
|0,_,_=>none
|z+1,d,e=>SC qY (AT z) c d e
def rN a:=AT a Ba
def eQ(j4:LB->UInt64->Int->AK)(a:LB):AK:=
if((Cm (Ac a) 1)||(Dm (Ac a) 8))then
some (0,2)
else
j4 a 0 0
def bY:=eQ rN
def VC:Option (UInt64×Int):=
if(((Cm d 1)||(Dm d 8))||(Cm z 0))then
some (0,2)
else
if(Dm z (Am (Ac c) d))then
some (0,24)
else
(Bl c z (Ae z d)).bind λe=>
(bY e).bind λ(i,j)=>
some (i,j)
def yK:Option (LB):=
some c
def jL:=yK
def XP(j6:LB->Option (LB))(Ps:Int->LB->Option (LB))(a b:Int)(f:UInt64)(h:Int)(g:LB):Option (LB):=
if(Cm h (Ac ([(2000:UInt64),(Ad (Ae a 32):UInt64),(Ad b:UInt64),f,(0:UInt64),(0:UInt64)]:LQ)))then
(Ak ([(2000:UInt64),(Ad (Ae a 32):UInt64),(Ad b:UInt64),f,(0:UInt64),(0:UInt64)]:LQ) h).bind λ_=>
(Ak ([(2000:UInt64),(Ad (Ae a 32):UInt64),(Ad b:UInt64),f,(0:UInt64),(0:UInt64)]:LQ) h).bind λk=>
(Yn k 4).bind λ(m,o)=>
(Dh g m).bind λn=>
Ps (Ae h 1) n
else
j6 g
def AN:Nat->Int->LB->Option (LB)
|0,_,_=>none
|c+1,e,i=>XP jL (AN c) z d j e i
def vG a b f:=AN a b f Ba
def kD(j4:Int->Int->UInt64->Int->LB->Option (LB))(a b:Int)(f:UInt64):Option (LB):=
j4 a b f 0 ([(65:UInt8),(80:UInt8),(69:UInt8),(84:UInt8),(65:UInt8),(71:UInt8),(69:UInt8),(88:UInt8)]:LB)
def fD:=kD vG
def NS:Option (Int×Int×Bool):=
(VC c 12 4).bind λ(z,d)=>
(VC c 16 4).bind λ(e,i)=>
if(((Cm z 32)||(Dm z 3032))||(Dm e 1000))then
some (0,0,false)
else
(fD (Am (Ad z:Int) 32) (Ad e:Int) j).bind λA=>
(It c A).bind λB=>
some ((Am (Ad z:Int) 32),(Ad e:Int),B)
def fF:Option (Int×Int):=
(Ky c ([(65:UInt8),(80:UInt8),(69:UInt8),(84:UInt8),(65:UInt8),(71:UInt8),(69:UInt8),(88:UInt8)]:LB)).bind λz=>
if(!z)then
some (0,6)
else
if(Cm (Ac c) 32)then
some (0,24)
else
(Bl c 0 32).bind λd=>
(NS d 2684354560).bind λ(e,i,j)=>
if(!j)then
some (0,12)
else
if(Cm (Ac c) (Ae e 64))then
some (0,24)
else
(Bl c (Am (Ae e 64) 32) (Ae e 64)).bind λA=>
(fD e i 2147483648).bind λB=>
(It A B).bind λC=>
if(!C)then
some (0,12)
else
some ((Ae e 64),0)
def Vr:Option (Int×Int):=
(MW c).bind λ(z,d)=>
if(Bf d 6)then
some (z,d)
else
(fF c).bind λ(e,i)=>
some (e,i)
def Tf(b:List UInt8):Nat->Int->Option (Int×Int)
  |0,_=>none
  |q+1,x=>Option.bind (Bl b x (Ac b)) λs=>Option.bind (Vr s) λr=>
    if geq r.2 (6:Int)=true then some (x,0)
    else if(geq r.2 (0:Int)&&Dm (Ae x r.1) (4000:Int))=true then some (0,4)
    else if Bf r.2 (0:Int)=true then some (0,r.2)
    else Tf b q (Ae x r.1)
def Iq(b:List UInt8):Option (Int×Int):=Tf b Ba 0
def Ah:Option (Bool×Int):=
some (false,z)
def Gf:Option Bool:=
if(Mf (Ac c) (Ac i))then
(Bl c 0 (Ac i)).bind λz=>
some (z==i)
else
some false
def Hv:Option Bool:=
(Gf c i).bind λz=>
some z
def sJ:Option Bool:=
some false
def ZC:=sJ
def Rv(j6:Option Bool)(Ps:Int->Option Bool)(a:LB)(b:Int):Option Bool:=
if(Cm b 2)then
(Ak ([([73,68,51]:LB),([65,80,69,84,65,71,69,88]:LB)]:List LB) b).bind λf=>
if(Cm (Ac a) (Ac f))then
(Hv f a).bind λg=>
if g then
some true
else
Ps (Ae b 1)
else
Ps (Ae b 1)
else
j6
def Ip:Nat->Int->Option Bool
|0,_=>none
|z+1,d=>Rv ZC (Ip z) c d
def ZE a:=Ip a Ba
def LH(j4:LB->Int->Option Bool)(a:LB):Option Bool:=
j4 a 0
def Oy:=LH ZE
abbrev Ph:=Option (Int×Int×Int×Int×Int×Int)
def eC:Ph:=
(Ak D 0).bind λ_=>
(Ak D 0).bind λz=>
(Ak D 1).bind λ_=>
(Ak D 1).bind λc=>
(Ak D 2).bind λ_=>
(Ak D 2).bind λd=>
(Ak D 3).bind λ_=>
(Ak D 3).bind λe=>
(Ak D 4).bind λ_=>
(Ak D 4).bind λi=>
(Oz z c d e i).bind λj=>
if(!j)then
some (0,0,0,0,0,12)
else
(KA z c d e i).bind λA=>
if(!A)then
some (0,0,0,0,0,4)
else
some (z,c,d,e,i,0)
def CO:=eC
def CP(j6:LI->Ph)(Ps:Int->Int->LI->Ph)(b:LB)(g f:Int)(a:LI):Ph:=
if(Cm f 5)then
(Ak ([(2:Int),(2:Int),(2:Int),(4:Int),(4:Int)]:LI) f).bind λh=>
(VC b g h).bind λ(v,ae)=>
(Ak a f).bind λ_=>
(Lp a f (Ad v:Int)).bind λw=>
Ps (Ae g h) (Ae f 1) w
else
j6 a
def Mn:Nat->Int->Int->LI->Ph
|0,_,_,_=>none
|z+1,d,e,i=>CP CO (Mn z) c d e i
def OZ b:=Mn b Ba
def QD(j4:LB->Int->Int->LI->Ph)(b:LB):Ph:=
(Bl b 0 (Ha 4 (Ac b))).bind λy=>
(Hv ([84,84,65,49]:LB) y).bind λaa=>
if(!aa)then
some (0,0,0,0,0,12)
else
if(Cm (Ac b) 22)then
some (0,0,0,0,0,24)
else
(VC b 18 4).bind λ(ab,af)=>
(Bl b 0 18).bind λac=>
(Ws ac).bind λ(ad,ag)=>
if(Bf (Ad ad:UInt64) ab)then
some (0,0,0,0,0,22)
else
j4 b 4 0 (List.replicate 5 (0:Int))
def Ma:=QD OZ
def Xf:Option (Bool×Int):=
(DR i).bind λ(z,d)=>
if((Bf d 0)||(Bf (Ac c) (Ac z)))then
some (false,2)
else
(It c z).bind λe=>
some (e,0)
abbrev Rj:=Option (LI×Int)
def iO:Rj:=
(Ox D).bind λz=>
if(Bf z 0)then
some (([]:LI),12)
else
some (D,0)
def HM:=iO
def HP(j6:LI->Rj)(Ps:Int->LI->Rj)(a:LB)(f:LI)(g:Int)(b:LI):Rj:=
if(Cm g (Ac f))then
(VC a (Bo 4 g) 4).bind λ(k,u)=>
(Ak b g).bind λ_=>
(Lp b g (Ad k:Int)).bind λm=>
Ps (Ae g 1) m
else
j6 b
def Sr:Nat->Int->LI->Rj
|0,_,_=>none
|z+1,d,e=>HP HM (Sr z) c D d e
def gY a f:=Sr a f Ba
def TW(j4:LB->LI->Int->LI->Rj)(a:LB)(h:Int):Rj:=
if((Cm h 1)||(Dm h 1000))then
some (([]:LI),2)
else
if(Cm (Ac a) (Ae (Bo 4 h) 4))then
some (([]:LI),24)
else
(VC a (Bo 4 h) 4).bind λ(n,v)=>
(Bl a 0 (Bo 4 h)).bind λo=>
(Ws o).bind λ(p,w)=>
if(Bf (Ad p:UInt64) n)then
some (([]:LI),22)
else
(mkI h (0:Int)).bind λf=>
(Jm (geq h h)).bind λ_=>
j4 a f 0 f
def HB:=TW gY
def Yq(f a b g h:Int):Option (Int×Int):=
some (a,b)
def DM:Option (LB×Int):=
if(Cm (Ac c) 5)then
some (([]:LB),24)
else
if(Dm (Ac c) 41254)then
some (([]:LB),4)
else
(Bl c 0 (Am (Ac c) 4)).bind λz=>
(Ws z).bind λ(d,e)=>
if(Bf e 0)then
some (([]:LB),e)
else
(Bl c (Am (Ac c) 4) (Ac c)).bind λi=>
(bY i).bind λ(j,A)=>
if((Bf A 0)||(Bf j (Ad d:UInt64)))then
some (([]:LB),22)
else
(Bl c 0 (Am (Ac c) 4)).bind λB=>
some (B,0)
def Q6:Option (LB×Int×Int):=
if(Dm (Ac c) 41250)then
some (([]:LB),0,4)
else
(Gi c).bind λz=>
some (z,(Bo 8 (Ac c)),0)
def vk:Option UInt64:=
some j
def rM:=vk
def dC(j6:UInt64->Option UInt64)(Ps:UInt64->Int->Option UInt64)(b f:Int)(h:LB)(k:Int)(g:UInt64)(a:Int):Option UInt64:=
if(Cm a f)then
(Ak h (P6 (Ae b a) (GI.toZ (3:UInt64)).toNat)).bind λm=>
(Jm (Mf (Es (Ae b a) 7) 0)).bind λ_=>
(Jm (Mf (Ha (Am f a) (Am 8 (Es (Ae b a) 7))) 0)).bind λ_=>
(Jm (Mf a 0)).bind λ_=>
Ps (sK g (Dy (Ad (Es (Cq m (GI.toZ (Es (Ae b a) 7)).toNat) (Am (Dy (1:UInt8) (GI.toZ (Ha (Am f a) (Am 8 (Es (Ae b a) 7)))).toNat) 1)):UInt64) (GI.toZ a).toNat)) (Ae a (Ha (Am f a) (Am 8 (Es (Ae b a) 7))))
else
j6 g
def JE:Nat->UInt64->Int->Option UInt64
|0,_,_=>none
|c+1,e,j=>dC rM (JE c) z d i A e j
def eu b f h k:=JE b f h k Ba
def qI(j4:Int->Int->LB->Int->UInt64->Int->Option UInt64)(h:LB)(k b f:Int):Option UInt64:=
j4 b f h k 0 0
def nA:=qI eu
abbrev Fc:=Option (LB×Int×Int)
def nD:Fc:=
some (i,z,0)
def WV:=nD
def mB(Uy:Int->Int->LB->Fc)(a:Int)(g:LB)(b f h:Int)(u:LB):Fc:=
Uy (Ae f 64) h u
def MV Uy:=mB Uy
def mD(qA:UInt64->Int->Int->LB->Fc)(a f:Int)(g:LB)(b:Int)(m n:UInt64)(k h:Int)(w:LB):Fc:=
(Jm (Mf (Ha k (Am 8 (Es h 7))) 0)).bind λ_=>
qA (Cq n (GI.toZ (Ha k (Am 8 (Es h 7)))).toNat) (Am k (Ha k (Am 8 (Es h 7)))) (Ae h (Ha k (Am 8 (Es h 7)))) w
def mR qA:=mD qA
def nS(j48:UInt64->Int->Int->LB->Fc)(a f:Int)(g:LB)(b:Int)(m n:UInt64)(k h:Int)(v:LB):Fc:=
(Ak v (Am (Ac v) 1)).bind λ_=>
(Jm (Mf (Ha k (Am 8 (Es h 7))) 0)).bind λ_=>
(Jm (Mf (Es h 7) 0)).bind λ_=>
(Ak v (Am (Ac v) 1)).bind λaa=>
(Ak v (Am (Ac v) 1)).bind λ_=>
Option.bind (Lp v (Am (Ac v) 1) (sK aa (Dy (Ad (Es n (Am (Dy (1:UInt64) (GI.toZ (Ha k (Am 8 (Es h 7)))).toNat) 1)):UInt8) (GI.toZ (Es h 7)).toNat))) λw=>
j48 n k h w
def NB qA a f g b m:=nS (mR qA a f g b m) a f g b m
def NA(j47:UInt64->Int->Int->LB->Fc)(j50:Int->Int->LB->Fc)(a:Int)(g:LB)(b f:Int)(m n:UInt64)(k h:Int)(u:LB):Fc:=
if(Dm k 0)then
if(geq (Es h 7) 0)then
(Dh u ([(0:UInt8)]:LB)).bind λab=>
j47 n k h ab
else
j47 n k h u
else
j50 f h u
def Oi(Uy:Int->Int->LB->Fc)(a:Int)(g:LB)(b f:Int)(m:UInt64):Nat->UInt64->Int->Int->LB->Fc
|0,_,_,_,_=>none
|q+1,n,k,h,u=>NA (NB (Oi Uy a g b f m q) a f g b m) (MV Uy a g b) a g b f m n k h u
def YG Uy a g b f m:=Oi Uy a g b f m Ba
def YB(j44:Int->UInt64->UInt64->Int->Int->LB->Fc)(j52:Int->LB->Fc)(a:Int)(g:LB)(b f o:Int)(p:LB):Fc:=
if(Cm f a)then
(nA g b f (Ha 64 (Am a f))).bind λm=>
j44 f m m (Ha 64 (Am a f)) o p
else
j52 o p
def Wq:Nat->Int->Int->LB->Fc
|0,_,_,_=>none
|c+1,d,e,j=>YB (YG (Wq c) z i A) WV z i A d e j
def kT a g b:=Wq a g b Ba
def dH(j27:Int->LB->Int->Int->Int->LB->Fc)(g:LB)(b y a:Int):Fc:=
(Jw g b).bind λac=>
if(Bf ac 0)then
some (([]:LB),0,8)
else
if(((Cm y 0)||(Dm y a))||(Dm a b))then
some (([]:LB),0,2)
else
j27 a g b y 0 ([]:LB)
def cY:=dH kT
def DW:Option (UInt64×Int):=
(Jw c z).bind λe=>
if(Bf e 0)then
some (0,8)
else
if(((Cm B 0)||(Dm B 64))||(Cm d 0))then
some (0,2)
else
if(Dm d (Am z B))then
some (0,24)
else
(nA c z d B).bind λi=>
some (i,0)
def Gj:Option Int:=
if(geq j 0)then
some 64
else
(Ak ([(0:UInt8),(1:UInt8),(56:UInt8),(2:UInt8),(57:UInt8),(49:UInt8),(28:UInt8),(3:UInt8),(61:UInt8),(58:UInt8),(42:UInt8),(50:UInt8),(38:UInt8),(29:UInt8),(17:UInt8),(4:UInt8),(62:UInt8),(47:UInt8),(59:UInt8),(36:UInt8),(45:UInt8),(43:UInt8),(51:UInt8),(22:UInt8),(53:UInt8),(39:UInt8),(33:UInt8),(30:UInt8),(24:UInt8),(18:UInt8),(12:UInt8),(5:UInt8),(63:UInt8),(55:UInt8),(48:UInt8),(27:UInt8),(60:UInt8),(41:UInt8),(37:UInt8),(16:UInt8),(46:UInt8),(35:UInt8),(44:UInt8),(21:UInt8),(52:UInt8),(32:UInt8),(23:UInt8),(11:UInt8),(54:UInt8),(26:UInt8),(40:UInt8),(15:UInt8),(34:UInt8),(20:UInt8),(31:UInt8),(10:UInt8),(25:UInt8),(14:UInt8),(19:UInt8),(9:UInt8),(13:UInt8),(8:UInt8),(7:UInt8),(6:UInt8)]:LB) (GI.toZ (Cq (Bo (Es j (lI j)) 285870213051353865) (GI.toZ (58:UInt64)).toNat))).bind λz=>
some (Ad z:Int)
abbrev Hy:=Option (Int×Int×Int)
def vX:Hy:=
some (0,0,24)
def vT:=vX
def B8(j10:Hy):Hy:=
j10
def A8:=B8 vT
def gS(j9:Hy)(f a:Int):Hy:=
if(geq f 48)then
some (f,(Ae 0 (Ae a f)),0)
else
j9
def iC:=gS A8
def gX(j8:Int->Int->Hy)(f b a:Int):Hy:=
if(Cm f (Ha 48 (Am b a)))then
some (f,(Ae (Ae (0:Int) (1:Int)) (Ae a f)),0)
else
j8 f a
def iI:=gX iC
def iF(j7:Int->Int->Int->Hy)(h:Int)(k:UInt64)(a:Int)(g:LB)(b:Int):Hy:=
if(Bf h 0)then
some (0,0,h)
else
(Gj (yB k)).bind λf=>
j7 f b a
def TG:=iF iI
def Za(j6:Int->UInt64->Int->LB->Int->Hy)(g:LB)(b a:Int):Hy:=
(Jw g b).bind λm=>
if(Bf m 0)then
some (0,0,m)
else
if(Cm a 0)then
some (0,0,2)
else
if(Mf a b)then
some (0,0,24)
else
(
(
(DW g b a (Ha 48 (Am b a))).bind λ(k,h)=>
j6 h k a g b))
def HF:=Za TG
abbrev dL:=Option (UInt32×Int×Int)
def XS:dL:=
(DW i A d F).bind λ(c,e)=>
if(Bf e 0)then
some (0,0,e)
else
if(Cm B 48)then
(Jm (Mf z 0)).bind λ_=>
some ((sK (Dy (Ad B:UInt32) (GI.toZ z).toNat) (Ad c:UInt32)),(Ae d F),0)
else
(NI (Ad c:UInt32) z).bind λj=>
if(!j)then
some (0,0,12)
else
some ((Ad c:UInt32),(Ae d F),0)
def YJ:=XS
def mO(j2:Int->Int->Int->LB->Int->Int->dL)(g:LB)(h v a:Int):dL:=
(Jw g h).bind λo=>
if(Bf o 0)then
some (0,0,o)
else
if((Cm a 0)||(Dm a 24))then
some (0,0,2)
else
(HF g h v).bind λ(f,b,p)=>
if(Bf p 0)then
some (0,0,p)
else
if(geq f 48)then
j2 a b f g h 32
else
j2 a b f g h a
def fL:=mO YJ
abbrev Kq:=Option (UInt32×Int×Int×Int×UInt64×UInt64×Int)
def gM:Kq:=
some (V,Z,Azi,l7,(Ae Ay5 (Am (Ad V:UInt64) (Cq Ay5 (GI.toZ (4:UInt64)).toNat))),Ay6,0)
def gV:=gM
def mY(j10:UInt32->Int->Int->Int->UInt64->UInt64->Kq)(f:UInt32)(k m:Int)(b n:UInt64)(w:Int):Kq:=
j10 f k w m b n
def kW:=mY gV
def nO(j9:UInt32->Int->Int->UInt64->UInt64->Int->Kq)(f:UInt32)(k a:Int)(b:UInt64)(m:Int)(n:UInt64):Kq:=
if(Dm a 0)then
(Jm (Mf a 0)).bind λ_=>
if(Cm (Ae b (Am (Ad f:UInt64) (Cq b (GI.toZ (4:UInt64)).toNat))) (Dy (16:UInt64) (GI.toZ a).toNat))then
j9 f k m b n (Am a 1)
else
if(Cm a 24)then
(Jm (Mf a 0)).bind λ_=>
if(Dm (Ae b (Am (Ad f:UInt64) (Cq b (GI.toZ (4:UInt64)).toNat))) (Dy (32:UInt64) (GI.toZ a).toNat))then
j9 f k m b n (Ae a 1)
else
j9 f k m b n a
else
j9 f k m b n a
else
if(Cm a 24)then
(Jm (Mf a 0)).bind λ_=>
if(Dm (Ae b (Am (Ad f:UInt64) (Cq b (GI.toZ (4:UInt64)).toNat))) (Dy (32:UInt64) (GI.toZ a).toNat))then
j9 f k m b n (Ae a 1)
else
j9 f k m b n a
else
j9 f k m b n a
def EO:=nO kW
def WW(j8:UInt32->Int->Int->UInt64->Int->UInt64->Kq)(a h:Int)(b g:UInt64)(f:UInt32)(k:Int):Kq:=
(HH a h b g f).bind λ(ad,o)=>
if(geq ad 1)then
if(Dm h 0)then
(Jm (Mf h 0)).bind λ_=>
if(Cm (Ae g (Am (Ad o:UInt64) (Cq g (GI.toZ (4:UInt64)).toNat))) (Dy (16:UInt64) (GI.toZ h).toNat))then
j8 f k a b (Am h 1) (Ae g (Am (Ad o:UInt64) (Cq g (GI.toZ (4:UInt64)).toNat)))
else
if(Cm h 24)then
(Jm (Mf h 0)).bind λ_=>
if(Dm (Ae g (Am (Ad o:UInt64) (Cq g (GI.toZ (4:UInt64)).toNat))) (Dy (32:UInt64) (GI.toZ h).toNat))then
j8 f k a b (Ae h 1) (Ae g (Am (Ad o:UInt64) (Cq g (GI.toZ (4:UInt64)).toNat)))
else
j8 f k a b h (Ae g (Am (Ad o:UInt64) (Cq g (GI.toZ (4:UInt64)).toNat)))
else
j8 f k a b h (Ae g (Am (Ad o:UInt64) (Cq g (GI.toZ (4:UInt64)).toNat)))
else
if(Cm h 24)then
(Jm (Mf h 0)).bind λ_=>
if(Dm (Ae g (Am (Ad o:UInt64) (Cq g (GI.toZ (4:UInt64)).toNat))) (Dy (32:UInt64) (GI.toZ h).toNat))then
j8 f k a b (Ae h 1) (Ae g (Am (Ad o:UInt64) (Cq g (GI.toZ (4:UInt64)).toNat)))
else
j8 f k a b h (Ae g (Am (Ad o:UInt64) (Cq g (GI.toZ (4:UInt64)).toNat)))
else
j8 f k a b h (Ae g (Am (Ad o:UInt64) (Cq g (GI.toZ (4:UInt64)).toNat)))
else
j8 f k a b h g
def XB:=WW EO
def XH(j7:Int->Int->UInt64->UInt64->UInt32->Int->Kq)(p:Int)(u:LB)(v a h:Int)(b g:UInt64):Kq:=
(DW u v p 1).bind λ(ae,aa)=>
if(Bf aa 0)then
some (0,0,0,0,0,0,aa)
else
if(geq ae 0)then
(DW u v (Ae p 1) a).bind λ(af,ab)=>
if(Bf ab 0)then
some (0,0,0,0,0,0,ab)
else
j7 a h b g (Ad af:UInt32) (Ae (Ae p 1) a)
else
(fL u v (Ae p 1) h).bind λ(y,ag,ac)=>
if(Bf ac 0)then
some (0,0,0,0,0,0,ac)
else
(Jm (Mf a 0)).bind λ_=>
if(Cm (Ae y (Dy (1:UInt32) (GI.toZ a).toNat)) y)then
some (0,0,0,0,0,0,12)
else
j7 a h b g (Ae y (Dy (1:UInt32) (GI.toZ a).toNat)) ag
def nP:=XH XB
def YS(j6:Int->LB->Int->Int->Int->UInt64->UInt64->Kq)(u:LB)(v p a h:Int)(b g:UInt64):Kq:=
(Jw u v).bind λah=>
if(Bf ah 0)then
some (0,0,0,0,0,0,8)
else
(QF a h b g).bind λai=>
if(Bf ai 0)then
some (0,0,0,0,0,0,8)
else
j6 p u v a h b g
def GX:=YS nP
abbrev Bw:=Option (LU×Int×Int)
def jQ:Bw:=
some (Y,z,0)
def QH:=jQ
def QE(Mi:Int->Int-> (List (Int×Int×UInt64×UInt64×Unit))->LU->Bw)(a f:Int)(g:LB)(b k v:Int)(w:UInt32)(h:Int)(ah:List (Int×Int×UInt64×UInt64×Unit))(n:LU):Bw:=
(Dh n ([w]:LU)).bind λak=>
Mi (Ae k v) (Ae h 1) ah ak
def OK Mi:=QE Mi
def Zt(j22:Int->Int->UInt32->Int-> (List (Int×Int×UInt64×UInt64×Unit))->LU->Bw)(a f:Int)(g:LB)(b k h y:Int)(w:UInt32)(v:Int)(m:List (Int×Int×UInt64×UInt64×Unit))(n:LU)(aa ab:Int)(ac ad:UInt64):Bw:=
if(Bf y 0)then
some (([]:LU),0,y)
else
(Jm (Bf a 0)).bind λ_=>
(Ak m (Ho h a)).bind λ_=>
(Lp m (Ho h a) (aa,ab,ac,ad,())).bind λah=>
j22 k v w h ah n
def Re Mi a f g b:=Zt (OK Mi a f g b) a f g b
def Rq(j21:Int->Int->Int->UInt32->Int-> (List (Int×Int×UInt64×UInt64×Unit))->LU->Int->Int->UInt64->UInt64->Bw)(j24:Int->LU->Bw)(a f:Int)(g:LB)(b k h:Int)(m:List (Int×Int×UInt64×UInt64×Unit))(n:LU):Bw:=
if(Cm h (Bo f a))then
(cY g b k (Ha (Ae k 81) b)).bind λ(ag,ae,af)=>
if(Bf af 0)then
some (([]:LU),0,af)
else
(Jm (Bf a 0)).bind λ_=>
(Ak m (Ho h a)).bind λ_=>
(
(
(Ak m (Ho h a)).bind λo=>
(
(GX ag ae 0 o.1 o.2.1 o.2.2.1 o.2.2.2.1).bind λ(w,v,aa,ab,ac,ad,y)=>
j21 k h y w v m n aa ab ac ad)))
else
j24 k n
def Ml:Nat->Int->Int-> (List (Int×Int×UInt64×UInt64×Unit))->LU->Bw
|0,_,_,_,_=>none
|c+1,e,j,B,C=>Rq (Re (Ml c) z d i A) QH z d i A e j B C
def QV a f g b:=Ml a f g b Ba
def OE(j16:Int->Int->LB->Int->Int->Int-> (List (Int×Int×UInt64×UInt64×Unit))->LU->Bw)(a f:Int)(g:LB)(b:Int)(p:List (Int×Int×UInt64×UInt64×Unit)):Bw:=
j16 a f g b 0 0 p ([]:LU)
def NZ:=OE QV
def OM(j15:Int->Int->LB->Int-> (List (Int×Int×UInt64×UInt64×Unit))->Bw)(Alv:Int-> (List (Int×Int×UInt64×UInt64×Unit))->Bw)(a f:Int)(g:LB)(b u:Int)(p:List (Int×Int×UInt64×UInt64×Unit)):Bw:=
if(Cm u 6)then
(kQ).bind λ(al,ae,af,am)=>
(Ak p u).bind λ_=>
(Lp p u (al,ae,af,am,())).bind λan=>
Alv (Ae u 1) an
else
j15 a f g b p
def Zq:Nat->Int-> (List (Int×Int×UInt64×UInt64×Unit))->Bw
|0,_,_=>none
|c+1,e,j=>OM NZ (Zq c) z d i A e j
def AJ a f g b:=Zq a f g b Ba
def DJ(j13:Int->Int->LB->Int->Int-> (List (Int×Int×UInt64×UInt64×Unit))->Bw)(a f:Int)(g:LB)(b:Int):Bw:=
j13 a f g b 0 (List.replicate 6 ((0:Int),(0:Int),(0:UInt64),(0:UInt64),()))
def DK:=DJ AJ
def Xd:Option Int32:=
some (Yg (Ad (Cq V (GI.toZ (1:UInt64)).toNat):Int32) (lI (Ad (Es V 1):Int32)))
def eE:Option (Int32×Int×LX×LX×Int):=
(PO z e L).bind λ(c,d)=>
if(Bf d 0)then
some (0,0,(List.replicate 16 (0:Int32)),(List.replicate 16 (0:Int32)),d)
else
(WK z e L (Ae l5 c) l5).bind λ(i,j,A)=>
some ((Ae l5 c),i,j,A,0)
def Ld:Option (Int32×Int×Int32×Int×LX×LX×Int):=
(Vs z I G l9 o7).bind λc=>
if(Bf c 0)then
some (0,0,0,0,(List.replicate 16 (0:Int32)),(List.replicate 16 (0:Int32)),c)
else
(Vu z I).bind λ(d,e)=>
(eE G l9 o7 l5).bind λ(i,j,A,B,C)=>
(
some ((Ae i d),z,(Ae i d),j,A,B,C))
abbrev Gp:=Option (LX×Int)
def N2:Gp:=
some (e,0)
def lN:=N2
def mI(TX:Int->LX->Gp)(b a:Int)(h:LX):Gp:=
TX (Ae a b) h
def XW TX:=mI TX
def MY(j20:Int->LX->Gp)(C4:Int->LX->Gp)(b a g:Int)(h:LX):Gp:=
if(Mf g 0)then
(Jm (decide (0<= (Ae g 1)/\ (Ae g 1)<((Ae a b)-a)))).bind λ_=>
(Jm (decide (0<=g/\g<((Ae a b)-a)))).bind λ_=>
(Ak h (a+(Ae g 1))).bind λn=>
(Ak h (a+g)).bind λo=>
(Jm (decide (0<=g/\g<((Ae a b)-a)))).bind λ_=>
(Lp h (a+g) (Am n o)).bind λp=>
C4 (Am g 1) p
else
j20 a h
def Xb(TX:Int->LX->Gp)(b a:Int):Nat->Int->LX->Gp
|0,_,_=>none
|q+1,g,h=>MY (XW TX b) (Xb TX b a q) b a g h
def WU TX b a:=Xb TX b a Ba
def WC(j18:Int->Int->LX->Gp)(b a:Int)(u:LX):Gp:=
j18 a (Am (Am ((Ae a b)-a) 1) 1) u
def YC TX b:=WC (WU TX b) b
def WO(j17:Int->LX->Gp)(j22:LX->Gp)(b a:Int)(f:LX):Gp:=
if(Cm a (Ac f))then
(gB (Ac f) a (Ae a b)).bind λ_=>
if(Dm (Am ((Ae a b)-a) 1) 0)then
(Jm (decide (0<= (Am ((Ae a b)-a) 1)/\ (Am ((Ae a b)-a) 1)<((Ae a b)-a)))).bind λ_=>
Option.bind (Jm (decide (0<= (Am (Am ((Ae a b)-a) 1) 1)/\ (Am (Am ((Ae a b)-a) 1) 1)<((Ae a b)-a)))) λ_=>
(Ak f (a+(Am ((Ae a b)-a) 1))).bind λv=>
(Ak f (a+(Am (Am ((Ae a b)-a) 1) 1))).bind λw=>
(Jm (decide (0<= (Am ((Ae a b)-a) 1)/\ (Am ((Ae a b)-a) 1)<((Ae a b)-a)))).bind λ_=>
(Lp f (a+(Am ((Ae a b)-a) 1)) (Ae v (Cx w 2))).bind λy=>
j17 a y
else
j17 a f
else
j22 f
def Rh:Nat->Int->LX->Gp
|0,_,_=>none
|c+1,d,e=>WO (YC (Rh c) z) lN z d e
def mP b:=Rh b Ba
def eN(j12:Int->Int->LX->Gp)(b:Int)(k:LX):Gp:=
(VA b k).bind λm=>
if(Bf m 0)then
some (([]:LX),m)
else
(En k).bind λaa=>
j12 b 0 aa
def lY:=eN mP
abbrev Cg:=Option (LX×Int)
def LZ:Cg:=
(lY z e).bind λ(c,i)=>
if(Bf i 0)then
some (([]:LX),i)
else
(Vt d c).bind λj=>
if(Bf j 0)then
some (([]:LX),j)
else
some (c,0)
def Lj:=LZ
def MI(Alv:Int-> (List (Int×Int32×(Int×LX×LX×Unit)×Unit))->LX->Cg)(a:Int)(f:LU)(b g:Int)(y:Int32)(v:Int)(h:List (Int×Int32×(Int×LX×LX×Unit)×Unit))(k:LX)(aa:Int)(w:Int32)(ab:Int)(ac ad:LX):Cg:=
if(Bf v 0)then
some (([]:LX),v)
else
(Lp h (Ho g a) (aa,w,(ab,ac,ad,()),())).bind λai=>
(Dh k ([y]:LX)).bind λaj=>
Alv (Ae g 1) ai aj
def Ya Alv:=MI Alv
def Li(j16:Int->Int32->Int-> (List (Int×Int32×(Int×LX×LX×Unit)×Unit))->LX->Int->Int32->Int->LX->LX->Cg)(j18:Int->Int->LX->Cg)(f:LU)(a b g:Int)(h:List (Int×Int32×(Int×LX×LX×Unit)×Unit))(k:LX):Cg:=
if(Cm g (Ac f))then
(Ak f g).bind λag=>
(Jm (Bf a 0)).bind λ_=>
(Ak h (Ho g a)).bind λ_=>
(
(Ak h (Ho g a)).bind λm=>
(
(Xd ag).bind λae=>
(
(Ld m.1 m.2.1 m.2.2.1.1 m.2.2.1.2.1 m.2.2.1.2.2.1 ae).bind λ(y,aa,w,ab,ac,ad,v)=>
j16 g y v h k aa w ab ac ad)))
else
j18 a b k
def Il:Nat->Int-> (List (Int×Int32×(Int×LX×LX×Unit)×Unit))->LX->Cg
|0,_,_,_=>none
|z+1,c,d,e=>Li (Ya (Il z) Ayr Y Ays) Lj Y Ayr Ays c d e
def MU f a b:=Il f a b Ba
def MO(j13:LU->Int->Int->Int-> (List (Int×Int32×(Int×LX×LX×Unit)×Unit))->LX->Cg)(f:LU)(a b:Int)(n:List (Int×Int32×(Int×LX×LX×Unit)×Unit)):Cg:=
j13 f a b 0 n ([]:LX)
def MT:=MO MU
def MQ(j12:LU->Int->Int-> (List (Int×Int32×(Int×LX×LX×Unit)×Unit))->Cg)(Abz:Int-> (List (Int×Int32×(Int×LX×LX×Unit)×Unit))->Cg)(f:LU)(a b:Int)(o:LX)(p:Int)(n:List (Int×Int32×(Int×LX×LX×Unit)×Unit)):Cg:=
if(Cm p 6)then
(pY b o).bind λ(ak,af,ae,al,am,w)=>
(Ak n p).bind λ_=>
(Lp n p (ak,af,(ae,al,am,()),())).bind λan=>
Abz (Ae p 1) an
else
j12 f a b n
def Yi:Nat->Int-> (List (Int×Int32×(Int×LX×LX×Unit)×Unit))->Cg
|0,_,_=>none
|z+1,c,d=>MQ MT (Yi z) Y Ayr Ays Aze c d
def Ye f a b o:=Yi f a b o Ba
def AH(j10:LU->Int->Int->LX->Int-> (List (Int×Int32×(Int×LX×LX×Unit)×Unit))->Cg)(a b:Int)(o:LX)(f:LU):Cg:=
j10 f a b o 0 (List.replicate 6 ((0:Int),(0:Int32),((0:Int),(List.replicate 16 (0:Int32)),(List.replicate 16 (0:Int32)),()),()))
def Rw:=AH Ye
def Mj:Option (LX×Int):=
(Tg z d).bind λc=>
if(Bf c 0)then
some (([]:LX),c)
else
if(Cm A 1)then
some (([]:LX),2)
else
(Jm (Bf z 0)).bind λ_=>
if(Dm A (Cx 4000 z))then
some (([]:LX),2)
else
(DM O).bind λ(i,j)=>
if(Bf j 0)then
some (([]:LX),j)
else
(Q6 i).bind λ(B,C,D)=>
if(Bf D 0)then
some (([]:LX),D)
else
(DK z A B C).bind λ(E,F,G)=>
if(Bf G 0)then
some (([]:LX),G)
else
if(Mf (Am C F) 8)then
some (([]:LX),12)
else
(DW B C F (Am C F)).bind λ(I,J)=>
if((Bf J 0)||(Bf I 0))then
some (([]:LX),12)
else
(Rw z d e E).bind λ(L,M)=>
some (L,M)
abbrev Df:=Option (LB×Int)
def sG:Df:=
some (c,0)
def ZS:=sG
def ZN(Mi:Int->LB->Df)(b:Int)(a:LX)(f:Int)(h:LB):Df:=
Mi (Ae f 1) h
def KW Mi:=ZN Mi
def Zg(j28:Int->LB->Df)(Ab0:Int->LB->Df)(b:Int)(a:LX)(k:Int32)(f m:Int)(h:LB):Df:=
if(Cm m (Cx b 8))then
(Jm (Mf (Bo 8 m) 0)).bind λ_=>
(Dh h ([(Ad (Cq k (GI.toZ (Bo 8 m)).toNat):UInt8)]:LB)).bind λp=>
Ab0 (Ae m 1) p
else
j28 f h
def Is(Mi:Int->LB->Df)(b:Int)(a:LX)(k:Int32)(f:Int):Nat->Int->LB->Df
|0,_,_=>none
|q+1,m,h=>Zg (KW Mi b a) (Is Mi b a k f q) b a k f m h
def LV Mi b a k f:=Is Mi b a k f Ba
def KL(j26:Int32->Int->Int->LB->Df)(b:Int)(a:LX)(f:Int)(g:LB)(k:Int32):Df:=
j26 k f 0 g
def Od Mi b a:=KL (LV Mi b a) b a
def Zj(j25:Int->LB->Int32->Df)(j30:LB->Df)(b:Int)(a:LX)(f:Int)(g:LB):Df:=
if(Cm f (Ac a))then
(Ak a f).bind λn=>
if(geq b 8)then
j25 f g (Ae n 128)
else
j25 f g n
else
j30 g
def Gb:Nat->Int->LB->Df
|0,_,_=>none
|c+1,d,i=>Zj (Od (Gb c) z e) ZS z e d i
def sN b a:=Gb b a Ba
def PX(j16:Int->LX->Int->LB->Df)(b:Int)(a:LX):Df:=
(Vt b a).bind λo=>
if(Bf o 0)then
some (([]:LB),o)
else
j16 b a 0 ([]:LB)
def Qs:=PX sN
def Yz:Option Int:=
some (-1:Int)
def Lz:=Yz
def Dw:Option Int:=
if(Cm o9 (Ac Ay0))then
(Ak Ay0 o9).bind λz=>
if(geq p9 z)then
some o9
else
Ayy (Ae o9 1)
else
Ayx
def Bt:Nat->Int->Option Int
|0,_=>none
|c+1,d=>Dw Lz (Bt c) D z d
def Mb a b:=Bt a b Ba
def Gy(j4:LI->Int->Int->Option Int)(a:LI)(b:Int):Option Int:=
j4 a b 0
def Ia:=Gy Mb
def Gu:Option Bool:=
(Ia D z).bind λc=>
some (Mf c 0)
def Pc:Option Bool:=
(Gu ([(4:Int),(12:Int),(16:Int),(22:Int),(24:Int),(26:Int),(38:Int)]:LI) z).bind λc=>
some c
def SU:Option Int:=
if(!C)then
some 8
else
some 0
def Bm:=SU
def SJ:Option Int:=
Ay2 ((true==true)&&((geq (0:Int) (0:Int))&&true))
def Uq:=SJ Bm
def RF:Option Int:=
Ay2 ((Ayw==true)&&((geq Ay9 0)&&true))
def Dv:=RF Bm
def SX(j13:Bool->Int->Option Int)(g ax:LB)(ay az ab ba af b:Int)(n:Bool)(o:Int)(f:LI)(k:LB):Option Int:=
(Mr ay az ab ba af g).bind λdi=>
(Ah di).bind λ(dj,ai)=>
j13 dj ai
def Uh:=SX Dv
def RX:Option Int:=
Ay2 ((Ayw==true)&&((geq Ay9 0)&&true))
def Ib:=RX Bm
def RO(j25:Bool->Int->Option Int)(g a:LB)(h p m u v b:Int)(n:Bool)(o:Int)(f:LI)(k:LB)(de:Int):Option Int:=
(De h p m u v).bind λ(dm,be)=>
if(Bf be 0)then
(Ah be).bind λ(aj,bg)=>
j25 aj bg
else
(Bl a de (Ac a)).bind λdn=>
(HB dn (Ac dm)).bind λ(dp,ab)=>
if(geq ab 24)then
j25 true 0
else
if(Bf ab 0)then
(Ah ab).bind λ(dq,af)=>
j25 dq af
else
(Bl a (Ae (Ae de (Bo 4 (Ac dp))) 4) (Ac a)).bind λfc=>
j25 false 0
def Ik:=RO Ib
def RS(j25:Bool->Int->Option Int)(j24:LB->LB->Int->Int->Int->Int->Int->Int->Bool->Int->LI->LB->Int->Option Int)(bh:Bool)(bf:Int)(g a:LB)(h p m u v b:Int)(n:Bool)(o:Int)(f:LI)(k:LB):Option Int:=
if(Bf bf 0)then
(Ah bf).bind λ(dr,be)=>
j25 dr be
else
if(!bh)then
(Ah 26).bind λ(aj,bg)=>
j25 aj bg
else
j24 g a h p m u v b n o f k 8
def SN:=RS Ib Ik
def SQ(j15:Bool->Int->LB->LB->Int->Int->Int->Int->Int->Int->Bool->Int->LI->LB->Option Int)(g a:LB)(h p m u v b:Int)(n:Bool)(o:Int)(f:LI)(k:LB):Option Int:=
(Bl a 0 8).bind λds=>
(Xf ds g).bind λ(bh,bf)=>
j15 bh bf g a h p m u v b n o f k
def Uf:=SQ SN
def RN:Option Int:=
Ay2 ((Ayw==true)&&((geq Ay9 0)&&true))
def Ff:=RN Bm
def Ut(j28:Bool->Int->Option Int)(y ac:Int)(g a:LB)(h p m u v b:Int)(n:Bool)(o:Int)(ak:LX)(f:LI)(k:LB):Option Int:=
if(Bf ac 0)then
(Ah ac).bind λ(bi,bj)=>
j28 bi bj
else
(Qs m ak).bind λ(bk,bb)=>
if(Bf bb 0)then
(Ah bb).bind λ(bl,bm)=>
j28 bl bm
else
(Dh k bk).bind λdv=>
(
(Bl a y (Ac a)).bind λdw=>
j28 false 0)
def EZ:=Ut Ff
def DO(j27:Int->Int->LB->LB->Int->Int->Int->Int->Int->Int->Bool->Int->LX->LI->LB->Option Int)(y:Int)(g a:LB)(h p m u v b:Int)(n:Bool)(o:Int)(bc:LX)(ag f:LI)(k:LB):Option Int:=
(Ak ag b).bind λ_=>
(Bl a 0 y).bind λdx=>
(Ak ag b).bind λdy=>
(Yq h p m u v).bind λ(dz,bd)=>
(Mj dz bd bc dy dx).bind λ(ak,ac)=>
j27 y ac g a h p m u v b n o ak f k
def CG:=DO EZ
def Xa(j13:Bool->Int->Option Int)(j12:LB->LB->Int->Int->Int->Int->Int->Int->Bool->Int->LI->LB->Option Int)(j25:Bool->Int->Option Int)(j23:LB->LB->Int->Int->Int->Int->Int->Int->Bool->Int->LI->LB->Option Int)(j24:LB->LB->Int->Int->Int->Int->Int->Int->Bool->Int->LI->LB->Int->Option Int)(j28:Bool->Int->Option Int)(j26:Int->LB->LB->Int->Int->Int->Int->Int->Int->Bool->Int->LX->LI->LI->LB->Option Int)(j22:Bool->Option Int)(j21:Option Int)(al am:LB)(an ao ap aq ar:Int)(au:LI)(ad:Int)(ae:LB)(aa:Bool)(w:Int):Option Int:=
if(Dm (Ac al) 64)then
some 8
else
if((geq w 0)&&(!aa))then
(Dk al am an ao ap aq ar au ad ae aa w).bind λ(g,a,h,p,m,u,v,f,b,k,n,o)=>
(Wr al am an ao ap aq ar au ad ae aa w).bind λbn=>
if bn then
if(geq h 0)then
(Iq a).bind λ(ah,av)=>
if(geq av 24)then
j13 true 0
else
if(Bf av 0)then
(Ah av).bind λ(bp,bq)=>
j13 bp bq
else
(Bl a ah (Ac a)).bind λbr=>
(Oy br).bind λaj=>
if aj then
j13 true 0
else
(Bl a ah (Ac a)).bind λbs=>
(Ma bs).bind λ(ay,az,ab,ba,af,aw)=>
if(geq aw 24)then
j13 true 0
else
if(Bf aw 0)then
(Ah aw).bind λ(bt,bu)=>
j13 bt bu
else
(
(Bl a (Ae ah 22) (Ac a)).bind λax=>
(
j12 g ax ay az ab ba af b n o f k))
else
if(geq (Ac f) 0)then
if(geq h 2)then
if(Cm (Ac a) 8)then
j25 true 0
else
j23 g a h p m u v b n o f k
else
j24 g a h p m u v b n o f k 0
else
if(Cm b (Ac f))then
(Ak f b).bind λ_=>
(Ak f b).bind λy=>
if(Cm (Ac a) y)then
j28 true 0
else
(Qo g).bind λ(bc,ai)=>
if(Bf ai 0)then
(Ah ai).bind λ(bv,bw)=>
j28 bv bw
else
(De h p m u v).bind λ(ag,bx)=>
if((Bf bx 0)||(Mf b (Ac ag)))then
(Ah 8).bind λ(bz,da)=>
j28 bz da
else
j26 y g a h p m u v b n o bc ag f k
else
if(Dm (Ac a) 4000)then
(Ah 38).bind λ(db,bd)=>
j22 ((db==true)&&((geq bd 0)&&true))
else
j21
else
j22 false
else
if((geq (Ac am) 0)&&(geq (Ac au) 0))then
if((((geq an 0)&&((geq ao 0)&&((geq ap 0)&&((geq aq 0)&&((geq ar 0)&&true)))))&&(geq ad 0))&&(xI (Ac ae) 12000))then
if(geq w 0)then
j22 true
else
if(!aa)then
(Pc w).bind λdc=>
j22 dc
else
j22 false
else
j22 false
else
if((false&&(geq ad 0))&&(xI (Ac ae) 12000))then
if(geq w 0)then
j22 true
else
if(!aa)then
(Pc w).bind λdd=>
j22 dd
else
j22 false
else
j22 false
def Gc:=Xa Dv Uh Ib Uf Ik Ff CG Bm Uq
def Pj:Option (LB×LB×Int×Int×Int×Int×Int×LI×Int×LB×Bool×Int×Int):=
(Gc c i A F P R T M N O C E).bind λz=>
if(Bf z 0)then
some (([]:LB),([]:LB),0,0,0,0,0,([]:LI),0,([]:LB),false,0,z)
else
if(Bf E 0)then
(
(
(Dk c i A F P R T M N O C E).bind λ(d,e,j,B,D,G,I,J,L,U,V,X)=>
(
some (d,e,j,B,D,G,I,J,L,U,V,X,E))))
else
if C then
(Dk c i A F P R T M N O C E).bind λ(Y,Z,l5,l6,l7,l9,o7,o8,o9,p8,p9,q8)=>
some (Y,Z,l5,l6,l7,l9,o7,o8,o9,p8,p9,q8,36)
else
(Dk c i A F P R T M N O C E).bind λ(q9,r9,Ayr,Ays,Ayu,Ayv,Ayw,Ayx,Ayy,Ayz,Ay0,Ay2)=>
some (q9,r9,Ayr,Ays,Ayu,Ayv,Ayw,Ayx,Ayy,Ayz,Ay0,Ay2,0)
def YM(b g:LB)(h k m n o:Int)(p:LI)(u:Int)(f:LB)(v:Bool)(w a:Int):Option (LB×LB×Int×Int×Int×Int×Int×LI×Int×LB×Bool×Int×Int):=
some (b,([]:LB),0,0,0,0,0,([]:LI),0,f,false,a,a)
abbrev Ap:=Option (LB×LB×Int×Int×Int×Int×Int×LI×Int×LB×Bool×Int×Int)
def GG(NN:LB->Int->Int->Int->Int->Int->Int->LI->LB->Ap)(a:LB)(b:Bool)(f:Int)(av:LB)(aw ax ay az ba bb:Int)(dy:Bool)(dk:Int)(bc:LI)(bd:LB):Ap:=
if dy then
(Dk a av aw ax ay az ba bc bb bd b f).bind λ(dz,fa,fb,ap,be,ae,fc,fd,fe,ff,fg,af)=>
some (dz,fa,fb,ap,be,ae,fc,fd,fe,ff,fg,af,0)
else
if(Bf dk 0)then
(YM a av aw ax ay az ba bc bb bd b f dk).bind λ(fh,fi,fj,fk,fl,fm,fn,fo,fp,fq,fs,ft,fu)=>
some (fh,fi,fj,fk,fl,fm,fn,fo,fp,fq,fs,ft,fu)
else
NN av aw ax ay az ba bb bc bd
def By NN:=GG NN
def pS(j71:LB->Int->Int->Int->Int->Int->Int->Bool->Int->LI->LB->Ap)(a:LB)(b:Bool)(f:Int)(g:LB)(m o n p u h:Int)(k:LI)(v:LB):Ap:=
j71 g m o n p u h true 0 k v
def Xc NN a b f:=pS (By NN a b f) a b f
def pH(j71:LB->Int->Int->Int->Int->Int->Int->Bool->Int->LI->LB->Ap)(a:LB)(b:Bool)(f h:Int)(k:LI)(v:LB)(fv:Bool)(fw:Int)(fx:LB)(fy fz ga gb gc:Int):Ap:=
j71 fx fy fz ga gb gc h fv fw k v
def Mg NN a b f:=pH (By NN a b f) a b f
def VJ(j62:Int->LI->LB->Bool->Int->LB->Int->Int->Int->Int->Int->Ap)(a:LB)(b:Bool)(f:Int)(ag:LB)(ah ai y aj aa h:Int)(k:LI)(v:LB):Ap:=
(Mr ah ai y aj aa a).bind λgd=>
(Ah gd).bind λ(ge,ak)=>
j62 h k v ge ak ag ah ai y aj aa
def Pw NN a b f:=VJ (Mg NN a b f) a b f
def pF(j71:LB->Int->Int->Int->Int->Int->Int->Bool->Int->LI->LB->Ap)(a:LB)(b:Bool)(f m o n p u h:Int)(v:LB)(bf:Bool)(bg:Int)(bh:LB)(bi:LI):Ap:=
j71 bh m o n p u h bf bg bi v
def Jt NN a b f:=pF (By NN a b f) a b f
def Xj(j75:Int->Int->Int->Int->Int->Int->LB->Bool->Int->LB->LI->Ap)(a:LB)(b:Bool)(f:Int)(g:LB)(m o n p u h:Int)(k:LI)(v:LB)(dl:Int):Ap:=
(De m o n p u).bind λ(gf,ar)=>
if(Bf ar 0)then
(Ah ar).bind λ(al,bj)=>
j75 m o n p u h v al bj g k
else
(Bl g dl (Ac g)).bind λgg=>
(HB gg (Ac gf)).bind λ(dm,y)=>
if(geq y 24)then
j75 m o n p u h v true 0 g k
else
if(Bf y 0)then
(Ah y).bind λ(gh,aa)=>
j75 m o n p u h v gh aa g k
else
(Bl g (Ae (Ae dl (Bo 4 (Ac dm))) 4) (Ac g)).bind λgi=>
j75 m o n p u h v false 0 gi dm
def Mh NN a b f:=Xj (Jt NN a b f) a b f
def HK(j75:Int->Int->Int->Int->Int->Int->LB->Bool->Int->LB->LI->Ap)(j74:LB->Int->Int->Int->Int->Int->Int->LI->LB->Int->Ap)(a:LB)(b:Bool)(f:Int)(bk:Bool)(au:Int)(g:LB)(m o n p u h:Int)(k:LI)(v:LB):Ap:=
if(Bf au 0)then
(Ah au).bind λ(gj,ar)=>
j75 m o n p u h v gj ar g k
else
if(!bk)then
(Ah 26).bind λ(al,bj)=>
j75 m o n p u h v al bj g k
else
j74 g m o n p u h k v 8
def UA NN a b f:=HK (Jt NN a b f) (Mh NN a b f) a b f
def GM(j64:Bool->Int->LB->Int->Int->Int->Int->Int->Int->LI->LB->Ap)(a:LB)(b:Bool)(f:Int)(g:LB)(m o n p u h:Int)(k:LI)(v:LB):Ap:=
(Bl g 0 8).bind λgk=>
(Xf gk a).bind λ(bk,au)=>
j64 bk au g m o n p u h k v
def Wp NN a b f:=GM (UA NN a b f) a b f
def oX(j71:LB->Int->Int->Int->Int->Int->Int->Bool->Int->LI->LB->Ap)(a:LB)(b:Bool)(f m o n p u:Int)(k:LI)(bl:Bool)(bm:Int)(bn:LB)(bp:Int)(bq:LB):Ap:=
j71 bn m o n p u bp bl bm k bq
def Me NN a b f:=oX (By NN a b f) a b f
def Wz(j78:Int->Int->Int->Int->Int->LI->Bool->Int->LB->Int->LB->Ap)(a:LB)(b:Bool)(f w ab:Int)(g:LB)(m o n p u h:Int)(am:LX)(k:LI)(v:LB):Ap:=
if(Bf ab 0)then
(Ah ab).bind λ(br,bs)=>
j78 m o n p u k br bs g h v
else
(Qs n am).bind λ(bt,af)=>
if(Bf af 0)then
(Ah af).bind λ(bu,bv)=>
j78 m o n p u k bu bv g h v
else
(Dh v bt).bind λbw=>
(
(Bl g w (Ac g)).bind λbx=>
j78 m o n p u k false 0 bx (Ae h 1) bw)
def HA NN a b f:=Wz (Me NN a b f) a b f
def GL(j77:Int->Int->LB->Int->Int->Int->Int->Int->Int->LX->LI->LB->Ap)(a:LB)(b:Bool)(f w:Int)(g:LB)(m o n p u h:Int)(aq:LX)(ac k:LI)(v:LB):Ap:=
(Ak ac h).bind λ_=>
(Bl g 0 w).bind λgl=>
(Ak ac h).bind λgm=>
(Yq m o n p u).bind λ(be,ae)=>
(Mj be ae aq gm gl).bind λ(am,ab)=>
j77 w ab g m o n p u h am k v
def Xi NN a b f:=GL (HA NN a b f) a b f
def Hj(j62:Int->LI->LB->Bool->Int->LB->Int->Int->Int->Int->Int->Ap)(j61:LB->Int->Int->Int->Int->Int->Int->LI->LB->Ap)(j75:Int->Int->Int->Int->Int->Int->LB->Bool->Int->LB->LI->Ap)(j73:LB->Int->Int->Int->Int->Int->Int->LI->LB->Ap)(j74:LB->Int->Int->Int->Int->Int->Int->LI->LB->Int->Ap)(j78:Int->Int->Int->Int->Int->LI->Bool->Int->LB->Int->LB->Ap)(j76:Int->LB->Int->Int->Int->Int->Int->Int->LX->LI->LI->LB->Ap)(j71:LB->Int->Int->Int->Int->Int->Int->Bool->Int->LI->LB->Ap)(j70:LB->Int->Int->Int->Int->Int->Int->LI->LB->Ap)(a:LB)(b:Bool)(f:Int)(g:LB)(m o n p u h:Int)(k:LI)(v:LB):Ap:=
if(geq m 0)then
(Iq g).bind λ(ad,an)=>
if(geq an 24)then
j62 h k v true 0 g m o n p u
else
if(Bf an 0)then
(Ah an).bind λ(bz,da)=>
j62 h k v bz da g m o n p u
else
(Bl g ad (Ac g)).bind λdb=>
(Oy db).bind λal=>
if al then
j62 h k v true 0 g m o n p u
else
(Bl g ad (Ac g)).bind λdc=>
(Ma dc).bind λ(ah,ai,y,aj,aa,ao)=>
if(geq ao 24)then
j62 h k v true 0 g m o n p u
else
if(Bf ao 0)then
(Ah ao).bind λ(dd,de)=>
j62 h k v dd de g m o n p u
else
(
(Bl g (Ae ad 22) (Ac g)).bind λag=>
(
j61 ag ah ai y aj aa h k v))
else
if(geq (Ac k) 0)then
if(geq m 2)then
if(Cm (Ac g) 8)then
j75 m o n p u h v true 0 g k
else
j73 g m o n p u h k v
else
j74 g m o n p u h k v 0
else
if(Cm h (Ac k))then
(Ak k h).bind λ_=>
(Ak k h).bind λw=>
if(Cm (Ac g) w)then
j78 m o n p u k true 0 g h v
else
(Qo a).bind λ(aq,ak)=>
if(Bf ak 0)then
(Ah ak).bind λ(df,dg)=>
j78 m o n p u k df dg g h v
else
(De m o n p u).bind λ(ac,dh)=>
if((Bf dh 0)||(Mf h (Ac ac)))then
(Ah 8).bind λ(di,ap)=>
j78 m o n p u k di ap g h v
else
j76 w g m o n p u h aq ac k v
else
if(Dm (Ac g) 4000)then
(Ah 38).bind λ(dj,ae)=>
j71 g m o n p u h dj ae k v
else
j70 g m o n p u h k v
def Bc:Nat->LB->Int->Int->Int->Int->Int->Int->LI->LB->Ap
|0,_,_,_,_,_,_,_,_,_=>none
|z+1,d,e,i,j,A,B,D,F,G=>Hj (Mg (Bc z) c C E) (Pw (Bc z) c C E) (Jt (Bc z) c C E) (Wp (Bc z) c C E) (Mh (Bc z) c C E) (Me (Bc z) c C E) (Xi (Bc z) c C E) (By (Bc z) c C E) (Xc (Bc z) c C E) c C E d e i j A B D F G
def oY a b f:=Bc a b f Ba
def Se(j37:LB->Bool->Int->LB->Int->Int->Int->Int->Int->Int->LI->LB->Ap)(gn go:LB)(gp gq gr gs gt:Int)(gu:LI)(gv:Int)(gw:LB)(gx:Bool)(gy:Int)(gz:LB):Ap:=
(Pj gn go gp gq gr gs gt gu gv gw gx gy).bind λ(a,dn,dp,dq,dr,ds,dt,du,dv,dw,b,f,dx)=>
if(Bf dx 0)then
some (a,dn,dp,dq,dr,ds,dt,du,dv,dw,b,f,dx)
else
(Dh dn gz).bind λha=>
j37 a b f ha dp dq dr ds dt dv du dw
def Fh:=Se oY
def Mm:Option (Int×Int):=
(Gc c i A F P R T M N O C E).bind λz=>
if(Bf z 0)then
some (0,z)
else
some ((Ae (Ac i) (Bo 8 (Ac M))),0)
def Zn:Option Int:=
(SH ([]:LB)).bind λ(z,d,e,i,j,A,B,C,D,E,F,G,I)=>
(Fh z d e i j A B C D E F G c).bind λ(J,L,M,N,O,P,R,T,U,V,X,Y,Z)=>
(Mm J L M N O P R T U V X Y).bind λ(l5,l6)=>
if(((Bf I 0)||(Bf Z 0))||(Bf l6 0))then
some (-1:Int)
else
some l5
def Qv:Option Bool:=
(rU 1 8 8000 ([(0:Int32)]:LX) ([]:LB)).bind λ(a,g)=>
if((Bf g 0)||(Bf (Ac a) 36))then
some false
else
(EH 0).bind λ(b,f)=>
(Bl a 0 30).bind λh=>
(Zn h).bind λk=>
if(geq k 8)then
(Bl a 0 35).bind λm=>
(Zn m).bind λn=>
some (((geq n 13)&&(geq f 0))&&(geq b 16022))
else
some ((false&&(geq f 0))&&(geq b 16022))
def ED:Option Bool:=
some (((Dm (Ac c) 5000)&&(Cm (Ac c) 12000))||(Dm (Ac c) 12100))
abbrev kL:=Option (Int×Int)
def rP:kL:=
(Bl c (Am (Ac c) 32) (Ac c)).bind λz=>
(NS z 0).bind λ(d,e,i)=>
if i then
if(Cm (Am (Ac c) 32) d)then
some (0,24)
else
some ((Ae d 32),0)
else
(Bl c (Am (Ac c) 32) (Ac c)).bind λj=>
(NS j 2147483648).bind λ(A,B,C)=>
if(!C)then
some (0,12)
else
if(Cm (Ac c) (Ae A 64))then
some (0,24)
else
(Bl c (Am (Ac c) (Ae A 64)) (Ae (Am (Ac c) (Ae A 64)) 32)).bind λD=>
(fD A B 2684354560).bind λE=>
(It D E).bind λF=>
if(!F)then
some (0,12)
else
some ((Ae A 64),0)
def qB:=rP
def rF(j2:LB->kL)(a:LB):kL:=
if(Cm (Am (Ac a) 32) 0)then
some (0,6)
else
(Bl a (Am (Ac a) 32) (Ac a)).bind λv=>
(Ky v ([(65:UInt8),(80:UInt8),(69:UInt8),(84:UInt8),(65:UInt8),(71:UInt8),(69:UInt8),(88:UInt8)]:LB)).bind λw=>
if(!w)then
some (0,6)
else
j2 a
def lR:=rF qB
abbrev Fp:=Option (Int×Int)
def pJ:Fp:=
some (z,0)
def VN:=pJ
def VT(bk8:Int->LB->Fp)(a:Int)(g:LB):Fp:=
bk8 (Ae a 1) g
def VQ bk8:=VT bk8
def VL(j12:Int->LB->Fp)(a f:Int)(b:LB):Fp:=
if(geq f 0)then
some (0,38)
else
(Bl b 0 (Am (Ac b) f)).bind λg=>
j12 a g
def GZ bk8:=VL (VQ bk8)
def LN(j11:Int->Int->LB->Fp)(j14:Int->Fp)(a:Int)(b:LB):Fp:=
if(Dm (Ac b) 0)then
(lR b).bind λ(f,k)=>
j11 a f b
else
j14 a
def Rt:Nat->Int->LB->Fp
|0,_,_=>none
|q+1,a,b=>LN (GZ (Rt q)) VN a b
def sM:=Rt Ba
def LD(j8:Int->LB->Fp)(h:LB):Fp:=
if(Dm (Ac h) 4000)then
some (0,38)
else
j8 0 h
def DB:=LD sM
def Vp(p a:LB)(g u v w y:Int)(b:LI)(h:Int)(aa:LB)(ab:Bool)(ac:Int):Option Int:=
if(geq g 0)then
(Iq a).bind λ(k,f)=>
if(Bf f 0)then
some f
else
(Bl a k (Ac a)).bind λm=>
(Ma m).bind λ(ad,ae,af,ag,ah,n)=>
some n
else
if((Cm h (Ac b))||(geq (Ac b) 0))then
some 24
else
(DB a).bind λ(ai,o)=>
some o
def Gz:Option (LB×LB×Int×Int×Int×Int×Int×LI×Int×LB×Bool×Int×Int):=
(Pj c i A F P R T M N O C E).bind λ(z,d,e,j,B,D,G,I,J,L,U,V,X)=>
if(Bf X 0)then
some (z,d,e,j,B,D,G,I,J,L,U,V,X)
else
(Vp z d e j B D G I J L U V).bind λY=>
if(Bf Y 0)then
(YM z d e j B D G I J L U V Y).bind λ(Z,l5,l6,l7,l9,o7,o8,o9,p8,p9,q8,q9,r9)=>
some (Z,l5,l6,l7,l9,o7,o8,o9,p8,p9,q8,q9,r9)
else
some (z,([]:LB),0,0,0,0,0,([]:LI),0,L,true,0,0)
def Sj:Option Bool:=
(Gz Azg Azz Aza Azs Azt Azu Azv Az0 Azw Azh Azx Azy).bind λ(z,c,d,e,i,j,A,B,D,E,F,G,I)=>
(Mm z c d e i j A B D E F G).bind λ(J,L)=>
some ((C&&(geq L 0))&&(geq J 0))
def Lc:=Sj
def Ry(Uy:Int->Int->LB->Int->Int->Int->Int->Int->Int->LB->Bool->Int->LB->LI->Option Bool)(f:LB)(b:LI)(a:Bool)(g w k:Int)(y:LB)(o p u aa v m:Int)(ab:LB)(ac:Bool)(n:Int)(ad:LB)(h:LI):Option Bool:=
Uy (Ae g w) (Ae k 1) y o p u aa v m ab ac n ad h
def Sa Uy:=Ry Uy
def Sk(j48:Int->Int->Int->LB->Int->Int->Int->Int->Int->Int->LB->Bool->Int->LB->LI->Option Bool)(f:LB)(b:LI)(a:Bool)(g w k au:Int)(y:LB)(o p u aa v m:Int)(ab:LB)(ac:Bool)(n:Int)(ad:LB)(h:LI):Option Bool:=
if((Bf n 0)&&(Bf au 0))then
some false
else
j48 g w k y o p u aa v m ab ac n ad h
def Lf Uy f b a:=Sk (Sa Uy f b a) f b a
def Sg(j47:Int->Int->Int->Int->LB->Int->Int->Int->Int->Int->Int->LB->Bool->Int->LB->LI->Option Bool)(f:LB)(b:LI)(a:Bool)(g w k aq:Int)(y:LB)(o p u aa v m:Int)(ab:LB)(ac:Bool)(n:Int)(ad:LB)(h:LI):Option Bool:=
(Mm y ad o p u aa v h m ab ac n).bind λ(au,be)=>
(EH (Ha aq 100000)).bind λ(bf,bg)=>
if(((Bf be 0)||(Bf bg 0))||(Dm au bf))then
some false
else
if(Cm m 0)then
some false
else
if(Dm (Ac h) 0)then
if(Cm m (Ac h))then
(Ak h m).bind λ_=>
(Ak h m).bind λbh=>
if(Mf au (Ae (Bo 8 (Ac h)) bh))then
some false
else
if(Dm (Ac h) 0)then
if((geq m (Ac h))&&(Dm au (Ae (Bo 8 (Ac h)) 4000)))then
some false
else
j47 g w k au y o p u aa v m ab ac n ad h
else
if(false&&(Dm au (Ae (Bo 8 (Ac h)) 4000)))then
some false
else
j47 g w k au y o p u aa v m ab ac n ad h
else
if(Dm (Ac h) 0)then
if((geq m (Ac h))&&(Dm au (Ae (Bo 8 (Ac h)) 4000)))then
some false
else
j47 g w k au y o p u aa v m ab ac n ad h
else
if(false&&(Dm au (Ae (Bo 8 (Ac h)) 4000)))then
some false
else
j47 g w k au y o p u aa v m ab ac n ad h
else
if(Dm (Ac h) 0)then
if((geq m (Ac h))&&(Dm au (Ae (Bo 8 (Ac h)) 4000)))then
some false
else
j47 g w k au y o p u aa v m ab ac n ad h
else
if(false&&(Dm au (Ae (Bo 8 (Ac h)) 4000)))then
some false
else
j47 g w k au y o p u aa v m ab ac n ad h
def Ej Uy f b a:=Sg (Lf Uy f b a) f b a
def Hc(j46:Int->Int->Int->Int->LB->Int->Int->Int->Int->Int->Int->LB->Bool->Int->LB->LI->Option Bool)(qA:Int->Int->Option Bool)(f:LB)(b:LI)(a:Bool)(g w k:Int)(y:LB)(o p u aa v m:Int)(ab:LB)(ac:Bool)(n:Int)(ad:LB)(h:LI)(aq ar:Int):Option Bool:=
if(Cm ar (Ac h))then
(Ak h ar).bind λ_=>
(Ak h ar).bind λbi=>
qA (aE aq bi) (Ae ar 1)
else
j46 g w k aq y o p u aa v m ab ac n ad h
def Di(Uy:Int->Int->LB->Int->Int->Int->Int->Int->Int->LB->Bool->Int->LB->LI->Option Bool)(f:LB)(b:LI)(a:Bool)(g w k:Int)(y:LB)(o p u aa v m:Int)(ab:LB)(ac:Bool)(n:Int)(ad:LB)(h:LI):Nat->Int->Int->Option Bool
|0,_,_=>none
|q+1,aq,ar=>Hc (Ej Uy f b a) (Di Uy f b a g w k y o p u aa v m ab ac n ad h q) f b a g w k y o p u aa v m ab ac n ad h aq ar
def Kx Uy f b a g w k y o p u aa v m ab ac n ad h:=Di Uy f b a g w k y o p u aa v m ab ac n ad h Ba
def Lb(j44:Int->Int->Int->LB->Int->Int->Int->Int->Int->Int->LB->Bool->Int->LB->LI->Int->Int->Option Bool)(f:LB)(b:LI)(a:Bool)(g k w:Int)(y:LB)(o p u aa v m:Int)(ab:LB)(ac:Bool)(n:Int)(ad:LB)(h:LI):Option Bool:=
j44 g w k y o p u aa v m ab ac n ad h 0 0
def Sf Uy f b a:=Lb (Kx Uy f b a) f b a
def Kz(j43:Int->Int->Int->LB->Int->Int->Int->Int->Int->Int->LB->Bool->Int->LB->LI->Option Bool)(f:LB)(b:LI)(a:Bool)(g k:Int)(ae:LB)(af ag ah ai aj ak:Int)(al:LB)(am:Bool)(an:Int)(ao:LB)(ap:LI)(w:Int):Option Bool:=
(Bl f g (Ae g w)).bind λbj=>
(Fh ae ao af ag ah ai aj ap ak al am an bj).bind λ(y,ad,o,p,u,aa,v,h,m,ab,ac,n,aw)=>
j43 g k w y o p u aa v m ab ac n ad h
def Ku Uy f b a:=Kz (Sf Uy f b a) f b a
def Hb(j42:Int->Int->LB->Int->Int->Int->Int->Int->Int->LB->Bool->Int->LB->LI->Int->Option Bool)(j50:Bool->LB->Int->Int->Int->Int->Int->Int->LB->Bool->Int->LB->LI->Option Bool)(f:LB)(b:LI)(a:Bool)(g k:Int)(ae:LB)(af ag ah ai aj ak:Int)(al:LB)(am:Bool)(an:Int)(ao:LB)(ap:LI):Option Bool:=
if(xI k (Ac b))then
if(Cm k (Ac b))then
(Ak b k).bind λbk=>
j42 g k ae af ag ah ai aj ak al am an ao ap (Ha (Am (Ac f) g) (aE 0 bk))
else
j42 g k ae af ag ah ai aj ak al am an ao ap (Am (Ac f) g)
else
j50 a ae af ag ah ai aj ak al am an ao ap
def Ci:Nat->Int->Int->LB->Int->Int->Int->Int->Int->Int->LB->Bool->Int->LB->LI->Option Bool
|0,_,_,_,_,_,_,_,_,_,_,_,_,_,_=>none
|z+1,d,e,i,j,A,B,E,F,G,I,J,L,M,N=>Hb (Ku (Ci z) c D C) Lc c D C d e i j A B E F G I J L M N
def Sd f b a:=Ci f b a Ba
def Kw(j27:LB->LI->Bool->Int->Int->LB->Int->Int->Int->Int->Int->Int->LB->Bool->Int->LB->LI->Option Bool)(av f:LB)(b:LI)(a:Bool):Option Bool:=
(SH av).bind λ(bl,bm,bn,bp,bq,br,bs,bt,bu,bv,bw,bx,bz)=>
if(Bf bz 0)then
some false
else
j27 f b a 0 0 bl bn bp bq br bs bu bv bw bx bm bt
def Rz:=Kw Sd
def Lu(j26:LB->LB->LI->Bool->Option Bool)(av f:LB)(b:LI):Option Bool:=
(Qv).bind λa=>
if(Dm (Ac av) 64)then
if((true||(Dm (Ac b) 60))||(!a))then
some a
else
j26 av f b a
else
(ED f).bind λda=>
if((da||(Dm (Ac b) 60))||(!a))then
some a
else
j26 av f b a
def Kh:=Lu Rz
def Im:Option Bool:=
if((((geq z 1)||(geq z 2))&&(Mf d 1))&&(xI d 6))then
some ((((((geq B 8)||(geq B 16))||(geq B 24))&&(Mf J 1))&&(xI J 1048576))&&(Mf U 1))
else
some (((false&&(Mf J 1))&&(xI J 1048576))&&(Mf U 1))
def Up:Option Int:=
some (aE 1 (Cx (Bo 256 z) 245))
def Ni:Option (LI):=
some D
def Np:=Ni
def Jh(j6:LI->Option (LI))(Ps:Int->LI->Option (LI))(a f:Int)(b:LI):Option (LI):=
if(Dm f 0)then
(Up a).bind λg=>
(Dh b ([(Ha f g)]:LI)).bind λh=>
(Up a).bind λk=>
Ps (Am f k) h
else
j6 b
def Ez:Nat->Int->LI->Option (LI)
|0,_,_=>none
|c+1,d,e=>Jh Np (Ez c) z d e
def FF a:=Ez a Ba
def FO(j4:Int->Int->LI->Option (LI))(a m:Int):Option (LI):=
j4 a m ([]:LI)
def Js:=FO FF
def Uu(h a k f b:Int):Option Bool:=
(
(Jm (Bf a 0)).bind λ_=>
(
if(Dm b (Cx 4000 a))then
some true
else
(Js f b).bind λg=>
some (Dm (Ac g) 1000)))
def Jy:Option Int:=
(Im z d B J U).bind λc=>
if(!c)then
some 8
else
(Uu z d B J U).bind λe=>
if e then
some 8
else
some 0
def Dp(a f g h k:Int)(b:LB):Option Int:=
if((b==([]:LB)) !=(geq a 1))then
some 26
else
some 0
def EK:Option Int:=
if(Dm z 100000)then
some 8
else
some 0
def DX:=EK
def FQ:Option Int:=
(Ak Ay0 o9).bind λz=>
Ayz (Ae p9 z) (Ae o9 1)
def FV S9:=FQ S9
def Tv:Option Int:=
if(Cm Azd (Ac Azk))then
(Ak Azk Azd).bind λz=>
if(Cm z 5)then
some 8
else
(Ak Azk Azd).bind λc=>
if(Dm c 100000)then
some 8
else
Ayz Ay7 Azd
else
Az3 Ay7
def Jk:Nat->Int->Int->Option Int
|0,_,_=>none
|z+1,c,d=>Tv (FV (Jk z) D) DX D c d
def GB a:=Jk a Ba
def Tj(j6:LI->Int->Int->Option Int)(a:LI):Option Int:=
if((Cm (Ac a) 1)||(Dm (Ac a) 1000))then
some 8
else
j6 a 0 0
def Hg:=Tj GB
def Fu(g h k a b:Int):Option (LI):=
(Js a b).bind λf=>
some f
def Fx(f a b g h:Int):Option (Int×Int):=
some (a,b)
def MK:Option Int:=
some (Cx (Bo z d) 8)
def JN:Option Int:=
(Fx d B J U p8).bind λ(c,e)=>
(MK c e).bind λi=>
some (Bo z i)
def IE:=JN
def Vo(j6:Int->Int->Int->Int->Int->Int->Option Int)(Ps:Int->Int->Option Int)(n a b f g h:Int)(k:LI)(m o:Int):Option Int:=
if(Cm o n)then
(Ak k o).bind λ_=>
(Ak k o).bind λw=>
Ps (Ae m w) (Ae o 1)
else
j6 m a b f g h
def Kl:Nat->Int->Int->Option Int
|0,_,_=>none
|c+1,e,i=>Vo IE (Kl c) z d B J U p8 l6 e i
def aV n a b f g h k:=Kl n a b f g h k Ba
def JC(j4:Int->Int->Int->Int->Int->Int->LI->Int->Int->Option Int)(a b f g h n:Int):Option Int:=
(Fu a b f g h).bind λk=>
j4 n a b f g h k 0 0
def Ur:=JC aV
abbrev Fo:=Option (Int×Int)
def aG:Fo:=
some (z,0)
def aS:=aG
def Tu(j6:Int->Fo)(Ps:Int->Int->Fo)(a:LB)(b f:Int):Fo:=
if(Cm f 4)then
(Ak a f).bind λg=>
if(Mf g 128)then
some (0,12)
else
(Ak a f).bind λh=>
Ps (Ae (Bo 128 b) (Ad h:Int)) (Ae f 1)
else
j6 b
def Jj:Nat->Int->Int->Fo
|0,_,_=>none
|z+1,d,e=>Tu aS (Jj z) c d e
def FJ a:=Jj a Ba
def FZ(j4:LB->Int->Int->Fo)(a:LB):Fo:=
if(Bf (Ac a) 4)then
some (0,2)
else
j4 a 0 0
def AB:=FZ FJ
abbrev Gs:=Option (Int×Int)
def JL:Gs:=
if(Dm z 4000)then
some (0,4)
else
if(Cm (Ac c) z)then
some (0,24)
else
(Ak c 5).bind λd=>
if(geq d 16)then
(Bl c (Am z 10) z).bind λe=>
(Bl c 3 10).bind λi=>
(Dh ([51,68,73]:LB) i).bind λj=>
if(e !=j)then
some (0,12)
else
some (z,0)
else
some (z,0)
def Uz:=JL
def IK(j6:LB->Int->Gs)(a:LB)(b:Int):Gs:=
(Ak a 5).bind λo=>
if(geq o 16)then
j6 a (Ae (Ae 10 b) 10)
else
j6 a (Ae 10 b)
def Vl:=IK Uz
def IY(j5:LB->Int->Gs)(a:LB):Gs:=
if(Cm (Ac a) 10)then
some (0,24)
else
(Bl a 6 10).bind λp=>
(AB p).bind λ(b,f)=>
(Ak a 3).bind λu=>
if(Cm u 2)then
if true then
if true then
if(true||(Bf f 0))then
some (0,12)
else
j5 a b
else
(Ak a 5).bind λv=>
if(Bf v 0)then
(Ak a 5).bind λw=>
if(Bf w 16)then
if(true||(Bf f 0))then
some (0,12)
else
j5 a b
else
(Ak a 3).bind λy=>
if((Bf y 4)||(Bf f 0))then
some (0,12)
else
j5 a b
else
if(false||(Bf f 0))then
some (0,12)
else
j5 a b
else
(Ak a 4).bind λaa=>
if(Bf aa 0)then
if(true||(Bf f 0))then
some (0,12)
else
j5 a b
else
(Ak a 5).bind λab=>
if(Bf ab 0)then
(Ak a 5).bind λac=>
if(Bf ac 16)then
if(true||(Bf f 0))then
some (0,12)
else
j5 a b
else
(Ak a 3).bind λad=>
if((Bf ad 4)||(Bf f 0))then
some (0,12)
else
j5 a b
else
if(false||(Bf f 0))then
some (0,12)
else
j5 a b
else
(Ak a 3).bind λae=>
if(Dm ae 4)then
if true then
if(true||(Bf f 0))then
some (0,12)
else
j5 a b
else
(Ak a 5).bind λaf=>
if(Bf af 0)then
(Ak a 5).bind λag=>
if(Bf ag 16)then
if(true||(Bf f 0))then
some (0,12)
else
j5 a b
else
(Ak a 3).bind λah=>
if((Bf ah 4)||(Bf f 0))then
some (0,12)
else
j5 a b
else
if(false||(Bf f 0))then
some (0,12)
else
j5 a b
else
(Ak a 4).bind λai=>
if(Bf ai 0)then
if(true||(Bf f 0))then
some (0,12)
else
j5 a b
else
(Ak a 5).bind λaj=>
if(Bf aj 0)then
(Ak a 5).bind λak=>
if(Bf ak 16)then
if(true||(Bf f 0))then
some (0,12)
else
j5 a b
else
(Ak a 3).bind λal=>
if((Bf al 4)||(Bf f 0))then
some (0,12)
else
j5 a b
else
if(false||(Bf f 0))then
some (0,12)
else
j5 a b
def KH:=IY Vl
def IQ(j4:LB->Gs)(a:LB):Gs:=
if(Cm (Ac a) 3)then
some (0,6)
else
(Bl a 0 3).bind λam=>
if(am !=([73,68,51]:LB))then
some (0,6)
else
j4 a
def CV:=IQ KH
def OJ:Option UInt64:=
some j
def PR:=OJ
def AL:Option UInt64:=
if(Mf l7 0)then
(Ak Ay4 l7).bind λz=>
Ayv (Ae (Bo 256 o8) (Ad z:UInt64)) (Am l7 1)
else
Ayu o8
def My:Nat->UInt64->Int->Option UInt64
|0,_,_=>none
|z+1,d,e=>AL PR (My z) c d e
def PC a:=My a Ba
def PA(j4:LB->UInt64->Int->Option UInt64)(a:LB):Option UInt64:=
j4 a 0 (Am (Ac a) 1)
def Dj:=PA PC
def Ue:Option (Int×Int×Bool):=
(Bl c 12 16).bind λz=>
(Dj z).bind λd=>
(Bl c 16 20).bind λe=>
(Dj e).bind λi=>
if(((Cm d 32)||(Dm d 3032))||(Dm i 1000))then
some (0,0,false)
else
some ((Am (Ad d:Int) 32),(Ad i:Int),true)
def BF:Option (LB):=
some c
def AQ:=BF
def Qn(j6:LB->Option (LB))(Ps:UInt64->Int->LB->Option (LB))(b:Int)(f:UInt64)(g:Int)(a:LB):Option (LB):=
if(Cm g b)then
(Dh a ([(Ad (BY f 256):UInt8)]:LB)).bind λh=>
Ps (Cx f 256) (Ae g 1) h
else
j6 a
def Hk:Nat->UInt64->Int->LB->Option (LB)
|0,_,_,_=>none
|c+1,d,e,i=>Qn AQ (Hk c) z d e i
def BC b:=Hk b Ba
def BN(j4:Int->UInt64->Int->LB->Option (LB))(k:UInt64)(b:Int):Option (LB):=
j4 b k 0 ([]:LB)
def Dz:=BN BC
def Qg:Option (LB):=
(Dz 2000 4).bind λc=>
(Dh ([(65:UInt8),(80:UInt8),(69:UInt8),(84:UInt8),(65:UInt8),(71:UInt8),(69:UInt8),(88:UInt8)]:LB) c).bind λe=>
(Dz (Ad (Ae z 32):UInt64) 4).bind λi=>
(Dh e i).bind λA=>
(Dz (Ad d:UInt64) 4).bind λB=>
(Dh A B).bind λC=>
(Dz j 4).bind λD=>
(Dh C D).bind λE=>
(mkI (8:Int) (0:UInt8)).bind λF=>
(Dh E F).bind λG=>
some G
def Ul:Option (LB):=
(Qg z d 2684354560).bind λc=>
some c
def Kt:Option (LB):=
if C then
(Qg z d 2147483648).bind λc=>
some c
else
(Qg z d 0).bind λe=>
some e
abbrev Km:=Option (Int×Int)
def FU:Km:=
if(Cm (Ac c) (Ae 64 z))then
some (0,24)
else
(Bl c (Am (Ae 64 z) 32) (Ae 64 z)).bind λe=>
(Kt z d true).bind λi=>
if(e !=i)then
some (0,12)
else
some ((Ae 64 z),0)
def GF:=FU
def FL(j4:LB->Int->Int->Km)(a:LB):Km:=
if(Cm (Ac a) 32)then
some (0,24)
else
(Bl a 0 32).bind λk=>
(Ue k).bind λ(b,f,m)=>
if(!m)then
some (0,12)
else
(Bl a 0 32).bind λn=>
(Ul b f).bind λo=>
if(n !=o)then
some (0,12)
else
j4 a b f
def FT:=FL GF
def FH(j3:LB->Km)(a:LB):Km:=
if(Cm (Ac a) 8)then
some (0,6)
else
(Bl a 0 8).bind λp=>
if(p !=([65,80,69,84,65,71,69,88]:LB))then
some (0,6)
else
j3 a
def Zx:=FH FT
abbrev Ft:=Option (LI×Int)
def FR(S9:Int->LI->Ft)(a:LB)(b:Int)(f:LI)(g h:Int):Ft:=
if(geq h 6)then
some (f,0)
else
if(Bf h 0)then
some (([]:LI),h)
else
if(Dm (Ae b g) 4000)then
some (([]:LI),4)
else
(Dh f ([g]:LI)).bind λm=>
S9 (Ae b g) m
def Nn S9:=FR S9
def Ty(j9:Int->LI->Int->Int->Ft)(a:LB)(b:Int)(f:LI):Ft:=
(Bl a b (Ac a)).bind λn=>
(CV n).bind λ(o,k)=>
if(geq k 6)then
(Bl a b (Ac a)).bind λp=>
(Zx p).bind λ(u,v)=>
j9 b f u v
else
j9 b f o k
def Nd:Nat->Int->LI->Ft
|0,_,_=>none
|z+1,d,e=>Ty (Nn (Nd z) c) c d e
def aU a:=Nd a Ba
def ZY(j6:LB->Int->LI->Ft)(a:LB):Ft:=
j6 a 0 ([]:LI)
def OP:=ZY aU
abbrev Fz:=Option (Int×Int)
def FG:Fz:=
some (d,z)
def GD:=FG
def Ti(j6:Int->Int->Fz)(Ps:Int->Int->Fz)(a:Int)(b:LI)(f g:Int):Fz:=
if(Cm g (Ac b))then
(Ak b g).bind λ_=>
(Ak b g).bind λh=>
Ps (Ae f h) (Ae g 1)
else
j6 a f
def Jc:Nat->Int->Int->Fz
|0,_,_=>none
|c+1,d,e=>Ti GD (Jc c) z l6 d e
def Tk a b:=Jc a b Ba
def FP(j4:Int->LI->Int->Int->Fz)(k:LB):Fz:=
(OP k).bind λ(b,a)=>
j4 a b 0 0
def Nb:=FP Tk
def Pq:Option Bool:=
if(Cm (Ac c) (Ac i))then
(Bl i 0 (Ac c)).bind λz=>
some (c==z)
else
some false
def JJ:Option UInt32:=
if Ayw then
some (Yg (Cx V 2) 3988292384)
else
some (Cx V 2)
def IM:=JJ
def IB(j2:UInt32->Bool->Option UInt32)(a:UInt32)(f:Int):Option UInt32:=
if(geq f 1)then
j2 a (!(geq (BY a 2) 1))
else
j2 a (geq (BY a 2) 1)
def EB:=IB IM
def JU:Option UInt32:=
some V
def KK:=JU
def Wh(j6:UInt32->Option UInt32)(Ps:UInt32->UInt8->Int->Option UInt32)(a:UInt32)(b:UInt8)(f:Int):Option UInt32:=
if(Cm f 8)then
(EB a (Ad (BY b 2):Int)).bind λg=>
Ps g (Cx b 2) (Ae f 1)
else
j6 a
def Kj:Nat->UInt32->UInt8->Int->Option UInt32
|0,_,_,_=>none
|q+1,a,b,f=>Wh KK (Kj q) a b f
def bN:=Kj Ba
def eL(j4:UInt32->UInt8->Int->Option UInt32)(h:UInt32)(k:UInt8):Option UInt32:=
j4 h k 0
def SM:=eL bN
def DI:Option UInt32:=
some V
def EY:=DI
def Qy(j6:UInt32->Option UInt32)(Ps:UInt32->Int->Option UInt32)(a:LB)(b:UInt32)(f:Int):Option UInt32:=
if(Cm f (Ac a))then
(Ak a f).bind λg=>
(SM b g).bind λh=>
Ps h (Ae f 1)
else
j6 b
def Ie:Nat->UInt32->Int->Option UInt32
|0,_,_=>none
|z+1,d,e=>Qy EY (Ie z) c d e
def DU a:=Ie a Ba
def DD(j4:LB->UInt32->Int->Option UInt32)(k:UInt32)(a:LB):Option UInt32:=
j4 a k 0
def MA:=DD DU
def Sc:Option UInt32:=
(MA 4294967295 c).bind λz=>
some (Am 4294967295 z)
abbrev Gq:=Option (Int×Int×Int×Int×Int×Int)
def JF:Gq:=
(Im (Ad j:Int) (Ad X:Int) (Ad o8:Int) (Ad Ay5:Int) (Ad Ay6:Int)).bind λz=>
if(!z)then
some (0,0,0,0,0,12)
else
(Uu (Ad j:Int) (Ad X:Int) (Ad o8:Int) (Ad Ay5:Int) (Ad Ay6:Int)).bind λc=>
if c then
some (0,0,0,0,0,4)
else
some ((Ad j:Int),(Ad X:Int),(Ad o8:Int),(Ad Ay5:Int),(Ad Ay6:Int),0)
def JQ:=JF
def JG(j6:UInt64->UInt64->UInt64->UInt64->UInt64->Gq)(a:LB):Gq:=
(Bl a 4 6).bind λu=>
(Bl a 6 8).bind λp=>
(Bl a 8 10).bind λo=>
(Bl a 10 14).bind λn=>
(Bl a 14 18).bind λm=>
(
(Dj u).bind λk=>
(
(Dj p).bind λh=>
(
(Dj o).bind λg=>
(
(Dj n).bind λf=>
(
(Dj m).bind λb=>
(
j6 k h g f b))))))
def JX:=JG JQ
def IX(j5:LB->Gq)(a:LB):Gq:=
if(Cm (Ac a) 22)then
some (0,0,0,0,0,24)
else
(Bl a 18 22).bind λy=>
(Bl a 0 18).bind λaa=>
(Dj y).bind λab=>
(Sc aa).bind λac=>
if(Bf ab (Ad ac:UInt64))then
some (0,0,0,0,0,22)
else
j5 a
def JT:=IX JX
def IU(j4:LB->Gq)(a:LB):Gq:=
(Bl a 0 (Ha 4 (Ac a))).bind λad=>
(Bl ([84,84,65,49]:LB) 0 (Ha 4 (Ac a))).bind λae=>
if(ad !=ae)then
some (0,0,0,0,0,12)
else
j4 a
def Oo:=IU JT
abbrev Qw:=Option (Int×Int×Int×Int×Int×Int×Int)
def BA:Qw:=
(Oo i).bind λ(c,d,e,j,A,B)=>
if(geq B 24)then
some (0,0,0,0,0,0,(-1:Int))
else
some ((Ae z 22),c,d,e,j,A,B)
def AO:=BA
def AR(j2:Int->LB->Qw)(f:LB):Qw:=
(Nb f).bind λ(b,g)=>
if(geq g 24)then
some (0,0,0,0,0,0,(-1:Int))
else
if(Bf g 0)then
some (0,0,0,0,0,0,g)
else
(Bl f b (Ac f)).bind λa=>
(Pq a ([73,68,51]:LB)).bind λu=>
if u then
some (0,0,0,0,0,0,(-1:Int))
else
(Pq a ([65,80,69,84,65,71,69,88]:LB)).bind λv=>
if v then
some (0,0,0,0,0,0,(-1:Int))
else
j2 b a
def Wb:=AR AO
def JW:Option UInt64:=
if Ayw then
some (Yg (Bo j 2) 4823603603198064275)
else
some (Bo j 2)
def Va:=JW
def JB(j2:UInt64->Bool->Option UInt64)(a:UInt64)(f:Int):Option UInt64:=
if(geq f 1)then
j2 a (!(Mf a 9223372036854775808))
else
j2 a (Mf a 9223372036854775808)
def EC:=JB Va
def KB:Option UInt64:=
some j
def ID:=KB
def Wm:Option UInt64:=
if(Dm q9 0)then
(Jm (Bf q9 0)).bind λ_=>
(EC Azq (Ho (Cx (Ad Ay8:Int) q9) 2)).bind λz=>
Ayv z (Cx q9 2)
else
Ayu Azq
def Kk:Nat->UInt64->Int->Option UInt64
|0,_,_=>none
|z+1,c,d=>Wm ID (Kk z) Ay8 c d
def bI b:=Kk b Ba
def bV(j4:UInt8->UInt64->Int->Option UInt64)(h:UInt64)(b:UInt8):Option UInt64:=
j4 b h 128
def RI:=bV bI
def DT:Option UInt64:=
some j
def DS:=DT
def Rg:Option UInt64:=
if(Cm l7 (Ac Ay4))then
(Ak Ay4 l7).bind λz=>
(RI o8 z).bind λc=>
Ayv c (Ae l7 1)
else
Ayu o8
def Ic:Nat->UInt64->Int->Option UInt64
|0,_,_=>none
|z+1,d,e=>Rg DS (Ic z) c d e
def XV a:=Ic a Ba
def WJ(j4:LB->UInt64->Int->Option UInt64)(k:UInt64)(a:LB):Option UInt64:=
j4 a k 0
def Xu:=WJ XV
def SG:Option UInt64:=
(Xu 0 c).bind λz=>
some z
def Oq:Option (LB):=
(SG c).bind λz=>
(Dz z 8).bind λd=>
some d
abbrev Dt:=Option (LI×Int)
def JM:Dt:=
(Hg D).bind λz=>
if(Bf z 0)then
some (([]:LI),12)
else
some (D,0)
def Vx:=JM
def Vq(j8:LI->Dt)(S9:Int->LI->Dt)(b:LB)(a g:Int)(f:LI):Dt:=
if(Cm g a)then
(Bl b (Bo 4 g) (Ae (Bo 4 g) 4)).bind λk=>
(Dj k).bind λm=>
(Dh f ([(Ad m:Int)]:LI)).bind λn=>
S9 (Ae g 1) n
else
j8 f
def Ki:Nat->Int->LI->Dt
|0,_,_=>none
|d+1,e,i=>Vq Vx (Ki d) c z e i
def JZ b a:=Ki b a Ba
def IF(j6:LB->Int->Int->LI->Dt)(b:LB)(a:Int):Dt:=
j6 b a 0 ([]:LI)
def IW:=IF JZ
def IG(j5:LB->Int->Dt)(b:LB)(a:Int):Dt:=
if((Cm a 1)||(Dm a 1000))then
some (([]:LI),2)
else
if(Cm (Ac b) (Ae (Bo 4 a) 4))then
some (([]:LI),24)
else
(Bl b (Bo 4 a) (Ae (Bo 4 a) 4)).bind λo=>
(Bl b 0 (Bo 4 a)).bind λp=>
(Dj o).bind λu=>
(Sc p).bind λv=>
if(Bf u (Ad v:UInt64))then
some (([]:LI),22)
else
j5 b a
def Us:=IG IW
abbrev Jl:=Option (Int×LI×Int)
def EL:Jl:=
if(geq d 24)then
some (0,([]:LI),(-1:Int))
else
some ((Ae (Ae z (Bo 4 (Ac l6))) 4),l6,d)
def DV:=EL
def EX(j4:Int->Int->LI->Jl)(a:LB)(b k m n o f:Int):Jl:=
(Bl a f (Ac a)).bind λp=>
(Fu b k m n o).bind λu=>
(Us p (Ac u)).bind λ(h,g)=>
j4 f g h
def Dl:=EX DV
def Ig(j3:LB->Int->Int->Int->Int->Int->Int->Jl)(a:LB)(b k m n o:Int)(v:LB):Jl:=
if(geq b 2)then
if(Cm (Ac a) 8)then
some (0,([]:LI),(-1:Int))
else
(Bl a 0 8).bind λw=>
(Oq v).bind λy=>
if(w !=y)then
some (0,([]:LI),26)
else
j3 a b k m n o 8
else
j3 a b k m n o 0
def Ew:=Ig Dl
def SF:Option (UInt64×Int):=
if(Dm (Ac q8) 100000)then
some (0,4)
else
(Xu j q8).bind λz=>
some (z,0)
def VE:Option (UInt64×Int):=
(SF 0 c).bind λ(z,d)=>
some (z,d)
def gE:Option (LX):=
some e
def fZ:=gE
def PQ(S9:UInt64->Int->LX->Option (LX))(b:UInt64)(f:Int)(a:LX)(g:Int32):Option (LX):=
(Ak a f).bind λ_=>
(Lp a f g).bind λh=>
S9 (Cx b 256) (Ae f 1) h
def Zz S9:=PQ S9
def Zr(j8:UInt64->Int->LX->Int32->Option (LX))(j10:LX->Option (LX))(b:UInt64)(f:Int)(a:LX):Option (LX):=
if(Cm f 8)then
if(Dm (Ad (BY b 256):Int32) 127)then
j8 b f a (Am (Ad (BY b 256):Int32) 256)
else
j8 b f a (Ad (BY b 256):Int32)
else
j10 a
def Kb:Nat->UInt64->Int->LX->Option (LX)
|0,_,_,_=>none
|q+1,b,f,a=>Zr (Zz (Kb q)) fZ b f a
def iW:=Kb Ba
def kH(j6:UInt64->Int->LX->Option (LX))(k:UInt64):Option (LX):=
j6 k 0 (List.replicate 16 (0:Int32))
def ZH:=kH iW
def Ui:Option (LX×Int):=
if(Dm (Ac c) 64)then
some (([(0:Int32),(0:Int32),(0:Int32),(0:Int32),(0:Int32),(0:Int32),(0:Int32),(0:Int32),(0:Int32),(0:Int32),(0:Int32),(0:Int32),(0:Int32),(0:Int32),(0:Int32),(0:Int32)]:LX),2)
else
(VE c).bind λ(z,d)=>
(ZH z).bind λe=>
some (e,0)
def Ux:Option Int:=
if(geq z 8)then
some 128
else
if(geq z 16)then
some 32768
else
if(geq z 24)then
some 8388608
else
some 0
def AG:Option Int:=
if((Cm z 1)||(Dm z 6))then
some 2
else
(Ux d).bind λc=>
if(geq c 0)then
some 2
else
some 0
def Na:Option Int:=
(AG z d).bind λc=>
if((Bf c 0)||(Cm B 1))then
some 2
else
(Jm (Bf z 0)).bind λ_=>
if(Dm B (Cx 4000 z))then
some 2
else
some 0
def Xx:Option (LB):=
(Sc c).bind λz=>
(Dh ([]:LB) c).bind λd=>
(Dh d ([(Ad z:UInt8),(Ad (Cq z (GI.toZ (8:UInt64)).toNat):UInt8),(Ad (Cq z (GI.toZ (16:UInt64)).toNat):UInt8),(Ad (Cq z (GI.toZ (24:UInt64)).toNat):UInt8)]:LB)).bind λe=>
some e
def Po:Option Int:=
if(Cm (Ac c) 5)then
some 24
else
if(Dm (Ac c) 41254)then
some 4
else
(Bl c 0 (Am (Ac c) 4)).bind λz=>
(Xx z).bind λd=>
if(d !=c)then
some 22
else
some 0
def Mq:Option (Int×Int×UInt64×UInt64):=
some (10,10,16384,16384)
def aL:Option UInt64:=
some j
def ZX:=aL
def Tw:Option UInt64:=
if(Cm l7 Z)then
Ayv (Bo o8 2) (Ae l7 1)
else
Ayu o8
def Ja:Nat->UInt64->Int->Option UInt64
|0,_,_=>none
|c+1,d,e=>Tw ZX (Ja c) z d e
def aI b:=Ja b Ba
def ZU(j4:Int->UInt64->Int->Option UInt64)(b:Int):Option UInt64:=
j4 b 1 0
def Fv:=ZU aI
def GV(a g:Int)(h k:UInt64)(b:UInt32):Option Bool:=
(Fv a).bind λf=>
some (Cm (Ad b:UInt64) f)
def DN(a g:Int)(h k:UInt64)(b:UInt32):Option UInt32:=
(Fv a).bind λf=>
some (Ad (Am (Ad b:UInt64) f):UInt32)
abbrev Yk:=Option (Int×UInt64)
def KE:Yk:=
if(Cm z 24)then
(Fv (Ae z 5)).bind λc=>
if(Dm (Am (Ae j X) (Cx j 16)) c)then
some ((Ae z 1),(Am (Ae j X) (Cx j 16)))
else
some (z,(Am (Ae j X) (Cx j 16)))
else
some (z,(Am (Ae j X) (Cx j 16)))
def Vg:=KE
def IZ(j2:Int->UInt64->UInt64->Yk)(b:Int)(a f:UInt64):Yk:=
if(Dm b 0)then
(Fv (Ae b 4)).bind λh=>
if(Cm (Am (Ae a f) (Cx a 16)) h)then
some ((Am b 1),(Am (Ae a f) (Cx a 16)))
else
j2 b a f
else
j2 b a f
def Uk:=IZ Vg
abbrev Tr:=Option (Int×Int×UInt64×UInt64)
def EA(f:UInt32)(g a:Int)(h b:UInt64)(w:Int)(y:UInt64):Tr:=
(Uk g h (Ad f:UInt64)).bind λ(aa,ab)=>
some (aa,w,ab,y)
def Ra:=EA
def CN(j2:UInt32->Int->Int->UInt64->UInt64->Int->UInt64->Tr)(g a:Int)(h b:UInt64)(f:UInt32):Tr:=
(GV g a h b f).bind λo=>
if(!o)then
(
(
(DN g a h b f).bind λk=>
(Uk a b (Ad k:UInt64)).bind λ(m,n)=>
j2 f g a h b m n))
else
j2 f g a h b a b
def Xr:=CN Ra
abbrev Fa:=Option (Int×Int×UInt64×UInt64)
def XR:Fa:=
some (z,d,j,X)
def WH:=XR
def DY(j6:Int->Int->UInt64->UInt64->Fa)(Ps:Int->Int->Int->UInt64->UInt64->Fa)(a:Int)(b:LU)(m f g:Int)(h k:UInt64):Fa:=
if(Cm m (Ac b))then
(Ak b m).bind λn=>
(Xr f g h k n).bind λ(o,p,u,v)=>
Ps (Ae m a) o p u v
else
j6 f g h k
def Lw:Nat->Int->Int->Int->UInt64->UInt64->Fa
|0,_,_,_,_,_=>none
|c+1,d,e,i,j,A=>DY WH (Lw c) z Y d e i j A
def YQ a b:=Lw a b Ba
def DA(j4:Int->LU->Int->Int->Int->UInt64->UInt64->Fa)(a:Int)(b:LU):Fa:=
(Mq).bind λ(w,y,aa,ab)=>
(Jm (Bf a 0)).bind λ_=>
j4 a b (Ho (Ac b) a) w y aa ab
def Pm:=DA YQ
def QM:Option Int:=
some (Ho z 2)
def QZ:=QM
def AA:Option Int:=
if(Cm Ay7 (Ho p9 8))then
Ayz (Cx o9 2) (Ae Ay7 1)
else
Ayy o9
def Nc:Nat->Int->Int->Option Int
|0,_,_=>none
|c+1,d,e=>AA QZ (Nc c) z d e
def QO a:=Nc a Ba
def QQ(j4:Int->Int->Int->Option Int)(g:LB)(k a:Int):Option Int:=
(Ak g (Cx a 8)).bind λh=>
j4 a (Ad h:Int) 0
def La:=QQ QO
abbrev Ec:=Option (LB×Int)
def MF:Ec:=
(Ak i (Cx B 8)).bind λ_=>
(Ak i (Cx B 8)).bind λc=>
(Ak i (Cx B 8)).bind λ_=>
(Lp i (Cx B 8) (Ae c (Ad (Bo z d):UInt8))).bind λe=>
some (e,(Ae B 1))
def Xs:=MF
def Ym(j8:Int->Int->Int->LB->Ec)(S9:Int->Int->Ec)(b a:Int)(f:LB)(g h:Int):Ec:=
if(Cm h (Ho a 8))then
S9 (Bo g 2) (Ae h 1)
else
j8 b g a f
def Lo:Nat->Int->Int->Ec
|0,_,_=>none
|c+1,e,j=>Ym Xs (Lo c) z d i e j
def ME b a f:=Lo b a f Ba
def MM(j6:Int->Int->LB->Int->Int->Ec)(b a:Int)(f:LB):Ec:=
j6 b a f 1 0
def Xv:=MM ME
def MG(j5:Int->Int->LB->Ec)(k:LB)(a b:Int):Ec:=
if(geq (Ho a 8) 0)then
(Dh k ([(0:UInt8)]:LB)).bind λo=>
j5 b a o
else
j5 b a k
def Wu:=MG Xv
abbrev Eg:=Option (LB×Int)
def VW:Eg:=
some (i,z)
def VH:=VW
def Qm(j6:Int->LB->Eg)(Ps:Int->Int->LB->Eg)(f:Int)(g:LB)(h k a:Int)(b:LB):Eg:=
if(Cm k f)then
(La g h k).bind λm=>
(Wu b a m).bind λ(n,o)=>
Ps (Ae k 1) o n
else
j6 a b
def Hm:Nat->Int->Int->LB->Eg
|0,_,_,_=>none
|c+1,d,e,j=>Qm VH (Hm c) z i A d e j
def VF f g h:=Hm f g h Ba
def VY(j4:Int->LB->Int->Int->Int->LB->Eg)(g:LB)(h p f:Int):Eg:=
j4 f g h p 0 ([]:LB)
def JH:=VY VF
def aP:Option UInt64:=
some j
def aB:=aP
def Tt:Option UInt64:=
if(Mf l7 0)then
(La Ay4 Azi (Ae Z l7)).bind λz=>
Ayv (Ae (Bo 2 o8) (Ad z:UInt64)) (Am l7 1)
else
Ayu o8
def Jb:Nat->UInt64->Int->Option UInt64
|0,_,_=>none
|c+1,d,e=>Tt aB (Jb c) z i A d e
def FM b f g:=Jb b f g Ba
def FW(j4:Int->LB->Int->UInt64->Int->Option UInt64)(f:LB)(g b m:Int):Option UInt64:=
j4 b f g 0 (Am m 1)
def Rn:=FW FM
abbrev Hh:=Option (Int×Int)
def MP(b a:Int)(g:LB)(f:Int):Hh:=
if(geq a 48)then
some (a,(Ae b a))
else
if(Mf (Ae b a) f)then
some ((-1:Int),0)
else
some (a,(Ae (Ae b a) 1))
def Yl:=MP
def Yh(j6:Int->Int->LB->Int->Hh)(Ps:Int->Hh)(b:Int)(g:LB)(f a:Int):Hh:=
if((Cm (Ae b a) f)&&(Cm a 48))then
(La g f (Ae b a)).bind λh=>
if(geq h 1)then
Ps (Ae a 1)
else
j6 b a g f
else
j6 b a g f
def Lg:Nat->Int->Hh
|0,_=>none
|c+1,d=>Yh Yl (Lg c) z i A d
def fY b g f:=Lg b g f Ba
def gH(j4:Int->LB->Int->Int->Hh)(g:LB)(f b:Int):Hh:=
j4 b g f 0
def UI:=gH fY
def CH:Option Int:=
(Fv Z).bind λz=>
(Jm (Bf z 0)).bind λ_=>
some (Ad (Ha 48 (Cx (Ad V:UInt64) z)):Int)
abbrev Zu:=Option (UInt32×Int×Int)
def Xz:Zu:=
if((Cm d 0)||(Cm (Am A B) F))then
some (0,0,24)
else
(Rn i A B F).bind λc=>
if(Cm d 48)then
(Fv z).bind λe=>
some ((Ad (Ae (Bo (Ad d:UInt64) e) c):UInt32),(Ae B F),0)
else
(CH (Ad c:UInt32) z).bind λj=>
if(Cm j d)then
some (0,0,12)
else
some ((Ad c:UInt32),(Ae B F),0)
def Yj:=Xz
def MB(j2:Int->Int->Int->LB->Int->Int->Zu)(h:LB)(f n g:Int):Zu:=
if(Mf n f)then
some (0,0,24)
else
(UI h f n).bind λ(a,b)=>
if(geq a 48)then
j2 g a b h f 32
else
j2 g a b h f g
def HC:=MB Yj
def GY(g:LB)(b a f n:Int)(v w:UInt64):Option (UInt32×Int×Int):=
if(Mf a b)then
some (0,0,24)
else
(La g b a).bind λo=>
if(geq o 0)then
if(Cm (Am (Am b a) 1) f)then
some (0,0,24)
else
(Rn g b (Ae a 1) f).bind λp=>
some ((Ad p:UInt32),(Ae (Ae a 1) f),0)
else
(HC g b (Ae a 1) n).bind λ(h,u,k)=>
if(Bf k 0)then
some (0,0,k)
else
(Fv f).bind λm=>
if(Dm (Ae (Ad h:UInt64) m) 4294967295)then
some (0,0,12)
else
some ((Ad (Ae (Ad h:UInt64) m):UInt32),u,0)
abbrev Bn:=Option (LU×Int)
def aQ:Bn:=
some (Y,0)
def aF:=aQ
def To(j18:LU->Bn)(Mi:Int->Bn)(a:LB)(b:LU)(m:Int):Bn:=
if(Cm m (Bo 8 (Ac a)))then
(La a (Bo 8 (Ac a)) m).bind λn=>
if(Bf n 0)then
some (b,12)
else
Mi (Ae m 1)
else
j18 b
def Jf:Nat->Int->Bn
|0,_=>none
|z+1,d=>To aF (Jf z) c Y d
def FN a b:=Jf a b Ba
def FI(j16:LB->LU->Int->Bn)(f:Int)(a:LB)(b:LU):Bn:=
if(Dm (Am (Bo 8 (Ac a)) f) 7)then
some (b,12)
else
j16 a b f
def Tz:=FI FN
def FX(Abz:Int->Int->LU->Bn)(g h:Int)(a:LB)(f k:Int)(b:LU)(p u:Int)(v w:UInt64):Bn:=
(JH a (Bo 8 (Ac a)) f (Ha (Ae f 81) (Bo 8 (Ac a)))).bind λ(y,aa)=>
(GY y aa 0 p u v w).bind λ(ab,ac,o)=>
if(Bf o 0)then
some (b,o)
else
(Dh b ([ab]:LU)).bind λad=>
Abz (Ae f ac) (Ae k 1) ad
def Jd Abz:=FX Abz
def GC(j13:Int->Int->LU->Int->Int->UInt64->UInt64->Bn)(j15:Int->LB->LU->Bn)(g h:Int)(a:LB)(f k:Int)(b:LU):Bn:=
if(Cm k (Bo h g))then
(Mq).bind λ(n,ae,af,ag)=>
if(Mf k g)then
(Pm g b).bind λ(ah,ai,aj,ak)=>
j13 f k b ah ai aj ak
else
j13 f k b n ae af ag
else
j15 f a b
def Fb:Nat->Int->Int->LU->Bn
|0,_,_,_=>none
|c+1,e,j,A=>GC (Jd (Fb c) z d i) Tz z d i e j A
def aA g h a:=Fb g h a Ba
def JR(j10:Int->Int->LB->Int->Int->LU->Bn)(g h:Int)(a:LB):Bn:=
j10 g h a 0 0 ([]:LU)
def CJ:=JR aA
def kI:Option (Int×Int):=
if(geq z 8)then
some (4,0)
else
if((geq z 16)||(geq z 24))then
some (5,0)
else
some (0,2)
def nW:Option (Int×LX×LX×Int):=
(kI z).bind λ(c,d)=>
if(Bf d 0)then
some (0,(List.replicate 16 (0:Int32)),(List.replicate 16 (0:Int32)),2)
else
if(geq z 16)then
some (9,e,(List.replicate 16 (0:Int32)),0)
else
some (10,e,(List.replicate 16 (0:Int32)),0)
def TZ:Option (Int×Int32×Int×LX×LX×Int):=
(nW z e).bind λ(c,d,i,j)=>
if(Bf j 0)then
some (0,0,0,(List.replicate 16 (0:Int32)),(List.replicate 16 (0:Int32)),2)
else
some (z,0,c,d,i,0)
def CX:Option Int32:=
if(geq (BY V 2) 0)then
some (Ad (Cx V 2):Int32)
else
some (Ad (Cx (lI (Ae (Ad V:Int) 1)) 2):Int32)
def Cu:Option Int32:=
some (Ad (Ad (Ad z:UInt64):UInt32):Int32)
def MS:Option Int32:=
some (Ad z:Int32)
def MC:=MS
def Xq(j6:Int->Option Int32)(Ps:Int->Int->Option Int32)(h:Int)(b f:LX)(g a:Int):Option Int32:=
if(Cm a 16)then
(Ak b a).bind λ_=>
(Ak f a).bind λ_=>
(Ak b a).bind λk=>
(Ak f a).bind λm=>
(Cu (Bo (Ad k:Int) (Ad m:Int))).bind λn=>
(Cu (Ae g (Ad n:Int))).bind λo=>
Ps (Ad o:Int) (Ae a 1)
else
j6 g
def Lk:Nat->Int->Int->Option Int32
|0,_,_=>none
|c+1,d,i=>Xq MC (Lk c) z e L d i
def fU h b f:=Lk h b f Ba
def gG(j4:Int->LX->LX->Int->Int->Option Int32)(h:Int)(b f:LX):Option Int32:=
j4 h b f 0 0
def UD:=gG fU
def II:Option Int32:=
(UD z e L).bind λc=>
(Cu (Ae (Ad c:Int) (Cx G 2))).bind λd=>
(Jm (Bf G 0)).bind λ_=>
(Jm (Bf G 0)).bind λ_=>
if(Cm (Ho (Ad d:Int) G) 0)then
some (Ad (Am (Cx (Ad d:Int) G) 1):Int32)
else
some (Ad (Cx (Ad d:Int) G):Int32)
def Wj:=II
def IP(j2:Int->LX->LX->Int->Option Int32)(b:Int)(f g:LX):Option Int32:=
if(geq b 9)then
j2 b f g 512
else
j2 b f g 1024
def DF:=IP Wj
def EN:Option Int32:=
if(geq z 0)then
some 4
else
if(xI z 3)then
some 2
else
some 1
def Uc:Option Int32:=
if(Cm I 0)then
some (-1:Int32)
else
if(Dm I 0)then
some 1
else
some 0
abbrev Ef:=Option (Int×LX×LX)
def WA:Ef:=
some (z,e,L)
def VV:=WA
def Py(j6:Int->LX->LX->Ef)(Ps:Int->LX->Ef)(h:Int32)(g:Int)(b:LX)(a:Int)(f:LX):Ef:=
if(Cm a 16)then
(Ak f a).bind λ_=>
(Ak b a).bind λ_=>
(Ak f a).bind λk=>
(Ak b a).bind λm=>
(EN a).bind λn=>
(Uc m).bind λo=>
(Uc h).bind λp=>
(Ak f a).bind λ_=>
(Lp f a (Ae k (Bo (Bo n o) p))).bind λu=>
Ps (Ae a 1) u
else
j6 g f b
def Hp:Nat->Int->LX->Ef
|0,_,_=>none
|z+1,c,d=>Py VV (Hp z) I G l9 c d
def VB h g b:=Hp h g b Ba
def UQ(j4:Int32->Int->LX->Int->LX->Ef)(g:Int)(v b:LX)(h:Int32):Ef:=
j4 h g b 0 v
def IH:=UQ VB
abbrev Ex:=Option (Int×LX×LX)
def CZ:Ex:=
(Ak o7 0).bind λ_=>
(Lp o7 0 I).bind λz=>
some (G,l9,z)
def CF:=CZ
def Rp(j6:Int32->Int->LX->LX->Ex)(Ps:Int->LX->Ex)(b:Int32)(f:Int)(g:LX)(h:Int)(a:LX):Ex:=
if(Dm h 0)then
(Ak a (Am h 1)).bind λ_=>
(Ak a (Am h 1)).bind λm=>
(Ak a h).bind λ_=>
(Lp a h m).bind λn=>
Ps (Am h 1) n
else
j6 b f g a
def Ii:Nat->Int->LX->Ex
|0,_,_=>none
|z+1,c,d=>Rp CF (Ii z) I G l9 c d
def XX b f g:=Ii b f g Ba
def WX(j4:Int32->Int->LX->Int->LX->Ex)(f:Int)(g o:LX)(b:Int32):Ex:=
j4 b f g 15 o
def LY:=WX XX
def Vm:Option (Int32×Int×LX×LX):=
(DF z e L).bind λc=>
(Cu (Ae (Ad l5:Int) (Ad c:Int))).bind λd=>
(IH z e L l5).bind λ(i,j,A)=>
(LY i j A d).bind λ(B,C,D)=>
some (d,B,C,D)
def CI:Option Int32:=
(Jm (Bf G 0)).bind λ_=>
(Jm (Bf G 0)).bind λ_=>
if(Cm (Ho (Bo (Am G 1) (Ad I:Int)) G) 0)then
some (Ad (Am (Cx (Bo (Am G 1) (Ad I:Int)) G) 1):Int32)
else
some (Ad (Cx (Bo (Am G 1) (Ad I:Int)) G):Int32)
def Rl:=CI
def EE(j2:Int32->Int->Option Int32)(f:Int)(b:Int32):Option Int32:=
if(geq f 5)then
j2 b 32
else
j2 b 16
def Pp:=EE Rl
def Yc(b:Int)(a:Int32)(h:Int)(k m:LX):Option Int:=
if(geq b 8)then
(Pp 4 a).bind λf=>
some (Ad f:Int)
else
(Pp 5 a).bind λg=>
some (Ad g:Int)
def Vi:Option (Int32×Int×Int32×Int×LX×LX):=
(Vm G l9 o7 l5).bind λ(c,d,e,i)=>
(Yc z I G l9 o7).bind λj=>
(Cu (Ae (Ad c:Int) j)).bind λA=>
some (A,z,A,d,e,i)
def Rb:Option Int:=
if((Cm z 1)||(Dm z 6))then
some 2
else
if(Dm (Ac e) 4000)then
some 4
else
(Jm (Bf z 0)).bind λ_=>
if(Dm (Ho (Ac e) z) 0)then
some 2
else
some 0
def VM:Option (LX):=
some e
def VD:=VM
def Qj(j8:LX->Option (LX))(S9:Int->LX->Option (LX))(a:LX)(f:Int)(b:LX):Option (LX):=
if(Mf f 0)then
(Ak b (Ae f 1)).bind λ_=>
(Ak a f).bind λk=>
(Ak b (Ae f 1)).bind λm=>
(Cu (Am (Ad m:Int) (Ad k:Int))).bind λn=>
(Ak b f).bind λ_=>
(Lp b f n).bind λo=>
S9 (Am f 1) o
else
j8 b
def Hl:Nat->Int->LX->Option (LX)
|0,_,_=>none
|z+1,c,d=>Qj VD (Hl z) e c d
def UC a:=Hl a Ba
def BS(j6:LX->Int->LX->Option (LX))(a p:LX):Option (LX):=
j6 a (Am (Ac a) 2) p
def Qb:=BS UC
def AU(j5:LX->LX->Option (LX))(a:LX):Option (LX):=
(mkI (Ac a) (0:Int32)).bind λh=>
(Jm (geq (Ac a) (Ac a))).bind λ_=>
(Ak a (Am (Ac a) 1)).bind λu=>
(Ak h (Am (Ac a) 1)).bind λ_=>
(Lp h (Am (Ac a) 1) u).bind λg=>
if(Dm (Ac a) 1)then
(Ak a (Am (Ac a) 1)).bind λv=>
(Ak a (Am (Ac a) 2)).bind λw=>
(Cu (Ae (Ad v:Int) (Cx (Ad w:Int) 2))).bind λy=>
(Ak g (Am (Ac a) 1)).bind λ_=>
(Lp g (Am (Ac a) 1) y).bind λaa=>
j5 a aa
else
j5 a g
def Wg:=AU Qb
abbrev Gm:=Option (LX×Int)
def dR:Gm:=
some (e,0)
def dZ:=dR
def KG(j6:LX->Gm)(Ps:Int->LX->Gm)(a:Int)(b:LX)(g:Int)(f:LX):Gm:=
if(Cm g (Ac b))then
(Bl b g (Ae g a)).bind λh=>
(Wg h).bind λk=>
(Dh f k).bind λm=>
Ps (Ae g a) m
else
j6 f
def Ok:Nat->Int->LX->Gm
|0,_,_=>none
|c+1,d,i=>KG dZ (Ok c) z e d i
def dF a b:=Ok a b Ba
def IL(j4:Int->LX->Int->LX->Gm)(a:Int)(b:LX):Gm:=
(Rb a b).bind λn=>
if(Bf n 0)then
(Rb a b).bind λo=>
some (([]:LX),o)
else
j4 a b 0 ([]:LX)
def CY:=IL dF
def BJ(b f:Int)(w:LX):Option (LX):=
(CY b w).bind λ(aj,ai)=>
some aj
def Pz:=BJ
def BM(C4:Int->LX->Option (LX))(a:LU)(b f:Int)(g:LX)(h:Int)(m:LX):Option (LX):=
C4 (Ae h 1) m
def AW C4:=BM C4
def AZ(Ab0:Int->LX->Int->Int32->Int->LX->LX->Option (LX))(a:LU)(h b f:Int)(g:LX)(k:Int)(ah:LX)(y:Int)(aa:Int32)(ab:Int)(ac ad:LX):Option (LX):=
Ab0 (Ae k b) ah y aa ab ac ad
def AP Ab0:=AZ Ab0
def BI(j30:Int->LX->Int->Int32->Int->LX->LX->Option (LX))(a:LU)(h b f:Int)(g:LX)(k:Int)(ae:Int32)(m:LX)(n:Int)(o:Int32)(p:Int)(u v:LX)(y:Int)(aa:Int32)(ab:Int)(ac ad:LX):Option (LX):=
(Ak m k).bind λ_=>
(Lp m k ae).bind λah=>
j30 k ah y aa ab ac ad
def BO Ab0 a h b f g:=BI (AP Ab0 a h b f g) a h b f g
def BH(j29:Int->Int32->LX->Int->Int32->Int->LX->LX->Int->Int32->Int->LX->LX->Option (LX))(j32:Int->LX->Option (LX))(a:LU)(b f:Int)(g:LX)(h k:Int)(m:LX)(n:Int)(o:Int32)(p:Int)(u v:LX):Option (LX):=
if(Cm k (Ac a))then
(Ak a k).bind λag=>
(
(CX ag).bind λaf=>
(
(Vi n o p u v af).bind λ(ae,y,aa,ab,ac,ad)=>
j29 k ae m n o p u v y aa ab ac ad))
else
j32 h m
def Ks(C4:Int->LX->Option (LX))(a:LU)(b f:Int)(g:LX)(h:Int):Nat->Int->LX->Int->Int32->Int->LX->LX->Option (LX)
|0,_,_,_,_,_,_,_=>none
|q+1,k,m,n,o,p,u,v=>BH (BO (Ks C4 a b f g h q) a h b f g) (AW C4 a b f g) a b f g h k m n o p u v
def BL C4 a b f g h:=Ks C4 a b f g h Ba
def Qa(j26:Int->Int->LX->Int->Int32->Int->LX->LX->Option (LX))(j34:Int->Int->LX->Option (LX))(a:LU)(b f:Int)(g:LX)(h:Int)(w:LX):Option (LX):=
if(Cm h b)then
(TZ f g).bind λ(ak,ai,al,am,an,aq)=>
j26 h h w ak ai al am an
else
j34 b f w
def Fk:Nat->Int->LX->Option (LX)
|0,_,_=>none
|z+1,c,d=>Qa (BL (Fk z) Y Ayr Ays Aze) Pz Y Ayr Ays Aze c d
def BT a b f g:=Fk a b f g Ba
def CU(j18:LU->Int->Int->LX->Int->LX->Option (LX))(b f:Int)(g:LX)(a:LU):Option (LX):=
(mkI (Ac a) (0:Int32)).bind λao=>
(Jm (geq (Ac a) (Ac a))).bind λ_=>
j18 a b f g 0 ao
def Pn:=CU BT
def aM:Option Int:=
some 0
def ZW:=aM
def Ey:Option Int:=
if(Cm p9 (Ac L))then
(Ak L p9).bind λz=>
if(Cm (Ad z:Int) (lI G))then
some 16
else
(Ak L p9).bind λc=>
if(Mf (Ad c:Int) G)then
some 16
else
Ayy (Ae p9 1)
else
Ayx
def Bs:Nat->Int->Option Int
|0,_=>none
|z+1,c=>Ey ZW (Bs z) e A c
def aR a b:=Bs a b Ba
def Je(j4:LX->Int->Int->Option Int)(k:Int)(a:LX):Option Int:=
(Ux k).bind λb=>
if(geq b 0)then
some 2
else
if(Dm (Ac a) 4000)then
some 4
else
j4 a b 0
def Bp:=Je aR
def Yf(g f:Int)(a:LX):Option (LX×Int):=
(Bp f a).bind λb=>
if(Bf b 0)then
some (([]:LX),b)
else
some (a,0)
abbrev Tl:=Option (LX×Int)
def Ih:Tl:=
if(Bf z 0)then
some (([]:LX),z)
else
(
(
(Pn d B e Y).bind λc=>
(Yf d B c).bind λ(i,j)=>
some (i,j)))
def Hw:=Ih
def Rs(j2:Int->Int->Int->LX->LU->Tl)(a b:Int)(g:LX)(p:Int)(k:LB):Tl:=
(Na a b p).bind λy=>
if(Bf y 0)then
some (([]:LX),2)
else
(Po k).bind λaa=>
if(Bf aa 0)then
(Po k).bind λab=>
some (([]:LX),ab)
else
(Bl k 0 (Am (Ac k) 4)).bind λac=>
(CJ a p ac).bind λ(h,f)=>
j2 f a b g h
def Ev:=Rs Hw
def Yd:Option (LB):=
if(geq z 24)then
(Dh ([(Ad (Ho d 256):UInt8),(Ad (Ho (Cx d 256) 256):UInt8)]:LB) ([(Ad (Cx d 65536):UInt8)]:LB)).bind λc=>
some c
else
some ([(Ad (Ho d 256):UInt8),(Ad (Ho (Cx d 256) 256):UInt8)]:LB)
def Ll:=Yd
def ML(j2:Int->Int->Option (LB))(a:Int)(f:Int32):Option (LB):=
if(geq a 8)then
some ([(Ad (Ae (Ad f:Int) 128):UInt8)]:LB)
else
if(Cm (Ad f:Int) 0)then
(Ux a).bind λh=>
j2 a (Ae (Ad f:Int) (Bo 2 h))
else
j2 a (Ad f:Int)
def GH:=ML Ll
abbrev Fw:=Option (LB×Int)
def aD:Fw:=
some (c,0)
def aH:=aD
def Ts(j6:LB->Fw)(Ps:Int->LB->Fw)(b:Int)(a:LX)(g:Int)(f:LB):Fw:=
if(Cm g (Ac a))then
(Ak a g).bind λh=>
(GH b h).bind λk=>
(Dh f k).bind λm=>
Ps (Ae g 1) m
else
j6 f
def Jg:Nat->Int->LB->Fw
|0,_,_=>none
|c+1,d,i=>Ts aH (Jg c) z e d i
def aN b a:=Jg b a Ba
def FY(j4:Int->LX->Int->LB->Fw)(b:Int)(a:LX):Fw:=
(Bp b a).bind λn=>
if(Bf n 0)then
(Bp b a).bind λo=>
some (([]:LB),o)
else
j4 b a 0 ([]:LB)
def Qz:=FY aN
abbrev Tq:=Option (LB×Int)
def Eb(o:LX)(f:Int)(p g:LB)(h k a m n:Int)(u:LI)(b:Int)(v:LB)(w:Bool)(y:Int):Tq:=
if(Bf f 0)then
some (([]:LB),f)
else
(Qz a o).bind λ(ac,ai)=>
some (ac,0)
def Eh:=Eb
def Ee(j2:LX->Int->LB->LB->Int->Int->Int->Int->Int->LI->Int->LB->Bool->Int->Tq)(p g:LB)(h k a m n:Int)(u:LI)(b:Int)(v:LB)(w:Bool)(y:Int):Tq:=
(Ak u b).bind λaa=>
if(Cm (Ac g) aa)then
some (([]:LB),(-1:Int))
else
(Ui p).bind λ(ad,aj)=>
(Bl g 0 aa).bind λae=>
(Fx h k a m n).bind λ(af,ag)=>
(Fu h k a m n).bind λab=>
(Ak ab b).bind λ_=>
(Ak ab b).bind λah=>
(Ev af ag ad ah ae).bind λ(o,f)=>
j2 o f p g h k a m n u b v w y
def Bv:=Ee Eh
abbrev Lh:=Option (LB×LB×Int×Int×Int×Int×Int×LI×Int×LB×Bool×Int×Int)
def As:Lh:=
if(geq (Ac M) 0)then
(Ew i A F P R T c).bind λ(z,d,e)=>
if(Bf e 0)then
some (c,i,A,F,P,R,T,M,N,O,C,E,e)
else
(Bl i z (Ac i)).bind λj=>
some (c,j,A,F,P,R,T,d,N,O,C,E,0)
else
if(geq N (Ac M))then
if(Dm (Ac i) 4000)then
some (c,i,A,F,P,R,T,M,N,O,C,E,38)
else
some (c,i,A,F,P,R,T,M,N,O,C,E,(-1:Int))
else
(Bv c i A F P R T M N O C E).bind λ(B,D)=>
if(Bf D 0)then
some (c,i,A,F,P,R,T,M,N,O,C,E,D)
else
(Dh ([]:LB) O).bind λG=>
(Dh G B).bind λI=>
(
(
(
(Ak M N).bind λJ=>
(
(Bl i J (Ac i)).bind λL=>
some (c,L,A,F,P,R,T,M,(Ae N 1),I,C,E,0)))))
def Bk:=As
def Fq:Lh:=
(Dp A F P R T c).bind λz=>
some (c,i,A,F,P,R,T,M,N,O,C,E,z)
def Fs:=Fq
def Bj(j3:LB->LB->Int->Int->Int->Int->Int->LI->Int->LB->Bool->Int->Lh)(j4:LB->LB->Int->Int->Int->Int->Int->LI->Int->LB->Bool->Int->Lh)(g a:LB)(m n o p u:Int)(b:LI)(f:Int)(v:LB)(h:Bool)(k:Int):Lh:=
if(geq m 0)then
(Wb a).bind λ(ac,ae,w,af,ag,y,ai)=>
if(Bf ai 0)then
some (g,a,m,n,o,p,u,b,f,v,h,k,ai)
else
(
(Bl a ac (Ac a)).bind λad=>
(
j3 g ad ae w af ag y b f v h k))
else
j4 g a m n o p u b f v h k
def Ag:=Bj Fs Bk
def Ua:Option Bool:=
(Ag c i A F P R T M N O C E).bind λ(z,d,e,j,B,D,G,I,J,L,U,V,X)=>
some (geq X (-1:Int))
def Cc:=Ua
def Nj(j4:LB->LB->Int->Int->Int->Int->Int->LI->Int->LB->Bool->Int->Option Bool)(o p:LB)(b f g h k:Int)(m:LI)(a:Int)(n:LB)(u:Bool)(v:Int):Option Bool:=
if(geq (Ac m) 0)then
if((Bf a 0)||(Dm (Ac n) 0))then
some false
else
j4 o p b f g h k m a n u v
else
(Hg m).bind λy=>
if(Bf y 0)then
if((true||(Cm a 0))||(Dm a (Ac m)))then
some false
else
(Ur b f g h k a).bind λaa=>
if(Dm (Ac n) aa)then
some false
else
j4 o p b f g h k m a n u v
else
(Fu b f g h k).bind λab=>
if(((Bf (Ac m) (Ac ab))||(Cm a 0))||(Dm a (Ac m)))then
some false
else
(Ur b f g h k a).bind λac=>
if(Dm (Ac n) ac)then
some false
else
j4 o p b f g h k m a n u v
def Nk:=Nj Cc
def Tx(j4:LB->LB->Int->Int->Int->Int->Int->LI->Int->LB->Bool->Int->Option Bool)(j3:LB->LB->Int->Int->Int->Int->Int->LI->Int->LB->Bool->Int->Option Bool)(o p:LB)(b f g h k:Int)(m:LI)(a:Int)(n:LB)(u:Bool)(v:Int):Option Bool:=
if((geq b 0)&&((geq f 0)&&((geq g 0)&&((geq h 0)&&((geq k 0)&&true)))))then
if(((Dm (Ac m) 0)||(Bf a 0))||(Dm (Ac n) 0))then
some false
else
j4 o p b f g h k m a n u v
else
(Jy b f g h k).bind λad=>
if(Bf ad 0)then
some false
else
(Dp b f g h k o).bind λae=>
if(Bf ae 0)then
some false
else
j3 o p b f g h k m a n u v
def Jv:=Tx Cc Nk
def Wa:Option Bool:=
some (((((((geq z 4)||(geq z 12))||(geq z 16))||(geq z 22))||(geq z 24))||(geq z 26))||(geq z 38))
def Cw:Option Int:=
if(Dm (Ac c) 64)then
some 8
else
if((geq E 0)&&(!C))then
(Jv c i A F P R T M N O C E).bind λz=>
if(!z)then
some 8
else
some 0
else
if((geq (Ac i) 0)&&(geq (Ac M) 0))then
if((!(((geq A 0)&&((geq F 0)&&((geq P 0)&&((geq R 0)&&((geq T 0)&&true)))))&&(geq N 0)))||(Dm (Ac O) 12000))then
some 8
else
if(Bf E 0)then
if C then
some 8
else
(Wa E).bind λd=>
if(!d)then
some 8
else
some 0
else
some 0
else
if((!(false&&(geq N 0)))||(Dm (Ac O) 12000))then
some 8
else
if(Bf E 0)then
if C then
some 8
else
(Wa E).bind λe=>
if(!e)then
some 8
else
some 0
else
some 0
abbrev Xt:=Option (LB×LB×Int×Int×Int×Int×Int×LI×Int×LB×Bool×Int)
def Og:Xt:=
(Dh ([]:LI) l6).bind λe=>
some (c,Azg,z,d,B,J,U,e,A,Azh,C,E)
def Oh:=Og
def Oe(j2:LB->Int->Int->Int->Int->Int->LI->Int->Bool->Int->LB->LB->Xt)(f w:LB)(g h k m n:Int)(o:LI)(p:Int)(y:LB)(u:Bool)(v:Int):Xt:=
(
(
(
(Dh ([]:LB) w).bind λa=>
(
(Dh ([]:LB) y).bind λb=>
j2 f g h k m n o p u v a b))))
def Kr:=Oe Oh
def On(f g:LB)(h k m n o:Int)(p:LI)(u:Int)(v:LB)(b:Bool)(a:Int):Option Int:=
if(Bf a 0)then
some a
else
if b then
some 36
else
some 0
def Uv(a m:LB)(n o p u v:Int)(w:LI)(y:Int)(b:LB)(aa:Bool)(ab:Int):Option (LB×LB×Int×Int×Int×Int×Int×LI×Int×LB×Bool×Int):=
(
(
(Dh ([]:LB) b).bind λf=>
some (a,([]:LB),0,0,0,0,0,([]:LI),0,f,false,0)))
def Lq:Option (LB×LB×Int×Int×Int×Int×Int×LI×Int×LB×Bool×Int×Int):=
(Uv c i A F P R T M N O C E).bind λ(z,d,e,j,B,D,G,I,J,L,U,V)=>
some (z,d,e,j,B,D,G,I,J,L,U,Aza,Aza)
abbrev Ln:=Option (LB×LB×Int×Int×Int×Int×Int×LI×Int×LB×Bool×Int×Int)
def Bq(bk3:LB->LB->Int->Int->Int->Int->Int->LI->Int->LB->Bool->Int->Ln)(a b:LB)(f g h k m:Int)(n:LI)(o:Int)(p:LB)(u:Bool)(v:Int):Ln:=
(Ag a b f g h k m n o p u v).bind λ(bb,bc,bd,be,bf,bg,bh,bi,bj,bk,bl,bm,w)=>
if(geq w (-1:Int))then
(Kr a b f g h k m n o p u v).bind λ(bn,bp,bq,br,bs,bt,bu,bv,bw,bx,bz,da)=>
some (bn,bp,bq,br,bs,bt,bu,bv,bw,bx,bz,da,0)
else
if(Bf w 0)then
(Lq a b f g h k m n o p u v w).bind λ(db,dc,dd,de,df,dg,dh,di,dj,dk,dl,dm,dn)=>
some (db,dc,dd,de,df,dg,dh,di,dj,dk,dl,dm,dn)
else
bk3 bb bc bd be bf bg bh bi bj bk bl bm
def Au:Nat->LB->LB->Int->Int->Int->Int->Int->LI->Int->LB->Bool->Int->Ln
|0,_,_,_,_,_,_,_,_,_,_,_,_=>none
|q+1,a,b,f,g,h,k,m,n,o,p,u,v=>Bq (Au q) a b f g h k m n o p u v
def cE:=Au Ba
def Ot(j3:LB->LB->Int->Int->Int->Int->Int->LI->Int->LB->Bool->Int->Ln)(al am:LB)(an ao ap aq ar:Int)(au:LI)(av:Int)(aw:LB)(ax:Bool)(ay:Int)(dp:LB):Ln:=
(Cw al am an ao ap aq ar au av aw ax ay).bind λaz=>
if(Bf az 0)then
some (([]:LB),([]:LB),0,0,0,0,0,([]:LI),0,([]:LB),false,0,az)
else
(Kr al am an ao ap aq ar au av aw ax ay).bind λ(y,aa,ab,ac,ad,ae,af,ag,ah,ai,aj,ak)=>
(On y aa ab ac ad ae af ag ah ai aj ak).bind λba=>
if(Bf ba 0)then
some (y,aa,ab,ac,ad,ae,af,ag,ah,ai,aj,ak,ba)
else
(Dh aa dp).bind λdq=>
j3 y dq ab ac ad ae af ag ah ai aj ak
def Hx:=Ot cE
abbrev Gn:=Option (Int×Int)
def Wl:Gn:=
if(Cm (Ac c) A)then
some (0,24)
else
if(i==Azf)then
(Bl c (Am (Ac c) A) (Ae (Am (Ac c) A) 32)).bind λe=>
(Ul z d).bind λj=>
if(e !=j)then
some (0,12)
else
some (A,0)
else
some (A,0)
def Wi:=Wl
def Vk(j6:LB->Int->Int->LB->LB->Int->Gn)(a:LB)(f g:Int)(b h:LB):Gn:=
if(b==h)then
j6 a f g b h (Ae (Ae 32 f) 32)
else
j6 a f g b h (Ae 32 f)
def Vy:=Vk Wi
def JV(j5:LB->Int->Int->LB->LB->Gn)(a:LB):Gn:=
(Bl a (Am (Ac a) 32) (Ac a)).bind λb=>
(Ue b).bind λ(f,g,n)=>
if(!n)then
some (0,12)
else
(Kt f g true).bind λh=>
(
if(!(b==h))then
(Kt f g false).bind λm=>
if(b !=m)then
some (0,12)
else
j5 a f g b h
else
j5 a f g b h)
def JY:=JV Vy
def IC(j4:LB->Gn)(a:LB):Gn:=
if(Cm (Ac a) 32)then
some (0,6)
else
(Bl a (Am (Ac a) 32) (Ae (Am (Ac a) 32) 8)).bind λu=>
if(u !=([65,80,69,84,65,71,69,88]:LB))then
some (0,6)
else
j4 a
def CW:=IC JY
abbrev Fe:=Option (Int×Int)
def WT:Fe:=
some (z,0)
def WB:=WT
def FA(j6:Int->Fe)(Ps:LB->Int->Fe)(b:LB)(a:Int):Fe:=
if(Dm (Ac b) 0)then
(CW b).bind λ(g,h)=>
if(Bf h 0)then
some (0,38)
else
(Bl b 0 (Am (Ac b) g)).bind λk=>
Ps k (Ae a 1)
else
j6 a
def Ly:Nat->LB->Int->Fe
|0,_,_=>none
|q+1,b,a=>FA WB (Ly q) b a
def XT:=Ly Ba
def CM(j4:LB->Int->Fe)(f:LB):Fe:=
if(Dm (Ac f) 4000)then
some (0,38)
else
j4 f 0
def Xw:=CM XT
def Pk(p a:LB)(g u v w y:Int)(b:LI)(h:Int)(aa:LB)(ab:Bool)(ac:Int):Option Int:=
if(geq g 0)then
(Nb a).bind λ(k,f)=>
if(Bf f 0)then
some f
else
(Bl a k (Ac a)).bind λm=>
(Oo m).bind λ(ad,ae,af,ag,ah,n)=>
some n
else
if((geq (Ac b) 0)||(Cm h (Ac b)))then
some 24
else
(Xw a).bind λ(ai,o)=>
if(Bf o 0)then
some 38
else
some 0
abbrev TD:=Option (Int×Int×Int×Int×Int×Int×LI×Int)
def vY:TD:=
(De z d B J U).bind λ(e,i)=>
if(Bf i 0)then
some (0,0,0,0,0,0,([]:LI),i)
else
(Bl c p8 (Ac c)).bind λj=>
(HB j (Ac e)).bind λ(A,C)=>
if(Bf C 0)then
some (0,0,0,0,0,0,([]:LI),C)
else
some (z,d,B,J,U,(Ae (Ae p8 (Bo 4 (Ac A))) 4),A,0)
def wD:=vY
def uT(j2:LB->Int->Int->Int->Int->Int->Int->TD)(a n:LB):TD:=
if(Dm (Ac n) 64)then
some (0,0,0,0,0,0,([]:LI),2)
else
if(Dm (Ac a) 100000)then
some (0,0,0,0,0,0,([]:LI),4)
else
(Iq a).bind λ(f,w)=>
if(Bf w 0)then
some (0,0,0,0,0,0,([]:LI),w)
else
(Bl a f (Ac a)).bind λad=>
(Ma ad).bind λ(b,g,h,k,m,y)=>
if(Bf y 0)then
some (0,0,0,0,0,0,([]:LI),y)
else
if((n==([]:LB)) !=(geq b 1))then
some (0,0,0,0,0,0,([]:LI),26)
else
if(n !=([]:LB))then
if(Cm (Ac a) (Ae (Ae f 22) 8))then
some (0,0,0,0,0,0,([]:LI),24)
else
(Bl a (Ae f 22) (Ae (Ae f 22) 8)).bind λae=>
(Xf ae n).bind λ(af,aa)=>
if(Bf aa 0)then
some (0,0,0,0,0,0,([]:LI),aa)
else
if(!af)then
some (0,0,0,0,0,0,([]:LI),26)
else
j2 a b g h k m (Ae (Ae f 22) 8)
else
j2 a b g h k m (Ae f 22)
def rz:=uT wD
abbrev Iz:=Option (Int×Int×Int×Int×Int×Int×LI×Int)
def WZ:Iz:=
if(Bf d 0)then
some (0,0,0,0,0,0,([]:LI),d)
else
some (B,J,U,p8,Ay3,(Ae (Ae z (Bo 4 (Ac l6))) 4),l6,0)
def WM:=WZ
def WS(j4:Int->Int->Int->Int->Int->Int->Int->LI->Iz)(a:LB)(b h k f g n:Int):Iz:=
(Bl a n (Ac a)).bind λy=>
(Js f g).bind λaa=>
(Us y (Ac aa)).bind λ(p,o)=>
j4 n o b h k f g p
def WG:=WS WM
def WE(j3:LB->Int->Int->Int->Int->Int->Int->Iz)(a u:LB):Iz:=
if(Dm (Ac a) 100000)then
some (0,0,0,0,0,0,([]:LI),4)
else
(Nb a).bind λ(m,v)=>
if(Bf v 0)then
some (0,0,0,0,0,0,([]:LI),v)
else
(Bl a m (Ac a)).bind λab=>
(Oo ab).bind λ(b,h,k,f,g,w)=>
if(Bf w 0)then
some (0,0,0,0,0,0,([]:LI),w)
else
if((u==([]:LB)) !=(geq b 1))then
some (0,0,0,0,0,0,([]:LI),26)
else
if(geq b 2)then
if(Cm (Am (Ac a) (Ae m 22)) 8)then
some (0,0,0,0,0,0,([]:LI),24)
else
(Bl a (Ae m 22) (Ae (Ae m 22) 8)).bind λac=>
(Oq u).bind λad=>
if(ac !=ad)then
some (0,0,0,0,0,0,([]:LI),26)
else
j3 a b h k f g (Ae (Ae m 22) 8)
else
j3 a b h k f g (Ae m 22)
def gD:=WE WG
def aT:Option Int:=
some z
def aK:=aT
def Tn(j6:Int->Option Int)(Ps:Int->Int->Option Int)(b h k m n o f:Int)(g:LI)(a p:Int):Option Int:=
if(Cm p b)then
(Ak g p).bind λu=>
Ps (Ae a u) (Ae p 1)
else
j6 a
def Ji:Nat->Int->Int->Option Int
|0,_,_=>none
|c+1,e,i=>Tn aK (Ji c) z d B J U p8 Ay3 l6 e i
def ZV b h k m n o f g:=Ji b h k m n o f g Ba
def aJ(j4:Int->Int->Int->Int->Int->Int->Int->LI->Int->Int->Option Int)(h k m n o f:Int)(g:LI)(b:Int):Option Int:=
j4 b h k m n o f g f 0
def OB:=aJ ZV
abbrev AE:=Option (LB×Int)
def MN(u:LX)(n o g f h k p:Int)(b:LI):AE:=
if(Bf n 0)then
some (([]:LB),n)
else
(Qz f u).bind λ(af,ai)=>
some (af,0)
def MJ:=MN
def MH(j2:LX->Int->Int->Int->Int->Int->Int->Int->LI->AE)(v y:LB)(o g f h k p:Int)(b:LI)(a:Int):AE:=
(OB o g f h k p b a).bind λm=>
(Ak b a).bind λaa=>
if(Cm (Am (Ac v) m) aa)then
some (([]:LB),24)
else
(Ui y).bind λ(ab,ag)=>
(Ak b a).bind λac=>
(Bl v m (Ae m ac)).bind λad=>
(
(Js h k).bind λw=>
(Ak w a).bind λ_=>
(Ak w a).bind λae=>
(Ev g f ab ae ad).bind λ(u,n)=>
j2 u n o g f h k p b)
def Qh:=MH MJ
abbrev Rk:=Option (Int×Int×Int×LX×Int)
def aY:Rk:=
(Bl c z (Ac c)).bind λi=>
(DB i).bind λ(j,A)=>
if(Bf A 0)then
some (0,0,0,([]:LX),38)
else
some (d,B,J,e,0)
def cI:=aY
def cF(Aby:Int->Int->LX->Rk)(a:LB)(w:LI)(m f g h o p n b ab ae:Int)(ac:LX)(k:LI)(y aj ak aa:Int)(an ad:LX):Rk:=
if(Bf ak 0)then
some (0,0,0,([]:LX),ak)
else
(Dh ad an).bind λau=>
Aby (Ae y aj) (Ae aa 1) au
def cG Aby:=cF Aby
def PY(j24:Int->Int->Int->Int->LX->LX->Rk)(j26:LB->Int->Int->Int->Int->LX->Rk)(a:LB)(w:LI)(m f g h o p n b ab ae:Int)(ac:LX)(k:LI)(y aa:Int)(ad:LX):Rk:=
if(Cm aa (Ac w))then
(Ak w aa).bind λ_=>
(Ak w aa).bind λaj=>
if(Cm (Ac a) (Ae y aj))then
some (0,0,0,([]:LX),24)
else
(Ak k aa).bind λ_=>
(Bl a y (Ae y aj)).bind λav=>
(Ak k aa).bind λaw=>
(Mj f g ac aw av).bind λ(an,ak)=>
j24 y aj ak aa an ad
else
j26 a y f g h ad
def CQ:Nat->Int->Int->LX->Rk
|0,_,_,_=>none
|i+1,j,A,C=>PY (cG (CQ i) c D z d B J U p8 Ay3 Azn Azo Azp e l6) cI c D z d B J U p8 Ay3 Azn Azo Azp e l6 j A C
end Go.Pl
