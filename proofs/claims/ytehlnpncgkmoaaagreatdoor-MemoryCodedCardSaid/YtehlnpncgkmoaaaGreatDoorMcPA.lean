/- A part of a proof (see the text that ends in Proof). No conditions. -/
import Derived.Test.YtehlnpncgkmoaaaGreatDoorMcBA
set_option linter.unusedVariables false
namespace Go.Pl
open Go Go.Lv
abbrev LB:=List UInt8
abbrev LI:=List Int
abbrev LX:=List Int32
abbrev LU:=List UInt32
abbrev LQ:=List UInt64
variable(z:Int)(c G:LB)(Z:Bool)(d e B E M y5 Bdb Bdu:Int)(D:LB)(o7:Bool)(U:Int)(l5:LB)(i:LX)(L:List LB)(T:LB)(j:LI)(C Bco Bc6 Bdj Bdk Bdl Bdm Bdn Bdo Bdp:Int)(R:LX)(Bc7:LI)(N Bc1:LB)(Bcv Bdv Bdw Bdx Bdy:Int)(Bdz:LI)(Bd0:Int)(Bd1:LB)(I:Bool)(J Bcw:Int)(Bd2 Bd3:LB)(Bc8:List LB)(Bd4 Bd5 Bd6:Int)(Bd7:LB)(Bd8:Bool)(Bd9:Int)(Bea:LB)(Bdc:LX)(Bdd:LB)(Beb:Bool)(Bec:Int)(Bed:LB)(A:UInt64)(P:UInt32)(V:UInt64)(q9:LB)(Bcp:UInt64->Option UInt64)(Bcq:UInt64->Int->Option UInt64)(Y:Int)(Bcy:LB)(Bde:Int)(o8:UInt64)(l7:Int)(Bcr:Option Int)(Bcs:Int->Option Int)(F Bc2:Int32)(y7:LX)(O:Int)(l8 l9:LX)(Bcz:Int32)(Bc0 Bc3:UInt64)(Bct:Int->Int->Option Int)(Bcx:LI)(p9 p8:Int)(Bdq:List LB)(Bc4 Bdf:Int)(Bee:Int->Option Int)(Bdg:LI)(Bdr Bc9:Int)(Bcu:UInt8)(Bds:UInt64)(l6:Int)(X:LU)(y8 y9:Int)(Bda:LX)(Bef:LQ)(Beg:Int->LI->Option (LI))(Bdt:LI)(Bdh:UInt64)(r9:Bool->Option Int)(o9:Bool)(Bc5:Int)(Bdi:List LI)(x9:List (UInt8×Int×Unit))
def nC(a b f:Int)(g:LX):Option (Int×Int):=
some (a,b)
abbrev UA:=Option (Int32×Int32×Int)
def eW:UA:=
if Z then
(Gu (Je (Ah z 1) 0)).bind λ_=>
some ((pL (Ct (1:Int32) (GI.toZ (Ah z 1)).toNat)),(Ah (Ct (1:Int32) (GI.toZ (Ah z 1)).toNat) 1),0)
else
some (0,0,2)
def iO:=eW
def gE(j2:Int->Bool->UA)(a:Int):UA:=
if(geq a 8)then
j2 a (geq a 8)
else
if(geq a 16)then
j2 a (geq a 16)
else
j2 a (geq a 24)
def Mu:=gE iO
def Jf:Option Int:=
(Mu d).bind λ(c,e,i)=>
if(((Bc i 0)||(Cg z 1))||(Eg z 6))then
some 2
else
some 0
def Pn:Option (Int×Int):=
if((Cg z 1)||(Eg z 1048576))then
some (0,2)
else
some ((fP 1 (Bf (Az 256 z) 245)),0)
def Rc:Option (Int×Int):=
(Pn z).bind λ(c,e)=>
if(Bc e 0)then
some (0,e)
else
if((Cg d 1)||(Eg d 4000))then
some (0,2)
else
(Gu (Bc c 0)).bind λ_=>
if(Eg (Bf (Ah (Ad d c) 1) c) 1000)then
some (0,4)
else
some ((Bf (Ah (Ad d c) 1) c),0)
def S1:Option Int:=
(nC z d e i).bind λ(c,j)=>
(Jf c j).bind λA=>
if((Bc A 0)||(Cg C 1))then
some 8
else
(Gu (Bc z 0)).bind λ_=>
if(Eg C (Bf 4000 z))then
some 8
else
(Rc e C).bind λ(B,D)=>
if(Bc D 0)then
some 8
else
some 0
def N1:Option Int:=
some 0
def gP:=N1
def BF:Option Int:=
if(Cg O (Ac y7))then
(Aj y7 O).bind λz=>
if((Cg z F)||(Eg z Bc2))then
some 16
else
Bcs (Ad O 1)
else
Bcr
def Oc:Nat->Int->Option Int
|0,_=>none
|z+1,c=>BF gP (Oc z) F Bc2 y7 c
def zS b f a:=Oc b f a Ap
def PH(j4:Int32->Int32->LX->Int->Option Int)(m:Int)(a:LX):Option Int:=
(Mu m).bind λ(b,f,k)=>
if(Bc k 0)then
some k
else
if(Eg (Ac a) 4000)then
some 4
else
j4 b f a 0
def Mn:=PH zS
def FQ:Option Int:=
if(Cg z 1)then
some 8
else
(Gu (Bc z 0)).bind λ_=>
if(Bc (Fi (Ac i) z) 0)then
some 8
else
(Gu (Bc z 0)).bind λ_=>
(S1 z d e i (Bf (Ac i) z)).bind λc=>
if(Bc c 0)then
some c
else
(Mn d i).bind λj=>
if(Bc j 0)then
some 8
else
some 0
abbrev UF:=Option (Int×Int×Int×Int×Int×Int)
def G5:UF:=
if(c !=([]:LB))then
some (2,d,e,B,(Bf (Ac i) d),0)
else
some (1,d,e,B,(Bf (Ac i) d),0)
def fX:=G5
def NP(j2:LB->Int->Int->Int->LX->UF)(a b f:Int)(g:LX)(h:LB):UF:=
(FQ a b f g).bind λk=>
if(Bc k 0)then
some (0,0,0,0,0,k)
else
if(Eg (Ac h) 64)then
some (0,0,0,0,0,2)
else
(Gu (Bc a 0)).bind λ_=>
(
j2 h a b f g)
def wU:=NP fX
abbrev Bu:=Option (UInt64×Int)
def gB:Bu:=
some (A,0)
def gD:=gB
def eH(j30:UInt64->Bu)(h b:UInt64)(a:LB)(f:LQ):Bu:=
j30 h
def PG:=eH gD
def CE(j29:UInt64->UInt64->LB->LQ->Bu)(aS:UInt64->Int->Bu)(a:LB)(b:UInt64)(f:LQ)(h:UInt64)(m:Int):Bu:=
if(Cg m (Ac a))then
(Aj a m).bind λp=>
Option.bind (Aj f (GI.toZ (Tu (Ae (Bv h (GI.toZ (56:UInt64)).toNat):UInt8) p))) λ_=>
Option.bind (Aj f (GI.toZ (Tu (Ae (Bv h (GI.toZ (56:UInt64)).toNat):UInt8) p))) λu=>
aS (Tu (Ct h (GI.toZ (8:UInt64)).toNat) u) (Ad m 1)
else
j29 h b a f
def Oh:Nat->UInt64->Int->Bu
|0,_,_=>none
|z+1,d,e=>CE PG (Oh z) c A Bef d e
def OH a b f:=Oh a b f Ap
def NX(j27:LB->UInt64->LQ->UInt64->Int->Bu)(b:UInt64)(a:LB)(f:LQ):Bu:=
j27 a b f b 0
def OZ:=NX OH
def dY(Gc:Int->LQ->Bu)(b:UInt64)(a:LB)(g:Int)(o:LQ):Bu:=
Gc (Ad g 1) o
def fC Gc:=dY Gc
def eR(j24:Int->LQ->Bu)(b:UInt64)(a:LB)(g:Int)(k:UInt64)(f:LQ):Bu:=
(Aj f g).bind λ_=>
(Jm f g k).bind λo=>
j24 g o
def BP Gc b a:=eR (fC Gc b a) b a
def AW(j23:Int->UInt64->LQ->Bu)(Afo:UInt64->Int->Bu)(b:UInt64)(a:LB)(g:Int)(f:LQ)(k:UInt64)(n:Int):Bu:=
if(Cg n 8)then
Afo (Tu (Ct k (GI.toZ (1:UInt64)).toNat) (Az 4823603603198064275 (Bv k (GI.toZ (63:UInt64)).toNat))) (Ad n 1)
else
j23 g k f
def Ou(Gc:Int->LQ->Bu)(b:UInt64)(a:LB)(g:Int)(f:LQ):Nat->UInt64->Int->Bu
|0,_,_=>none
|q+1,k,n=>AW (BP Gc b a) (Ou Gc b a g f q) b a g f k n
def QH Gc b a g f:=Ou Gc b a g f Ap
def CG(j21:Int->LQ->UInt64->Int->Bu)(j26:UInt64->LB->LQ->Bu)(b:UInt64)(a:LB)(g:Int)(f:LQ):Bu:=
if(Cg g 256)then
j21 g f (Ct (Ae g:UInt64) (GI.toZ (56:UInt64)).toNat) 0
else
j26 b a f
def Ln:Nat->Int->LQ->Bu
|0,_,_=>none
|z+1,c,d=>CG (QH (Ln z) A q9) OZ A q9 c d
def fS b a:=Ln b a Ap
def UB(j16:UInt64->LB->Int->LQ->Bu)(b:UInt64)(a:LB):Bu:=
if(Eg (Ac a) 100000)then
some (0,4)
else
j16 b a 0 (List.replicate 256 (0:UInt64))
def ZR:=UB fS
def VR:Option (UInt64×Int):=
(ZR 0 c).bind λ(z,d)=>
some (z,d)
def Afh:Option (LX):=
some i
def C7:=Afh
def aQ(j6:LX->Option (LX))(Nv:Int->LX->Option (LX))(f:UInt64)(a:Int)(b:LX):Option (LX):=
if(Cg a 8)then
(Gu (Je (Az 8 a) 0)).bind λ_=>
(Aj b a).bind λ_=>
(Jm b a (Ae (Ae (Bv f (GI.toZ (Az 8 a)).toNat):Int8):Int32)).bind λg=>
Nv (Ad a 1) g
else
j6 b
def GO:Nat->Int->LX->Option (LX)
|0,_,_=>none
|z+1,c,d=>aQ C7 (GO z) A c d
def Afj f:=GO f Ap
def M1(j4:UInt64->Int->LX->Option (LX))(f:UInt64):Option (LX):=
j4 f 0 (List.replicate 16 (0:Int32))
def iw:=M1 Afj
def Mh:Option (LX×Int):=
if(Eg (Ac c) 64)then
some (([(0:Int32),(0:Int32),(0:Int32),(0:Int32),(0:Int32),(0:Int32),(0:Int32),(0:Int32),(0:Int32),(0:Int32),(0:Int32),(0:Int32),(0:Int32),(0:Int32),(0:Int32),(0:Int32)]:LX),2)
else
(VR c).bind λ(z,d)=>
if(Bc d 0)then
some (([(0:Int32),(0:Int32),(0:Int32),(0:Int32),(0:Int32),(0:Int32),(0:Int32),(0:Int32),(0:Int32),(0:Int32),(0:Int32),(0:Int32),(0:Int32),(0:Int32),(0:Int32),(0:Int32)]:LX),d)
else
(iw z).bind λe=>
some (e,0)
def KU:Option (UInt64×UInt64):=
some ((Ad (Ad (Az (Bv A (GI.toZ (32:UInt64)).toNat) (Bv V (GI.toZ (32:UInt64)).toNat)) (Bv (Ad (Az (Bv A (GI.toZ (32:UInt64)).toNat) (Dr V 4294967295)) (Bv (Az (Dr A 4294967295) (Dr V 4294967295)) (GI.toZ (32:UInt64)).toNat)) (GI.toZ (32:UInt64)).toNat)) (Bv (Ad (Dr (Ad (Az (Bv A (GI.toZ (32:UInt64)).toNat) (Dr V 4294967295)) (Bv (Az (Dr A 4294967295) (Dr V 4294967295)) (GI.toZ (32:UInt64)).toNat)) 4294967295) (Az (Dr A 4294967295) (Bv V (GI.toZ (32:UInt64)).toNat))) (GI.toZ (32:UInt64)).toNat)),(Az A V))
def HH:Option (UInt64×UInt64):=
(KU A V).bind λ(z,c)=>
some (z,c)
def QV:Option (LI):=
some j
def Ut:=QV
def Mw(j10:LI->Option (LI))(bk8:Int->LI->Option (LI))(b:Int)(a:LI):Option (LI):=
if(Cg b (Ac a))then
(
(jS (Ac a) b (Ac a)).bind λ_=>
(jS (Ac a) 0 b).bind λ_=>
bk8 (Ad b (mH ((Ac a)-b) (ZI a 0 (b-(0:Int))).length)) (Yc a b ((Ac a)-b) (ZI a 0 (b-(0:Int)))))
else
j10 a
def Na:Nat->Int->LI->Option (LI)
|0,_,_=>none
|q+1,b,a=>Mw Ut (Na q) b a
def UI:=Na Ap
def Xg:Option (LI):=
(mkI (Ae Bdh:Int) (0:Int)).bind λz=>
(Gu (geq (Ae Bdh:Int) (Ae Bdh:Int))).bind λ_=>
Beg (mH (Ac z) Bdt.length) (XH z Bdt)
def UC:=Xg UI
def Wq(j7:LI->UInt64->Option (LI))(f:LI)(h:Int):Option (LI):=
(HH (Ae (Ac f):UInt64) (Ae h:UInt64)).bind λ(m,g)=>
if((Eg m 0)||(Eg g 9223372036854775807))then
none
else
j7 f g
def UK:=Wq UC
def Xf(j6:LI->Int->Option (LI))(f:LI)(h:Int):Option (LI):=
if(Cg h 0)then
none
else
j6 f h
def FD:=Xf UK
def QX:Option (LI):=
some j
def Vf:=QX
def Uu(j16:LI->Option (LI))(jA:Int->LI->Option (LI))(a:List LI)(g:Int)(f:LI):Option (LI):=
if(Cg g (Ac a))then
(Aj a g).bind λn=>
(Cm f n).bind λo=>
jA (Ad g 1) o
else
j16 f
def Mc:Nat->Int->LI->Option (LI)
|0,_,_=>none
|z+1,c,d=>Uu Vf (Mc z) Bdi c d
def Uy a:=Mc a Ap
def Uv(j14:(List LI)->Int->LI->Option (LI))(a:List LI)(p:LI):Option (LI):=
j14 a 0 p
def QY:=Uv Uy
def Uw(j13:(List LI)->LI->Option (LI))(b:Int)(a:List LI):Option (LI):=
if(Eg (Ah b (Ah (0:Int) (0:Int))) 0)then
(jS 0 0 0).bind λ_=>
(mkI (Ah b (Ah (0:Int) (0:Int))) (0:Int)).bind λu=>
(Cm ([]:LI) u).bind λk=>
(jS (Ac k) 0 0).bind λ_=>
j13 a (ZI k 0 ((0:Int)-(0:Int)))
else
j13 a ([]:LI)
def QW:=Uw QY
def Vg(j12:Int-> (List LI)->Option (LI))(a:List LI)(b:Int):Option (LI):=
if(Cg b 0)then
none
else
j12 b a
def QU:=Vg QW
def Ws(j11:(List LI)->Int->Option (LI))(bk9:Int->Int->Option (LI))(a:List LI)(b h:Int):Option (LI):=
if(Cg h (Ac a))then
(Aj a h).bind λm=>
if(Cg (Ad b (Ac m)) 0)then
none
else
bk9 (Ad b (Ac m)) (Ad h 1)
else
j11 a b
def Mx:Nat->Int->Int->Option (LI)
|0,_,_=>none
|z+1,c,d=>Ws QU (Mx z) Bdi c d
def TP a:=Mx a Ap
def Xb(j9:(List LI)->Int->Int->Option (LI))(a:List LI):Option (LI):=
j9 a 0 0
def EI:=Xb TP
def gA:Option (LI):=
(EI ([j,Bc7]:List LI)).bind λz=>
some z
def HY:Option (LI×Int):=
(Rc z d).bind λ(c,e)=>
if(Bc e 0)then
some (([]:LI),e)
else
(Pn z).bind λ(i,j)=>
(FD ([i]:LI) (Ah c 1)).bind λA=>
(gA A ([(Ah d (Az (Ah c 1) i))]:LI)).bind λB=>
some (B,0)
def GZ:Option Int:=
(Jf z d).bind λc=>
if(Bc c 0)then
some c
else
(Mn d i).bind λe=>
if(Bc e 0)then
some e
else
if(geq (Ac i) 0)then
some 2
else
(Gu (Bc z 0)).bind λ_=>
if(Bc (Fi (Ac i) z) 0)then
some 2
else
some 0
def WG:Option Int:=
if((Cg z 1)||(Eg z 6))then
some 2
else
if(Eg (Ac i) 4000)then
some 4
else
(Gu (Bc z 0)).bind λ_=>
if(Bc (Fi (Ac i) z) 0)then
some 2
else
some 0
def Ci:Option (LX):=
(
(Cm ([]:LX) i).bind λz=>
some z)
abbrev Hu:=Option (LX×Int)
def Abk:Hu:=
some (i,0)
def vH:=Abk
def eN(UN:Int->LX->Hu)(b a:Int)(u:LX):Hu:=
UN (Ad a b) u
def gY UN:=eN UN
def xE(j20:Int->LX->Hu)(b a:Int)(g:LX):Hu:=
if(Eg (Ah ((Ad a b)-a) 1) 0)then
(Gu (decide (0<= (Ah ((Ad a b)-a) 1)/\ (Ah ((Ad a b)-a) 1)<((Ad a b)-a)))).bind λ_=>
Option.bind (Gu (decide (0<= (Ah (Ah ((Ad a b)-a) 1) 1)/\ (Ah (Ah ((Ad a b)-a) 1) 1)<((Ad a b)-a)))) λ_=>
(Aj g (a+(Ah ((Ad a b)-a) 1))).bind λk=>
(Aj g (a+(Ah (Ah ((Ad a b)-a) 1) 1))).bind λm=>
(Gu (decide (0<= (Ah ((Ad a b)-a) 1)/\ (Ah ((Ad a b)-a) 1)<((Ad a b)-a)))).bind λ_=>
(Jm g (a+(Ah ((Ad a b)-a) 1)) (Ah k (Bf m 2))).bind λn=>
j20 a n
else
j20 a g
def dX UN b:=xE (gY UN b) b
def RF(j19:Int->LX->Hu)(P3:Int->LX->Hu)(b a f:Int)(g:LX):Hu:=
if(Cg f (Ah ((Ad a b)-a) 1))then
(Gu (decide (0<= (Ad f 1)/\ (Ad f 1)<((Ad a b)-a)))).bind λ_=>
(Gu (decide (0<=f/\f<((Ad a b)-a)))).bind λ_=>
(Aj g (a+(Ad f 1))).bind λk=>
(Aj g (a+f)).bind λm=>
(Gu (decide (0<=f/\f<((Ad a b)-a)))).bind λ_=>
(Jm g (a+f) (Ah k m)).bind λn=>
P3 (Ad f 1) n
else
j19 a g
def AG(UN:Int->LX->Hu)(b a:Int):Nat->Int->LX->Hu
|0,_,_=>none
|q+1,f,g=>RF (dX UN b) (AG UN b a q) b a f g
def vU UN b a:=AG UN b a Ap
def eF(j17:Int->Int->LX->Hu)(j22:LX->Hu)(b a:Int)(h:LX):Hu:=
if(Cg a (Ac h))then
(jS (Ac h) a (Ad a b)).bind λ_=>
j17 a 0 h
else
j22 h
def AJ:Nat->Int->LX->Hu
|0,_,_=>none
|c+1,d,e=>eF (vU (AJ c) z) vH z d e
def vM b:=AJ b Ap
def nN(j12:Int->Int->LX->Hu)(b:Int)(o:LX):Hu:=
(WG b o).bind λp=>
if(Bc p 0)then
some (([]:LX),p)
else
(Ci o).bind λv=>
j12 b 0 v
def yZ:=nN vM
abbrev nB:=Option (Int×LX×LX×Int)
def Acy:nB:=
if I then
some (10,i,(List.replicate 16 (0:Int32)),0)
else
if(geq z 16)then
some (9,i,(List.replicate 16 (0:Int32)),0)
else
some (0,(List.replicate 16 (0:Int32)),(List.replicate 16 (0:Int32)),2)
def Aap:=Acy
def Abx(j2:Int->LX->Bool->nB)(a:Int)(b:LX):nB:=
if(geq a 8)then
j2 a b (geq a 8)
else
j2 a b (geq a 24)
def qY:=Abx Aap
def vB:Option (Int×Int32×Int×LX×LX×Int):=
(qY z i).bind λ(c,d,e,j)=>
if(Bc j 0)then
some (0,0,0,(List.replicate 16 (0:Int32)),(List.replicate 16 (0:Int32)),j)
else
some (z,0,c,d,e,0)
def Th(a:Int)(k:Int32)(b:Int)(f m:LX):Option Int:=
(qY a f).bind λ(g,n,o,h)=>
if((Bc h 0)||(Bc g b))then
some 8
else
some 0
def fU:Option (Int×Int):=
if(geq z 8)then
some (4,0)
else
if(geq z 16)then
if(geq z 16)then
some (5,0)
else
some (0,2)
else
if(geq z 24)then
some (5,0)
else
some (0,2)
def RI:Option Int32:=
(Gu (Je z 0)).bind λ_=>
(Gu (Je z 0)).bind λ_=>
some (Ae (qg (Ah (Ct (Ae F:Int) (GI.toZ z).toNat) (Ae F:Int)) (GI.toZ z).toNat):Int32)
def Ti:Option (Int32×Int):=
(fU z).bind λ(c,d)=>
if(Bc d 0)then
some (0,d)
else
(RI c F).bind λe=>
some (e,0)
def GH(a:Int)(b f:LX):Option Int:=
if((Bc a 9)&&(Bc a 10))then
some 8
else
some 0
abbrev Qf:=Option (Int32×Int)
def mN(h:Int32)(a:Int)(b f:LX):Qf:=
(Gu (Je a 0)).bind λ_=>
some ((Bv h (GI.toZ a).toNat),0)
def TO:=mN
def HB(j6:Int32->Int->LX->LX->Qf)(Nv:Int32->Int->Qf)(b:LX)(a:Int)(f:LX)(h:Int32)(g:Int):Qf:=
if(Cg g 16)then
(Aj b g).bind λm=>
(Aj f g).bind λ_=>
(Aj f g).bind λn=>
Nv (Ad h (Az m n)) (Ad g 1)
else
j6 h a b f
def Rf:Nat->Int32->Int->Qf
|0,_,_=>none
|z+1,c,d=>HB TO (Rf z) i C R c d
def mC b a f:=Rf b a f Ap
def TJ(j4:LX->Int->LX->Int32->Int->Qf)(a:Int)(b f:LX):Qf:=
(GH a b f).bind λk=>
if(Bc k 0)then
some (0,k)
else
(Gu (Je (Ah a 1) 0)).bind λ_=>
j4 b a f (Ct (1:Int32) (GI.toZ (Ah a 1)).toNat) 0
def PB:=TJ mC
def VH:Option Int32:=
if(geq z 0)then
some 4
else
if(Cg z 4)then
some 2
else
some 1
abbrev Pk:=Option (Int×LX×LX×Int)
def Q9:Pk:=
some (z,i,R,0)
def mD:=Q9
def HC(j6:Int->LX->LX->Pk)(Nv:Int->LX->Pk)(h:Int32)(f:LX)(g a:Int)(b:LX):Pk:=
if(Cg a 16)then
(Aj f a).bind λm=>
if(geq m 0)then
Nv (Ad a 1) b
else
if((Cg m 0)==(Cg h 0))then
(Aj b a).bind λ_=>
(Aj b a).bind λo=>
(VH a).bind λp=>
(Aj b a).bind λ_=>
(Jm b a (Ad o p)).bind λu=>
Nv (Ad a 1) u
else
(Aj b a).bind λ_=>
(Aj b a).bind λv=>
(VH a).bind λw=>
(Aj b a).bind λ_=>
(Jm b a (Ah v w)).bind λy=>
Nv (Ad a 1) y
else
j6 g b f
def Qw:Nat->Int->LX->Pk
|0,_,_=>none
|z+1,c,d=>HC mD (Qw z) F y7 O c d
def Q3 h f g:=Qw h f g Ap
def TZ(j4:Int32->LX->Int->Int->LX->Pk)(g:Int)(k f:LX)(h:Int32):Pk:=
(GH g k f).bind λn=>
if(Bc n 0)then
some (0,(List.replicate 16 (0:Int32)),(List.replicate 16 (0:Int32)),n)
else
if(geq h 0)then
some (g,k,f,0)
else
j4 h f g 0 k
def aR:=TZ Q3
abbrev iL:=Option (Int×LX×LX×Int)
def pK:iL:=
(Aj (Yc l9 1 ((16:Int)-(1:Int)) (ZI l9 0 ((16:Int)-(0:Int)))) 0).bind λ_=>
(Jm (Yc l9 1 ((16:Int)-(1:Int)) (ZI l9 0 ((16:Int)-(0:Int)))) 0 F).bind λz=>
some (O,l8,z,0)
def ZH:=pK
def MY(j2:Int32->Int->LX->LX->iL)(b:Int)(f a:LX)(g:Int32):iL:=
(GH b f a).bind λh=>
if(Bc h 0)then
some (0,(List.replicate 16 (0:Int32)),(List.replicate 16 (0:Int32)),h)
else
(
(jS 16 1 16).bind λ_=>
(jS 16 0 16).bind λ_=>
j2 g b f a)
def kK:=MY ZH
def NZ:Option (Int×LX×LX):=
(aR z i R Bc2).bind λ(c,d,e,j)=>
(kK c d e F).bind λ(A,B,C,D)=>
some (A,B,C)
def SZ:Option (Int32×Int×LX×LX×Int):=
(PB z i R).bind λ(c,d)=>
if(Bc d 0)then
some (0,0,(List.replicate 16 (0:Int32)),(List.replicate 16 (0:Int32)),d)
else
(NZ z i R F (Ah F c)).bind λ(e,j,A)=>
some ((Ah F c),e,j,A,0)
def Qv:Option (Int32×Int×Int32×Int×LX×LX×Int):=
(Th z F O l8 l9).bind λc=>
if(Bc c 0)then
some (0,0,0,0,(List.replicate 16 (0:Int32)),(List.replicate 16 (0:Int32)),c)
else
(Ti z F).bind λ(d,e)=>
(SZ O l8 l9 (Ah Bcz d)).bind λ(i,j,A,B,C)=>
(
some (i,z,Bcz,j,A,B,C))
def jN:Option UInt32:=
some (Tu (Ct (Ae F:UInt32) (GI.toZ (1:UInt64)).toNat) (Ae (Bv F (GI.toZ (31:UInt64)).toNat):UInt32))
abbrev Cs:=Option (LU×Int)
def oF:Cs:=
some (X,0)
def QS:=oF
def Qj(j12:LU->Cs)(Afp:Int-> (List (Int×Int32×(Int×LX×LX×Unit)×Unit))->LU->Cs)(b:LX)(a f g:Int)(k:List (Int×Int32×(Int×LX×LX×Unit)×Unit))(h:LU):Cs:=
if(Cg g (Ac b))then
(Aj b g).bind λ_=>
(Aj b g).bind λac=>
(Gu (Bc a 0)).bind λ_=>
(Aj k (Fi g a)).bind λ_=>
(Aj k (Fi g a)).bind λp=>
(Qv p.1 p.2.1 p.2.2.1.1 p.2.2.1.2.1 p.2.2.1.2.2.1 ac).bind λ(u,ad,ae,v,af,ag,w)=>
if(Bc w 0)then
some (([]:LU),w)
else
(Jm k (Fi g a) (ad,ae,(v,af,ag,()),())).bind λah=>
(jN u).bind λai=>
(Cm h ([ai]:LU)).bind λaj=>
Afp (Ad g 1) ah aj
else
j12 h
def Iu:Nat->Int-> (List (Int×Int32×(Int×LX×LX×Unit)×Unit))->LU->Cs
|0,_,_,_=>none
|z+1,c,d,e=>Qj QS (Iu z) i C Bco c d e
def OB b a f:=Iu b a f Ap
def RB(j10:LX->Int->Int->Int-> (List (Int×Int32×(Int×LX×LX×Unit)×Unit))->LU->Cs)(a f:Int)(b:LX)(m:List (Int×Int32×(Int×LX×LX×Unit)×Unit)):Cs:=
j10 b a f 0 m ([]:LU)
def RD:=RB OB
def RJ(j9:Int->Int->LX-> (List (Int×Int32×(Int×LX×LX×Unit)×Unit))->Cs)(bk7:Int-> (List (Int×Int32×(Int×LX×LX×Unit)×Unit))->Cs)(a f:Int)(n b:LX)(o:Int)(m:List (Int×Int32×(Int×LX×LX×Unit)×Unit)):Cs:=
if(Cg o 6)then
(vB f n).bind λ(ak,al,u,am,an,v)=>
(Aj m o).bind λ_=>
(Jm m o (ak,al,(u,am,an,()),())).bind λao=>
bk7 (Ad o 1) ao
else
j9 a f b m
def CH:Nat->Int-> (List (Int×Int32×(Int×LX×LX×Unit)×Unit))->Cs
|0,_,_=>none
|c+1,e,j=>RJ RD (CH c) z d i R e j
def EE a f n b:=CH a f n b Ap
def BT(j7:Int->Int->LX->LX->Int-> (List (Int×Int32×(Int×LX×LX×Unit)×Unit))->Cs)(a f:Int)(n y:LX):Cs:=
(GZ a f y).bind λaa=>
if(Bc aa 0)then
some (([]:LU),aa)
else
(yZ a y).bind λ(b,ab)=>
if(Bc ab 0)then
some (([]:LU),ab)
else
j7 a f n b 0 (List.replicate 6 ((0:Int),(0:Int32),((0:Int),(List.replicate 16 (0:Int32)),(List.replicate 16 (0:Int32)),()),()))
def BS:=BT EE
def oO:Option (Int×Int×UInt64×UInt64):=
some (10,10,16384,16384)
abbrev Is:=Option ((List (Int×Int×UInt64×UInt64×Unit)))
def rD(a:List (Int×Int×UInt64×UInt64×Unit)):Is:=
some a
def SQ:=rD
def SU(j6:(List (Int×Int×UInt64×UInt64×Unit))->Is)(Nv:Int-> (List (Int×Int×UInt64×UInt64×Unit))->Is)(b:Int)(a:List (Int×Int×UInt64×UInt64×Unit)):Is:=
if(Cg b 6)then
(oO).bind λ(f,g,h,k)=>
(Aj a b).bind λ_=>
(Jm a b (f,g,h,k,())).bind λm=>
Nv (Ad b 1) m
else
j6 a
def AQ:Nat->Int-> (List (Int×Int×UInt64×UInt64×Unit))->Is
|0,_,_=>none
|q+1,b,a=>SU SQ (AQ q) b a
def SL:=AQ Ap
def BM(j4:Int-> (List (Int×Int×UInt64×UInt64×Unit))->Is):Is:=
j4 0 (List.replicate 6 ((0:Int),(0:Int),(0:UInt64),(0:UInt64),()))
def CU:=BM SL
def Hp:Option Int:=
if(((Cg d 0)||(Eg d 330000))||(Bc (Ac c) (qg (Ad d 7) (GI.toZ (3:UInt64)).toNat)))then
some 8
else
if(Eg (Dr d 7) 0)then
(Aj c (Ah (Ac c) 1)).bind λz=>
(Gu (Je (Dr d 7) 0)).bind λ_=>
if(Bc (Bv z (GI.toZ (Dr d 7)).toNat) 0)then
some 8
else
some 0
else
some 0
def lP:Option Int:=
if(!((geq (Dt (fP z 0) 24) z)&&((geq (Dt (fP d 0) 24) d)&&((geq (Dt A 68719476735) A)&&((geq (Dt V 68719476735) V)&&true)))))then
some 8
else
some 0
def TD:=lP
def GY(j4:Int->Int->UInt64->UInt64->Option Int)(a b:Int)(f g:UInt64):Option Int:=
(
(
j4 a b f g))
def UH:=GY TD
def HD(j3:Int->Int->UInt64->UInt64->Option Int)(a b:Int)(f g:UInt64):Option Int:=
(
(
j3 a b f g))
def PW:=HD UH
def GQ(a f:Int)(g h:UInt64)(b:UInt32):Option (Int×UInt32):=
(Gu (Je a 0)).bind λ_=>
if(geq (Bv b (GI.toZ a).toNat) 0)then
some (0,b)
else
(Gu (Je a 0)).bind λ_=>
some (1,(Ah b (Ct (1:UInt32) (GI.toZ a).toNat)))
def Bb:Option (LB):=
(
(Cm ([]:LB) c).bind λz=>
some z)
def VO:Option (LB×Int):=
(Bb c).bind λz=>
some (z,d)
abbrev Dc:=Option (LB×Int×Int)
def oT:Dc:=
some (c,z,0)
def YF:=oT
def qS(Apf:UInt64->Int->Int->LB->Dc)(b:UInt64)(a:Int)(m:UInt64)(h f:Int)(w:LB):Dc:=
(Gu (Je (Dt h (Ah 8 (Dr f 7))) 0)).bind λ_=>
Apf (Bv m (GI.toZ (Dt h (Ah 8 (Dr f 7)))).toNat) (Ah h (Dt h (Ah 8 (Dr f 7)))) (Ad f (Dt h (Ah 8 (Dr f 7)))) w
def sF Apf:=qS Apf
def qT(j19:UInt64->Int->Int->LB->Dc)(b:UInt64)(a:Int)(m:UInt64)(h f:Int)(u:LB):Dc:=
(Aj u (Ah (Ac u) 1)).bind λ_=>
(Gu (Je (Dt h (Ah 8 (Dr f 7))) 0)).bind λ_=>
(Gu (Je (Dr f 7) 0)).bind λ_=>
(Aj u (Ah (Ac u) 1)).bind λad=>
(Aj u (Ah (Ac u) 1)).bind λ_=>
Option.bind (Jm u (Ah (Ac u) 1) (qO ad (Ct (Ae (Dr m (Ah (Ct (1:UInt64) (GI.toZ (Dt h (Ah 8 (Dr f 7)))).toNat) 1)):UInt8) (GI.toZ (Dr f 7)).toNat))) λw=>
j19 m h f w
def MU Apf b a:=qT (sF Apf b a) b a
def MW(j18:UInt64->Int->Int->LB->Dc)(j21:Int->LB->Dc)(b:UInt64)(a:Int)(m:UInt64)(h f:Int)(o:LB):Dc:=
if(Eg h 0)then
if(geq (Dr f 7) 0)then
(Cm o ([(0:UInt8)]:LB)).bind λaa=>
j18 m h f aa
else
j18 m h f o
else
j21 f o
def Ml:Nat->UInt64->Int->Int->LB->Dc
|0,_,_,_,_=>none
|z+1,c,d,e,i=>MW (MU (Ml z) A Y) YF A Y c d e i
def tu b a:=Ml b a Ap
def jg:Dc:=
some (c,z,0)
def rU:=jg
def oo(Apg:UInt64->Int->Int->LB->Dc)(b:UInt64)(a:Int)(n:UInt64)(k g:Int)(ab:LB):Dc:=
(Gu (Je (Dt k (Ah 8 (Dr g 7))) 0)).bind λ_=>
Apg (Bv n (GI.toZ (Dt k (Ah 8 (Dr g 7)))).toNat) (Ah k (Dt k (Ah 8 (Dr g 7)))) (Ad g (Dt k (Ah 8 (Dr g 7)))) ab
def jy Apg:=oo Apg
def jh(j26:UInt64->Int->Int->LB->Dc)(b:UInt64)(a:Int)(n:UInt64)(k g:Int)(v:LB):Dc:=
(Aj v (Ah (Ac v) 1)).bind λ_=>
(Gu (Je (Dt k (Ah 8 (Dr g 7))) 0)).bind λ_=>
(Gu (Je (Dr g 7) 0)).bind λ_=>
(Aj v (Ah (Ac v) 1)).bind λae=>
(Aj v (Ah (Ac v) 1)).bind λ_=>
Option.bind (Jm v (Ah (Ac v) 1) (qO ae (Ct (Ae (Dr n (Ah (Ct (1:UInt64) (GI.toZ (Dt k (Ah 8 (Dr g 7)))).toNat) 1)):UInt8) (GI.toZ (Dr g 7)).toNat))) λab=>
j26 n k g ab
def qP Apg b a:=jh (jy Apg b a) b a
def oW(j25:UInt64->Int->Int->LB->Dc)(j28:Int->LB->Dc)(b:UInt64)(a:Int)(n:UInt64)(k g:Int)(p:LB):Dc:=
if(Eg k 0)then
if(geq (Dr g 7) 0)then
(Cm p ([(0:UInt8)]:LB)).bind λw=>
j25 n k g w
else
j25 n k g p
else
j28 g p
def YV:Nat->UInt64->Int->Int->LB->Dc
|0,_,_,_,_=>none
|z+1,c,d,e,i=>oW (qP (YV z) A Y) rU A Y c d e i
def ny b a:=YV b a Ap
def eP(j15:UInt64->Int->UInt64->Int->Int->LB->Dc)(j22:UInt64->Int->UInt64->Int->Int->LB->Dc)(ac:LB)(y:Int)(b:UInt64)(a:Int):Dc:=
(Hp ac y).bind λaf=>
if(Bc af 0)then
some (([]:LB),0,8)
else
if((Cg a 0)||(Eg a 64))then
some (([]:LB),0,2)
else
if(Cg a 64)then
(Gu (Je a 0)).bind λ_=>
if(Bc (Bv b (GI.toZ a).toNat) 0)then
some (([]:LB),0,16)
else
if(Eg (Ad y a) 330000)then
some (([]:LB),0,18)
else
(VO ac y).bind λ(ag,ah)=>
j15 b a b a ah ag
else
if(Eg (Ad y a) 330000)then
some (([]:LB),0,18)
else
(VO ac y).bind λ(aa,ai)=>
j22 b a b a ai aa
def PN:=eP tu ny
def Ur:Option Bool:=
(Gu (Je Y 0)).bind λ_=>
some (Je (Bv P (GI.toZ Y).toNat) 48)
def ZV:Option (Int×Int):=
if((Cg z 0)||(Eg z 48))then
some (0,2)
else
some ((Dt (Ad z 1) 48),0)
def SM:Option (LB×Int×Int):=
(Hp c d).bind λz=>
if(Bc z 0)then
some (([]:LB),0,z)
else
(ZV e).bind λ(i,j)=>
if(Bc j 0)then
some (([]:LB),0,j)
else
(Gu (Je e 0)).bind λ_=>
(PN c d (Ah (Ct (1:UInt64) (GI.toZ e).toNat) 1) i).bind λ(A,B,C)=>
some (A,B,C)
abbrev XX:=Option (LB×Int×Int)
def UL:XX:=
(SM c d e).bind λ(z,i,j)=>
if(Bc j 0)then
some (([]:LB),0,j)
else
(PN z i (Ae P:UInt64) Y).bind λ(A,B,C)=>
some (A,B,C)
def TY:=UL
def lH(j2:LB->Int->Int->UInt32->Int->XX)(b:LB)(f:Int)(g:UInt32)(a:Int):XX:=
(Hp b f).bind λk=>
if(Bc k 0)then
some (([]:LB),0,k)
else
if((Cg a 0)||(Eg a 24))then
some (([]:LB),0,2)
else
(Gu (Je a 0)).bind λ_=>
(Gu (Je a 0)).bind λ_=>
(Ur g a).bind λaa=>
if aa then
j2 b f 48 g 32
else
j2 b f (Ae (Bv g (GI.toZ a).toNat):Int) (Dr g (Ah (Ct (1:UInt32) (GI.toZ a).toNat) 1)) a
def ZA:=lH TY
abbrev Hq:=Option (LB×Int×Int×Int×UInt64×UInt64×Int)
def EC:Hq:=
(
(
some (q9,z,d,e,(Ad A (Ah (Ae P:UInt64) (Bv A (GI.toZ (4:UInt64)).toNat))),V,0)))
def QI:=EC
def TU(j10:Int->Int->Int->UInt64->UInt32->UInt64->LB->Hq)(b:UInt32)(k n:Int)(a o:UInt64)(m:LB)(u:Int):Hq:=
j10 k u n a b o m
def mM:=TU QI
def TG(j9:UInt32->Int->Int->UInt64->UInt64->LB->Int->Hq)(b:UInt32)(f:Int)(a:UInt64)(k:Int)(m:LB)(n:Int)(o:UInt64):Hq:=
if(Eg f 0)then
(Gu (Je f 0)).bind λ_=>
if(Cg (Ad a (Ah (Ae b:UInt64) (Bv a (GI.toZ (4:UInt64)).toNat))) (Ct (16:UInt64) (GI.toZ f).toNat))then
j9 b k n a o m (Ah f 1)
else
if(Cg f 24)then
(Gu (Je f 0)).bind λ_=>
if(Eg (Ad a (Ah (Ae b:UInt64) (Bv a (GI.toZ (4:UInt64)).toNat))) (Ct (32:UInt64) (GI.toZ f).toNat))then
j9 b k n a o m (Ad f 1)
else
j9 b k n a o m f
else
j9 b k n a o m f
else
if(Cg f 24)then
(Gu (Je f 0)).bind λ_=>
if(Eg (Ad a (Ah (Ae b:UInt64) (Bv a (GI.toZ (4:UInt64)).toNat))) (Ct (32:UInt64) (GI.toZ f).toNat))then
j9 b k n a o m (Ad f 1)
else
j9 b k n a o m f
else
j9 b k n a o m f
def Wo:=TG mM
def TE(j8:UInt32->Int->UInt64->Int->LB->Int->UInt64->Hq)(b:UInt32)(f h:Int)(a g:UInt64)(ac k:Int)(m:LB):Hq:=
if(Bc ac 0)then
some (([]:LB),0,0,0,0,0,ac)
else
(GQ f h a g b).bind λ(ag,p)=>
if(geq ag 1)then
if(Eg h 0)then
(Gu (Je h 0)).bind λ_=>
if(Cg (Ad g (Ah (Ae p:UInt64) (Bv g (GI.toZ (4:UInt64)).toNat))) (Ct (16:UInt64) (GI.toZ h).toNat))then
j8 b f a k m (Ah h 1) (Ad g (Ah (Ae p:UInt64) (Bv g (GI.toZ (4:UInt64)).toNat)))
else
if(Cg h 24)then
(Gu (Je h 0)).bind λ_=>
if(Eg (Ad g (Ah (Ae p:UInt64) (Bv g (GI.toZ (4:UInt64)).toNat))) (Ct (32:UInt64) (GI.toZ h).toNat))then
j8 b f a k m (Ad h 1) (Ad g (Ah (Ae p:UInt64) (Bv g (GI.toZ (4:UInt64)).toNat)))
else
j8 b f a k m h (Ad g (Ah (Ae p:UInt64) (Bv g (GI.toZ (4:UInt64)).toNat)))
else
j8 b f a k m h (Ad g (Ah (Ae p:UInt64) (Bv g (GI.toZ (4:UInt64)).toNat)))
else
if(Cg h 24)then
(Gu (Je h 0)).bind λ_=>
if(Eg (Ad g (Ah (Ae p:UInt64) (Bv g (GI.toZ (4:UInt64)).toNat))) (Ct (32:UInt64) (GI.toZ h).toNat))then
j8 b f a k m (Ad h 1) (Ad g (Ah (Ae p:UInt64) (Bv g (GI.toZ (4:UInt64)).toNat)))
else
j8 b f a k m h (Ad g (Ah (Ae p:UInt64) (Bv g (GI.toZ (4:UInt64)).toNat)))
else
j8 b f a k m h (Ad g (Ah (Ae p:UInt64) (Bv g (GI.toZ (4:UInt64)).toNat)))
else
j8 b f a k m h g
def TX:=TE Wo
def UE(j7:UInt32->Int->Int->UInt64->UInt64->Int->Int->LB->Hq)(b:UInt32)(v:LB)(w f h:Int)(a g:UInt64):Hq:=
(GQ f h a g b).bind λ(ad,ae)=>
(PN v w (Ae ad:UInt64) 1).bind λ(y,aa,ab)=>
if((geq ab 0)&&(geq ad 0))then
(PN y aa (Ae ae:UInt64) f).bind λ(ah,ai,aj)=>
j7 b f h a g aj ai ah
else
if(geq ab 0)then
(ZA y aa ae h).bind λ(ak,al,am)=>
j7 b f h a g am al ak
else
j7 b f h a g ab aa y
def lM:=UE TX
def UM(j6:UInt32->LB->Int->Int->Int->UInt64->UInt64->Hq)(v:LB)(w f h:Int)(a g:UInt64)(b:UInt32):Hq:=
(Hp v w).bind λan=>
if(Bc an 0)then
some (([]:LB),0,0,0,0,0,8)
else
(PW f h a g).bind λao=>
if(Bc ao 0)then
some (([]:LB),0,0,0,0,0,8)
else
j6 b v w f h a g
def YS:=UM lM
abbrev Bs:=Option (UInt32×Int)
def fI:Bs:=
some (P,0)
def OJ:=fI
def DH(j30:UInt32->Bs)(Az0:UInt32->Int->Bs)(a:LB)(b:LU)(h:UInt32)(m:Int):Bs:=
if(Cg m (Ac a))then
(Aj a m).bind λp=>
(Aj b (GI.toZ (Tu (Ae h:UInt8) p))).bind λ_=>
(Aj b (GI.toZ (Tu (Ae h:UInt8) p))).bind λu=>
Az0 (Tu (Bv h (GI.toZ (8:UInt64)).toNat) u) (Ad m 1)
else
j30 h
def Oi:Nat->UInt32->Int->Bs
|0,_,_=>none
|z+1,d,e=>DH OJ (Oi z) c X d e
def OX a b:=Oi a b Ap
def OR(j28:LB->LU->UInt32->Int->Bs)(f:UInt32)(a:LB)(b:LU):Bs:=
j28 a b f 0
def fJ:=OR OX
def OL(j27:UInt32->LB->LU->Bs)(f:UInt32)(a:LB)(b:LU):Bs:=
j27 f a b
def OV:=OL fJ
def eQ(Gc:Int->LU->Bs)(f:UInt32)(a:LB)(g:Int)(o:LU):Bs:=
Gc (Ad g 1) o
def iH Gc:=eQ Gc
def fW(j24:Int->LU->Bs)(f:UInt32)(a:LB)(g:Int)(k:UInt32)(b:LU):Bs:=
(Aj b g).bind λ_=>
(Jm b g k).bind λo=>
j24 g o
def CB Gc f a:=fW (iH Gc f a) f a
def BO(j23:Int->UInt32->LU->Bs)(Afo:UInt32->Int->Bs)(f:UInt32)(a:LB)(g:Int)(b:LU)(k:UInt32)(n:Int):Bs:=
if(Cg n 8)then
Afo (Tu (Bv k (GI.toZ (1:UInt64)).toNat) (Az 3988292384 (Dr k 1))) (Ad n 1)
else
j23 g k b
def Ny(Gc:Int->LU->Bs)(f:UInt32)(a:LB)(g:Int)(b:LU):Nat->UInt32->Int->Bs
|0,_,_=>none
|q+1,k,n=>BO (CB Gc f a) (Ny Gc f a g b q) f a g b k n
def NT Gc f a g b:=Ny Gc f a g b Ap
def DJ(j21:Int->LU->UInt32->Int->Bs)(j26:UInt32->LB->LU->Bs)(f:UInt32)(a:LB)(g:Int)(b:LU):Bs:=
if(Cg g 256)then
j21 g b (Ae g:UInt32) 0
else
j26 f a b
def Le:Nat->Int->LU->Bs
|0,_,_=>none
|z+1,c,d=>DJ (NT (Le z) P q9) OV P q9 c d
def eX f a:=Le f a Ap
def TR(j16:UInt32->LB->Int->LU->Bs)(f:UInt32)(a:LB):Bs:=
if(Eg (Ac a) 100000)then
some (0,4)
else
j16 f a 0 (List.replicate 256 (0:UInt32))
def aF:=TR eX
def Ub:Option (UInt32×Int):=
(aF 4294967295 c).bind λ(z,d)=>
if(Bc d 0)then
some (0,d)
else
some ((K2 z),0)
def yY:Option Bool:=
if(geq Y 8)then
some true
else
(Gu (Je (Az 8 Y) 0)).bind λ_=>
some (geq (Bv A (GI.toZ (Az 8 Y)).toNat) 0)
abbrev Yy:=Option (LB×Int)
def wO:Yy:=
some (c,0)
def eE:=wO
def RW(j6:LB->Yy)(Nv:Int->LB->Yy)(f:UInt64)(g:LB)(a:Int)(b:LB):Yy:=
if(Cg a (Ac g))then
(Gu (Je (Az 8 a) 0)).bind λ_=>
(Aj b a).bind λ_=>
(Jm b a (Ae (Bv f (GI.toZ (Az 8 a)).toNat):UInt8)).bind λk=>
Nv (Ad a 1) k
else
j6 b
def AF:Nat->Int->LB->Yy
|0,_,_=>none
|z+1,c,d=>RW eE (AF z) A q9 c d
def wP f g:=AF f g Ap
def gC(j4:UInt64->LB->Int->LB->Yy)(f:UInt64)(h:Int):Yy:=
if((Cg h 1)||(Eg h 8))then
some (([]:LB),2)
else
(yY f h).bind λm=>
if(!m)then
some (([]:LB),16)
else
(mkI h (0:UInt8)).bind λg=>
(Gu (geq h h)).bind λ_=>
j4 f g 0 g
def Wm:=gC wP
def NG:Option (LB):=
some c
def Ry:=NG
def Cq(j16:LB->Option (LB))(jA:Int->LB->Option (LB))(a:List LB)(g:Int)(f:LB):Option (LB):=
if(Cg g (Ac a))then
(Aj a g).bind λn=>
(Cm f n).bind λo=>
jA (Ad g 1) o
else
j16 f
def Bt:Nat->Int->LB->Option (LB)
|0,_,_=>none
|z+1,c,d=>Cq Ry (Bt z) L c d
def Gt a:=Bt a Ap
def Gv(j14:(List LB)->Int->LB->Option (LB))(a:List LB)(p:LB):Option (LB):=
j14 a 0 p
def Ep:=Gv Gt
def Gx(j13:(List LB)->LB->Option (LB))(b:Int)(a:List LB):Option (LB):=
if(Eg (Ah b (Ah (0:Int) (0:Int))) 0)then
(jS 0 0 0).bind λ_=>
(mkI (Ah b (Ah (0:Int) (0:Int))) (0:UInt8)).bind λu=>
(Cm ([]:LB) u).bind λk=>
(jS (Ac k) 0 0).bind λ_=>
j13 a (ZI k 0 ((0:Int)-(0:Int)))
else
j13 a ([]:LB)
def Kt:=Gx Ep
def Gw(j12:Int-> (List LB)->Option (LB))(a:List LB)(b:Int):Option (LB):=
if(Cg b 0)then
none
else
j12 b a
def Er:=Gw Kt
def Cw(j11:(List LB)->Int->Option (LB))(bk9:Int->Int->Option (LB))(a:List LB)(b h:Int):Option (LB):=
if(Cg h (Ac a))then
(Aj a h).bind λm=>
if(Cg (Ad b (Ac m)) 0)then
none
else
bk9 (Ad b (Ac m)) (Ad h 1)
else
j11 a b
def Cb:Nat->Int->Int->Option (LB)
|0,_,_=>none
|z+1,c,d=>Cw Er (Cb z) L c d
def Tf a:=Cb a Ap
def Lo(j9:(List LB)->Int->Int->Option (LB))(a:List LB):Option (LB):=
j9 a 0 0
def Dm:=Lo Tf
abbrev Be:=Option (LB×Int)
def PO(v:Int)(p:LB):Be:=
(Ub p).bind λ(af,ac)=>
if(Bc ac 0)then
some (([]:LB),ac)
else
(Wm (Ae af:UInt64) 4).bind λ(m,h)=>
if(Bc h 0)then
some (([]:LB),h)
else
(Dm ([p,m]:List LB)).bind λag=>
some (ag,0)
def Yk:=PO
def ON(aS:Int-> (List (Int×Int×UInt64×UInt64×Unit))->Int->LB->Be)(b:LU)(a g f:Int)(n:List (Int×Int×UInt64×UInt64×Unit))(k:Int)(w:LB):Be:=
aS (Ad f 1) n k w
def Yx aS:=ON aS
def QL(P4:Int->Int->LB->Be)(h:Int)(b:LU)(f a g:Int)(n:List (Int×Int×UInt64×UInt64×Unit))(m:LB)(o k:Int)(ab:LB):Be:=
P4 (Ad o 1) (Ad k 1) ab
def OW P4:=QL P4
def OD(j48:Int->Int->LB->Be)(h:Int)(b:LU)(f a g:Int)(n:List (Int×Int×UInt64×UInt64×Unit))(m:LB)(o k:Int)(y:LB):Be:=
(Aj m (Bf o 8)).bind λ_=>
(Aj m (Bf o 8)).bind λah=>
(Gu (Je (Fi o 8) 0)).bind λ_=>
(Aj y (Bf k 8)).bind λ_=>
(Gu (Je (Fi k 8) 0)).bind λ_=>
(Aj y (Bf k 8)).bind λai=>
(Aj y (Bf k 8)).bind λ_=>
Option.bind (Jm y (Bf k 8) (qO ai (Ct (Dr (Bv ah (GI.toZ (Fi o 8)).toNat) 1) (GI.toZ (Fi k 8)).toNat))) λab=>
j48 o k ab
def Pr P4 h b f a g n m:=OD (OW P4 h b f a g n m) h b f a g n m
def Ql(j47:Int->Int->LB->Be)(j50:Int-> (List (Int×Int×UInt64×UInt64×Unit))->Int->LB->Be)(b:LU)(a g h f:Int)(n:List (Int×Int×UInt64×UInt64×Unit))(m:LB)(o k:Int)(w:LB):Be:=
if(Cg o h)then
if(geq (Fi k 8) 0)then
(Cm w ([(0:UInt8)]:LB)).bind λaj=>
j47 o k aj
else
j47 o k w
else
j50 f n k w
def Fb(aS:Int-> (List (Int×Int×UInt64×UInt64×Unit))->Int->LB->Be)(b:LU)(a g h f:Int)(n:List (Int×Int×UInt64×UInt64×Unit))(m:LB):Nat->Int->Int->LB->Be
|0,_,_,_=>none
|q+1,o,k,w=>Ql (Pr (Fb aS b a g h f n m q) h b f a g n m) (Yx aS b a g) b a g h f n m o k w
def OY aS b a g h f n m:=Fb aS b a g h f n m Ap
def Qb(j44:Int->Int-> (List (Int×Int×UInt64×UInt64×Unit))->LB->Int->Int->LB->Be)(j52:Int->LB->Be)(b:LU)(a g f:Int)(u:List (Int×Int×UInt64×UInt64×Unit))(v:Int)(p:LB):Be:=
if(Cg f (Ac b))then
(Aj b f).bind λ_=>
(Aj b f).bind λak=>
(Gu (Bc a 0)).bind λ_=>
(Aj u (Fi f a)).bind λ_=>
(Aj u (Fi f a)).bind λaa=>
(YS ([]:LB) 0 aa.1 aa.2.1 aa.2.2.1 aa.2.2.2.1 ak).bind λ(m,h,al,am,an,ao,ad)=>
if(Bc ad 0)then
some (([]:LB),ad)
else
(Gu (Bc a 0)).bind λ_=>
(Aj u (Fi f a)).bind λ_=>
(Jm u (Fi f a) (al,am,an,ao,())).bind λn=>
j44 h f n m 0 v p
else
j52 v p
def Gi:Nat->Int-> (List (Int×Int×UInt64×UInt64×Unit))->Int->LB->Be
|0,_,_,_,_=>none
|z+1,c,d,e,i=>Qb (OY (Gi z) X y8 y9) Yk X y8 y9 c d e i
def NW b a g:=Gi b a g Ap
def BJ(j27:LU->Int->Int->Int-> (List (Int×Int×UInt64×UInt64×Unit))->Int->LB->Be)(a g:Int)(ap aq:LX):Be:=
(BS a g ap aq).bind λ(b,ae)=>
if(Bc ae 0)then
some (([]:LB),ae)
else
(CU).bind λar=>
j27 b a g 0 ar 0 ([]:LB)
def Jl:=BJ NW
def Ty(a:Int)(b:LX):LI->Int->Option (List LX)
  |[],_=>some []
  |n::l,x=>Option.bind (Bg b x (Ad x (Az n a))) λp=>Option.bind (Ty a b l (Ad x (Az n a))) λps=>some (p::ps)
def HI(a f:Int)(t:LX):List LX->List LB->Option (List LB×Int)
  |[],o=>some (o,0)
  |x::xs,o=>Option.bind (Jl a f t x) λy=>
    if(Bc y.2 0)=true then some ([],y.2)
    else Option.bind (Cm o [y.1]) λo'=>HI a f t xs o'
def gZ:Option (List LX):=
  Option.bind (Gu (Bc z 0)) λ_=>Option.bind (HY d (Bf (Ac i) z)) λc=>Option.bind (Gu (decide (Ac c.1<=17179869184))) λ_=>Ty z i c.1 0
def fF:Option (List LB×Int):=
  Option.bind (FQ z d e i) λc=>
    if(Bc c 0)=true then some ([],c)
    else Option.bind (Mh T) λj=>
      if(Bc j.2 0)=true then some ([],j.2)
      else Option.bind (gZ z e i) λA=>HI z d j.1 A []
def VM(b f a g h:Int):Option Bool:=
some (((((((geq b 1)||(geq b 2))&&(Eg f 0))&&(xU f 6))&&(Eg g 0))&&(xU g 1048576))&&(Eg h 0))
def GF:=VM
def VE(j2:Int->Int->Int->Int->Int->Option Bool)(b f a g h:Int):Option Bool:=
if(geq a 8)then
if(geq a 8)then
j2 b f a g h
else
some false
else
if(geq a 16)then
if(geq a 16)then
j2 b f a g h
else
some false
else
if(geq a 24)then
j2 b f a g h
else
some false
def Wl:=VE GF
def JR(k a m f b:Int):Option Bool:=
(Gu (Bc a 0)).bind λ_=>
if(Eg b (Bf 4000 a))then
some false
else
(Rc f b).bind λ(g,h)=>
some ((geq h 0)&&(xU g 1000))
def AP:Option Int:=
(Wl z d e B E).bind λc=>
if(!c)then
some 8
else
(JR z d e B E).bind λi=>
if(!i)then
some 8
else
some 0
abbrev Ll:=Option (LB×Int)
def bA:Ll:=
(Ub c).bind λ(z,d)=>
(Wm (Ae z:UInt64) 4).bind λ(e,i)=>
(Cm c e).bind λj=>
some (j,0)
def Xv:=bA
def Xt(j6:LB->Ll)(Nv:Int->LB->Ll)(b f g h k m:Int)(a:LB):Ll:=
if(Cg m 5)then
(Aj ([b,f,g,h,k]:LI) m).bind λw=>
(Aj ([(2:Int),(2:Int),(2:Int),(4:Int),(4:Int)]:LI) m).bind λy=>
(Wm (Ae w:UInt64) y).bind λ(n,v)=>
(Cm a n).bind λo=>
Nv (Ad m 1) o
else
j6 a
def Js:Nat->Int->LB->Ll
|0,_,_=>none
|c+1,i,j=>Xt Xv (Js c) z d e B E i j
def bM b f g h k:=Js b f g h k Ap
def KZ(j4:Int->Int->Int->Int->Int->Int->LB->Ll)(b f g h k:Int):Ll:=
(AP b f g h k).bind λp=>
if(Bc p 0)then
some (([]:LB),p)
else
j4 b f g h k 0 ([(84:UInt8),(84:UInt8),(65:UInt8),(49:UInt8)]:LB)
def CR:=KZ bM
def uD:Option (UInt64×Int):=
if(Eg (Ac c) 64)then
some (0,2)
else
(VR c).bind λ(z,d)=>
some (z,0)
def Um:Option (LB×Int):=
(uD c).bind λ(z,d)=>
if(Bc d 0)then
some (([]:LB),d)
else
(Wm z 8).bind λ(e,i)=>
some (e,i)
def K3:Option Int:=
some 0
def iZ:=K3
def DX:Option Int:=
if(Cg p8 (Ac Bcx))then
(Aj Bcx p8).bind λz=>
if((Cg z 5)||(Eg z p9))then
some 8
else
Bct (Ah p9 z) (Ad p8 1)
else
Bcr
def Oj:Nat->Int->Int->Option Int
|0,_,_=>none
|z+1,c,d=>DX iZ (Oj z) j c d
def gI a:=Oj a Ap
def DC(j4:LI->Int->Int->Option Int)(a:LI):Option Int:=
if((geq (Ac a) 0)||(Eg (Ac a) 1000))then
some 8
else
j4 a 100000 0
def Pj:=DC gI
abbrev Ga:=Option (LB×Int)
def xM:Ga:=
some (c,0)
def xY:=xM
def bB(j14:LB->Ga)(b:LB):Ga:=
(Ub b).bind λ(m,u)=>
(Wm (Ae m:UInt64) 4).bind λ(n,v)=>
(Cm b n).bind λg=>
j14 g
def KH:=bB xY
def bV(bk8:Int->LB->Ga)(a:LI)(f:Int)(h:LB):Ga:=
bk8 (Ad f 1) h
def KO bk8:=bV bk8
def DW(j11:Int->LB->Ga)(j13:LB->Ga)(a:LI)(f:Int)(b:LB):Ga:=
if(Cg f (Ac a))then
(Aj a f).bind λo=>
(Wm (Ae o:UInt64) 4).bind λ(p,w)=>
(Cm b p).bind λh=>
j11 f h
else
j13 b
def Nw:Nat->Int->LB->Ga
|0,_,_=>none
|z+1,c,d=>DW (KO (Nw z) j) KH j c d
def N7 a:=Nw a Ap
def OK(j8:LI->Int->LB->Ga)(a:LI):Ga:=
(Pj a).bind λk=>
if(Bc k 0)then
some (([]:LB),k)
else
j8 a 0 ([]:LB)
def AI:=OK N7
def lR:Option Int:=
some (Ac c)
def E6:Option (LB):=
some c
def iK:=E6
def gM(j6:LB->Option (LB))(Nv:Int->LB->Option (LB))(a:List LB)(f:Int)(b:LB):Option (LB):=
if(Cg f (Ac a))then
(Aj a f).bind λg=>
(Cm b g).bind λh=>
Nv (Ad f 1) h
else
j6 b
def QG:Nat->Int->LB->Option (LB)
|0,_,_=>none
|z+1,c,d=>gM iK (QG z) L c d
def J6 a:=QG a Ap
def fA(j4:(List LB)->Int->LB->Option (LB))(a:List LB):Option (LB):=
j4 a 0 ([]:LB)
def xD:=fA J6
abbrev Ea:=Option (LB×Int)
def xK:Ea:=
if(Bc z 0)then
some (([]:LB),z)
else
(Cm ([T,N,Bc1]:List LB) L).bind λc=>
(xD c).bind λd=>
some (d,0)
def yF:=xK
def xL(j14:Int-> (List LB)->LB->LB->LB->Ea)(h:LI)(a:List LB)(b f:LB):Ea:=
(AI h).bind λ(n,k)=>
j14 k a b f n
def bY:=xL yF
def xH(bk9:Int->LI->Ea)(a:List LB)(b f:LB)(g:Int)(m:LI):Ea:=
bk9 (Ad g 1) m
def bF bk9:=xH bk9
def gH(j11:Int->LI->Ea)(j13:LI-> (List LB)->LB->LB->Ea)(a:List LB)(b f:LB)(g:Int)(h:LI):Ea:=
if(Cg g (Ac a))then
(Aj a g).bind λ_=>
(Aj a g).bind λae=>
(lR ae).bind λk=>
(Aj h g).bind λ_=>
(Jm h g k).bind λm=>
j11 g m
else
j13 h a b f
def PX:Nat->Int->LI->Ea
|0,_,_=>none
|z+1,c,d=>gH (bF (PX z) L T N) bY L T N c d
def L9 a b f:=PX a b f Ap
def dZ(j9:(List LB)->LB->LB->Int->LI->Ea)(a:List LB)(b f:LB):Ea:=
(mkI (Ac a) (0:Int)).bind λaf=>
(Gu (geq (Ac a) (Ac a))).bind λ_=>
j9 a b f 0 af
def E0:=dZ L9
def eU(j8:(List LB)->LB->LB->Ea)(p u v:Int)(w:LX)(o:LB):Ea:=
(wU p u v w o).bind λ(y,ag,ah,ai,aj,aa)=>
if(Bc aa 0)then
some (([]:LB),aa)
else
(fF p u v w o).bind λ(a,ab)=>
if(Bc ab 0)then
some (([]:LB),ab)
else
(CR y ag ah ai aj).bind λ(b,ac)=>
if(Bc ac 0)then
some (([]:LB),ac)
else
if(geq y 2)then
(Um o).bind λ(ak,al)=>
j8 a b ak
else
j8 a b ([]:LB)
def wZ:=eU E0
def rG:Option (Int×Int):=
if((Cg z 0)||(Eg z 100000))then
some (0,2)
else
some ((Ad (fP z 8022) 8000),0)
def wR:Option (LB×LB×Int×Int×Int×Int×Int×LI×Int×LB×Bool×Int×Int):=
if(Eg (Ac c) 64)then
some (([]:LB),([]:LB),0,0,0,0,0,([]:LI),0,([]:LB),false,0,2)
else
some (c,([]:LB),0,0,0,0,0,([]:LI),0,([]:LB),false,0,0)
def JB:Option (LB):=
(
(Cm ([]:LB) c).bind λz=>
some z)
def Ms:Option (LI):=
(
(Cm ([]:LI) j).bind λz=>
some z)
def Hj:Option (LB×LB×Int×Int×Int×Int×Int×LI×Int×LB×Bool×Int):=
(JB G).bind λz=>
(JB N).bind λi=>
(Ms j).bind λA=>
some (c,z,d,e,B,E,M,A,C,i,I,J)
def Ja:Option (LI×Int):=
(AP z d e B E).bind λc=>
if(Bc c 0)then
some (([]:LI),c)
else
(HY B E).bind λ(i,j)=>
some (i,j)
def CA(a f g h k:Int)(b:LB):Option Int:=
if((b==([]:LB)) !=(geq a 1))then
some 26
else
some 0
def xJ(y:Int)(o p:LB)(h b f k m:Int)(g:LI)(a:Int)(n:LB)(u:Bool)(v:Int):Option Bool:=
some (xU (Ac n) y)
def bR:=xJ
def aW(j8:Int->LB->LB->Int->Int->Int->Int->Int->LI->Int->LB->Bool->Int->Option Bool)(P5:Int->Int->Option Bool)(w:LI)(o p:LB)(h b f k m:Int)(g:LI)(a:Int)(n:LB)(u:Bool)(v y aa:Int):Option Bool:=
if(Cg aa (Ac w))then
(Aj w aa).bind λac=>
P5 (Ad y (Bf (Az (Az ac b) f) 8)) (Ad aa 1)
else
j8 y o p h b f k m g a n u v
def KD:Nat->Int->Int->Option Bool
|0,_,_=>none
|z+1,c,d=>aW bR (KD z) j N Bc1 Bcv Bdv Bdw Bdx Bdy Bdz Bd0 Bd1 I J c d
def yD w o p h b f k m g a n u v:=KD w o p h b f k m g a n u v Ap
def bQ(j6:LI->LB->LB->Int->Int->Int->Int->Int->LI->Int->LB->Bool->Int->Int->Int->Option Bool)(o p:LB)(h b f k m:Int)(g:LI)(a:Int)(n:LB)(u:Bool)(v:Int)(ab:LI):Option Bool:=
if(geq (Ac g) 0)then
some ((geq a 0)&&(geq (Ac n) 0))
else
(Pj g).bind λad=>
if((((Bc ad 0)||(Bc (Ac g) (Ac ab)))||(Cg a 0))||(Eg a (Ac ab)))then
some false
else
(Bg ab 0 a).bind λw=>
j6 w o p h b f k m g a n u v 0 0
def yA:=bQ yD
def bW(j5:LB->LB->Int->Int->Int->Int->Int->LI->Int->LB->Bool->Int->LI->Option Bool)(o p:LB)(h b f k m:Int)(g:LI)(a:Int)(n:LB)(u:Bool)(v:Int):Option Bool:=
if((geq h 0)&&((geq b 0)&&((geq f 0)&&((geq k 0)&&((geq m 0)&&true)))))then
some (((geq (Ac g) 0)&&(geq a 0))&&(geq (Ac n) 0))
else
(Ja h b f k m).bind λ(ab,ae)=>
if(Bc ae 0)then
some false
else
(CA h b f k m o).bind λaf=>
if(Bc af 0)then
some false
else
j5 o p h b f k m g a n u v ab
def YD:=bW yA
def Mt:Option Bool:=
some (c==G)
def Jt:Option Bool:=
if(Je (Ac c) (Ac G))then
(Bg c 0 (Ac G)).bind λz=>
(Mt z G).bind λd=>
some d
else
some false
abbrev Jw:=Option (Int×Int)
def tQ:Jw:=
some (z,0)
def WS:=tQ
def VK(j6:Int->Jw)(Nv:Int->Int->Jw)(a:LB)(b f:Int):Jw:=
if(Cg f (Ac a))then
(Aj a f).bind λg=>
if(Eg g 127)then
some (0,12)
else
Nv (qO (Ct b (GI.toZ (7:UInt64)).toNat) (Ae g:Int)) (Ad f 1)
else
j6 b
def FR:Nat->Int->Int->Jw
|0,_,_=>none
|z+1,d,e=>VK WS (FR z) c d e
def sR a:=FR a Ap
def WK(j4:LB->Int->Int->Jw)(a:LB):Jw:=
if(Bc (Ac a) 4)then
some (0,2)
else
j4 a 0 0
def mA:=WK sR
abbrev Hn:=Option (Int×Int)
def xQ:Hn:=
if(Eg l6 4000)then
some (0,4)
else
if(Cg (Ac c) l6)then
some (0,24)
else
if(geq Bcu 16)then
(Bg c (Ah l6 10) l6).bind λz=>
(Bg z 0 3).bind λd=>
if(d !=([51,68,73]:LB))then
some (0,12)
else
(Bg z 3 (Ac z)).bind λe=>
(Bg c 3 10).bind λi=>
(Mt e i).bind λj=>
if(!j)then
some (0,12)
else
some (l6,0)
else
some (l6,0)
def xO:=xQ
def xZ(j8:LB->UInt8->Int->Hn)(a:LB)(g:Int)(b:UInt8):Hn:=
if(geq b 16)then
j8 a b (Ad (Ad g 10) 10)
else
j8 a b (Ad g 10)
def yH:=xZ xO
def xI(j7:LB->Int->UInt8->Hn)(a:LB)(g:Int)(b:UInt8)(m:Bool):Hn:=
if m then
some (0,12)
else
j7 a g b
def aT:=xI yH
def bZ(j6:LB->Int->UInt8->Bool->Hn)(a:LB)(f b:UInt8):Hn:=
(Bg a 6 10).bind λaa=>
(mA aa).bind λ(g,ab)=>
if(Bc ab 0)then
if true then
j6 a g b true
else
if(geq b 0)then
j6 a g b (!((Je f 2)&&(xU f 4)))
else
if(geq b 16)then
j6 a g b (!(geq f 4))
else
j6 a g b (!false)
else
(Aj a 4).bind λac=>
if(Bc ac 0)then
j6 a g b true
else
if(geq b 0)then
j6 a g b (!((Je f 2)&&(xU f 4)))
else
if(geq b 16)then
j6 a g b (!(geq f 4))
else
j6 a g b (!false)
def bD:=bZ aT
def KL(j5:LB->UInt8->UInt8->Hn)(a:LB):Hn:=
(Jt a ([(73:UInt8),(68:UInt8),(51:UInt8)]:LB)).bind λn=>
if(!n)then
some (0,6)
else
if(Cg (Ac a) 10)then
some (0,24)
else
(Aj a 3).bind λf=>
(Aj a 5).bind λb=>
(
(
(
j5 a f b)))
def oZ:=KL bD
abbrev Za:=Option (UInt64×Int)
def zo:Za:=
some (A,0)
def wA:=zo
def SA(j6:UInt64->Za)(Nv:UInt64->Int->Za)(a:LB)(f:UInt64)(b:Int):Za:=
if(Cg b (Ac a))then
(Aj a b).bind λg=>
(Gu (Je (Az 8 b) 0)).bind λ_=>
Nv (qO f (Ct (Ae g:UInt64) (GI.toZ (Az 8 b)).toNat)) (Ad b 1)
else
j6 f
def Zi:Nat->UInt64->Int->Za
|0,_,_=>none
|z+1,d,e=>SA wA (Zi z) c d e
def wT a:=Zi a Ap
def iX(j4:LB->UInt64->Int->Za)(a:LB):Za:=
if((Cg (Ac a) 1)||(Eg (Ac a) 8))then
some (0,2)
else
j4 a 0 0
def fG:=iX wT
def iC:Option (UInt64×Int):=
if(((Cg e 1)||(Eg e 8))||(Cg d 0))then
some (0,2)
else
if(Eg d (Ah (Ac c) e))then
some (0,24)
else
(Bg c d (Ad d e)).bind λz=>
(fG z).bind λ(i,j)=>
some (i,j)
def L7:Option (LB):=
some c
def nM:=L7
def YY(j6:LB->Option (LB))(Nv:Int->LB->Option (LB))(a b:Int)(f:UInt64)(h:Int)(g:LB):Option (LB):=
if(Cg h (Ac ([(2000:UInt64),(Ae (Ad a 32):UInt64),(Ae b:UInt64),f,(0:UInt64),(0:UInt64)]:LQ)))then
(Aj ([(2000:UInt64),(Ae (Ad a 32):UInt64),(Ae b:UInt64),f,(0:UInt64),(0:UInt64)]:LQ) h).bind λ_=>
(Aj ([(2000:UInt64),(Ae (Ad a 32):UInt64),(Ae b:UInt64),f,(0:UInt64),(0:UInt64)]:LQ) h).bind λk=>
(Wm k 4).bind λ(m,o)=>
(Cm g m).bind λn=>
Nv (Ad h 1) n
else
j6 g
def Zc:Nat->Int->LB->Option (LB)
|0,_,_=>none
|c+1,e,i=>YY nM (Zc c) z d A e i
def C8 a b f:=Zc a b f Ap
def oE(j4:Int->Int->UInt64->Int->LB->Option (LB))(a b:Int)(f:UInt64):Option (LB):=
j4 a b f 0 ([(65:UInt8),(80:UInt8),(69:UInt8),(84:UInt8),(65:UInt8),(71:UInt8),(69:UInt8),(88:UInt8)]:LB)
def jP:=oE C8
def NJ:Option (Int×Int×Bool):=
(iC c 12 4).bind λ(z,d)=>
(iC c 16 4).bind λ(e,i)=>
if(((Cg z 32)||(Eg z 3032))||(Eg e 1000))then
some (0,0,false)
else
(jP (Ah (Ae z:Int) 32) (Ae e:Int) A).bind λj=>
(Mt c j).bind λB=>
some ((Ah (Ae z:Int) 32),(Ae e:Int),B)
def U6:Option (Int×Int):=
(Jt c ([(65:UInt8),(80:UInt8),(69:UInt8),(84:UInt8),(65:UInt8),(71:UInt8),(69:UInt8),(88:UInt8)]:LB)).bind λz=>
if(!z)then
some (0,6)
else
if(Cg (Ac c) 32)then
some (0,24)
else
(Bg c 0 32).bind λd=>
(NJ d 2684354560).bind λ(e,i,j)=>
if(!j)then
some (0,12)
else
if(Cg (Ac c) (Ad e 64))then
some (0,24)
else
(Bg c (Ah (Ad e 64) 32) (Ad e 64)).bind λA=>
(jP e i 2147483648).bind λB=>
(Mt A B).bind λC=>
if(!C)then
some (0,12)
else
some ((Ad e 64),0)
def FY:Option (Int×Int):=
(oZ c).bind λ(z,d)=>
if(Bc d 6)then
some (z,d)
else
(U6 c).bind λ(e,i)=>
some (e,i)
def HF(b:List UInt8):Nat->Int->Option (Int×Int)
  |0,_=>none
  |q+1,x=>Option.bind (Bg b x (Ac b)) λs=>Option.bind (FY s) λr=>
    if geq r.2 (6:Int)=true then some (x,0)
    else if(geq r.2 (0:Int)&&Eg (Ad x r.1) (4000:Int))=true then some (0,4)
    else if Bc r.2 (0:Int)=true then some (0,r.2)
    else HF b q (Ad x r.1)
def Mr(b:List UInt8):Option (Int×Int):=HF b Ap 0
def Am:Option (Bool×Int):=
some (false,z)
def Oq:Option Bool:=
if(Je (Ac c) (Ac G))then
(Bg c 0 (Ac G)).bind λz=>
some (z==G)
else
some false
def AY:Option Bool:=
(Oq c G).bind λz=>
some z
def xP:Option Bool:=
some false
def bC:=xP
def aY(j6:Option Bool)(Nv:Int->Option Bool)(a:LB)(b:Int):Option Bool:=
if(Cg b 2)then
(Aj ([([73,68,51]:LB),([65,80,69,84,65,71,69,88]:LB)]:List LB) b).bind λf=>
if(Cg (Ac a) (Ac f))then
(AY f a).bind λg=>
if g then
some true
else
Nv (Ad b 1)
else
Nv (Ad b 1)
else
j6
def KN:Nat->Int->Option Bool
|0,_=>none
|z+1,d=>aY bC (KN z) c d
def xR a:=KN a Ap
def bT(j4:LB->Int->Option Bool)(a:LB):Option Bool:=
j4 a 0
def DZ:=bT xR
abbrev Nb:=Option (Int×Int×Int×Int×Int×Int)
def O0:Nb:=
(Aj j 0).bind λ_=>
(Aj j 0).bind λz=>
(Aj j 1).bind λ_=>
(Aj j 1).bind λc=>
(Aj j 2).bind λ_=>
(Aj j 2).bind λd=>
(Aj j 3).bind λ_=>
(Aj j 3).bind λe=>
(Aj j 4).bind λ_=>
(Aj j 4).bind λi=>
(Wl z c d e i).bind λA=>
if(!A)then
some (0,0,0,0,0,12)
else
(JR z c d e i).bind λB=>
if(!B)then
some (0,0,0,0,0,4)
else
some (z,c,d,e,i,0)
def eJ:=O0
def eK(j6:LI->Nb)(Nv:Int->Int->LI->Nb)(b:LB)(g f:Int)(a:LI):Nb:=
if(Cg f 5)then
(Aj ([(2:Int),(2:Int),(2:Int),(4:Int),(4:Int)]:LI) f).bind λh=>
(iC b g h).bind λ(v,ae)=>
(Aj a f).bind λ_=>
(Jm a f (Ae v:Int)).bind λw=>
Nv (Ad g h) (Ad f 1) w
else
j6 a
def NV:Nat->Int->Int->LI->Nb
|0,_,_,_=>none
|z+1,d,e,i=>eK eJ (NV z) c d e i
def D3 b:=NV b Ap
def gU(j4:LB->Int->Int->LI->Nb)(b:LB):Nb:=
(Bg b 0 (Dt 4 (Ac b))).bind λy=>
(AY ([84,84,65,49]:LB) y).bind λaa=>
if(!aa)then
some (0,0,0,0,0,12)
else
if(Cg (Ac b) 22)then
some (0,0,0,0,0,24)
else
(iC b 18 4).bind λ(ab,af)=>
(Bg b 0 18).bind λac=>
(Ub ac).bind λ(ad,ag)=>
if(Bc (Ae ad:UInt64) ab)then
some (0,0,0,0,0,22)
else
j4 b 4 0 (List.replicate 5 (0:Int))
def Zt:=gU D3
def NC:Option (Bool×Int):=
(Um G).bind λ(z,d)=>
if((Bc d 0)||(Bc (Ac c) (Ac z)))then
some (false,2)
else
(Mt c z).bind λe=>
some (e,0)
abbrev Qc:=Option (LI×Int)
def R2:Qc:=
(Pj j).bind λz=>
if(Bc z 0)then
some (([]:LI),12)
else
some (j,0)
def lJ:=R2
def lZ(j6:LI->Qc)(Nv:Int->LI->Qc)(a:LB)(f:LI)(g:Int)(b:LI):Qc:=
if(Cg g (Ac f))then
(iC a (Az 4 g) 4).bind λ(k,u)=>
(Aj b g).bind λ_=>
(Jm b g (Ae k:Int)).bind λm=>
Nv (Ad g 1) m
else
j6 b
def TS:Nat->Int->LI->Qc
|0,_,_=>none
|z+1,d,e=>lZ lJ (TS z) c j d e
def Q5 a f:=TS a f Ap
def mR(j4:LB->LI->Int->LI->Qc)(a:LB)(h:Int):Qc:=
if((Cg h 1)||(Eg h 1000))then
some (([]:LI),2)
else
if(Cg (Ac a) (Ad (Az 4 h) 4))then
some (([]:LI),24)
else
(iC a (Az 4 h) 4).bind λ(n,v)=>
(Bg a 0 (Az 4 h)).bind λo=>
(Ub o).bind λ(p,w)=>
if(Bc (Ae p:UInt64) n)then
some (([]:LI),22)
else
(mkI h (0:Int)).bind λf=>
(Gu (geq h h)).bind λ_=>
j4 a f 0 f
def YW:=mR Q5
def TK(f a b g h:Int):Option (Int×Int):=
some (a,b)
def CN:Option (LB×Int):=
if(Cg (Ac c) 5)then
some (([]:LB),24)
else
if(Eg (Ac c) 41254)then
some (([]:LB),4)
else
(Bg c 0 (Ah (Ac c) 4)).bind λz=>
(Ub z).bind λ(d,e)=>
if(Bc e 0)then
some (([]:LB),e)
else
(Bg c (Ah (Ac c) 4) (Ac c)).bind λi=>
(fG i).bind λ(j,A)=>
if((Bc A 0)||(Bc j (Ae d:UInt64)))then
some (([]:LB),22)
else
(Bg c 0 (Ah (Ac c) 4)).bind λB=>
some (B,0)
def su:Option (LB×Int×Int):=
if(Eg (Ac c) 41250)then
some (([]:LB),0,4)
else
(Bb c).bind λz=>
some (z,(Az 8 (Ac c)),0)
def Ac0:Option UInt64:=
some A
def wS:=Ac0
def gJ(j6:UInt64->Option UInt64)(Nv:UInt64->Int->Option UInt64)(b f:Int)(h:LB)(k:Int)(g:UInt64)(a:Int):Option UInt64:=
if(Cg a f)then
(Aj h (qg (Ad b a) (GI.toZ (3:UInt64)).toNat)).bind λm=>
(Gu (Je (Dr (Ad b a) 7) 0)).bind λ_=>
(Gu (Je (Dt (Ah f a) (Ah 8 (Dr (Ad b a) 7))) 0)).bind λ_=>
(Gu (Je a 0)).bind λ_=>
Nv (qO g (Ct (Ae (Dr (Bv m (GI.toZ (Dr (Ad b a) 7)).toNat) (Ah (Ct (1:UInt8) (GI.toZ (Dt (Ah f a) (Ah 8 (Dr (Ad b a) 7)))).toNat) 1)):UInt64) (GI.toZ a).toNat)) (Ad a (Dt (Ah f a) (Ah 8 (Dr (Ad b a) 7))))
else
j6 g
def IU:Nat->UInt64->Int->Option UInt64
|0,_,_=>none
|c+1,e,i=>gJ wS (IU c) z d D U e i
def Aat b f h k:=IU b f h k Ap
def vK(j4:Int->Int->LB->Int->UInt64->Int->Option UInt64)(h:LB)(k b f:Int):Option UInt64:=
j4 b f h k 0 0
def rJ:=vK Aat
abbrev Ej:=Option (LB×Int×Int)
def rM:Ej:=
some (c,z,0)
def YH:=rM
def qC(aS:Int->Int->LB->Ej)(a:Int)(g:LB)(b f h:Int)(u:LB):Ej:=
aS (Ad f 64) h u
def MP aS:=qC aS
def qE(P4:UInt64->Int->Int->LB->Ej)(a f:Int)(g:LB)(b:Int)(m n:UInt64)(k h:Int)(w:LB):Ej:=
(Gu (Je (Dt k (Ah 8 (Dr h 7))) 0)).bind λ_=>
P4 (Bv n (GI.toZ (Dt k (Ah 8 (Dr h 7)))).toNat) (Ah k (Dt k (Ah 8 (Dr h 7)))) (Ad h (Dt k (Ah 8 (Dr h 7)))) w
def qW P4:=qE P4
def sJ(j48:UInt64->Int->Int->LB->Ej)(a f:Int)(g:LB)(b:Int)(m n:UInt64)(k h:Int)(v:LB):Ej:=
(Aj v (Ah (Ac v) 1)).bind λ_=>
(Gu (Je (Dt k (Ah 8 (Dr h 7))) 0)).bind λ_=>
(Gu (Je (Dr h 7) 0)).bind λ_=>
(Aj v (Ah (Ac v) 1)).bind λaa=>
(Aj v (Ah (Ac v) 1)).bind λ_=>
Option.bind (Jm v (Ah (Ac v) 1) (qO aa (Ct (Ae (Dr n (Ah (Ct (1:UInt64) (GI.toZ (Dt k (Ah 8 (Dr h 7)))).toNat) 1)):UInt8) (GI.toZ (Dr h 7)).toNat))) λw=>
j48 n k h w
def MX P4 a f g b m:=sJ (qW P4 a f g b m) a f g b m
def MT(j47:UInt64->Int->Int->LB->Ej)(j50:Int->Int->LB->Ej)(a:Int)(g:LB)(b f:Int)(m n:UInt64)(k h:Int)(u:LB):Ej:=
if(Eg k 0)then
if(geq (Dr h 7) 0)then
(Cm u ([(0:UInt8)]:LB)).bind λab=>
j47 n k h ab
else
j47 n k h u
else
j50 f h u
def Mm(aS:Int->Int->LB->Ej)(a:Int)(g:LB)(b f:Int)(m:UInt64):Nat->UInt64->Int->Int->LB->Ej
|0,_,_,_,_=>none
|q+1,n,k,h,u=>MT (MX (Mm aS a g b f m q) a f g b m) (MP aS a g b) a g b f m n k h u
def ZS aS a g b f m:=Mm aS a g b f m Ap
def ZP(j44:Int->UInt64->UInt64->Int->Int->LB->Ej)(j52:Int->LB->Ej)(a:Int)(g:LB)(b f o:Int)(p:LB):Ej:=
if(Cg f a)then
(rJ g b f (Dt 64 (Ah a f))).bind λm=>
j44 f m m (Dt 64 (Ah a f)) o p
else
j52 o p
def Tz:Nat->Int->Int->LB->Ej
|0,_,_,_=>none
|e+1,i,j,A=>ZP (ZS (Tz e) z c d) YH z c d i j A
def oS a g b:=Tz a g b Ap
def gO(j27:Int->LB->Int->Int->Int->LB->Ej)(g:LB)(b y a:Int):Ej:=
(Hp g b).bind λac=>
if(Bc ac 0)then
some (([]:LB),0,8)
else
if(((Cg y 0)||(Eg y a))||(Eg a b))then
some (([]:LB),0,2)
else
j27 a g b y 0 ([]:LB)
def gG:=gO oS
def DA:Option (UInt64×Int):=
(Hp c d).bind λz=>
if(Bc z 0)then
some (0,8)
else
if(((Cg B 0)||(Eg B 64))||(Cg e 0))then
some (0,2)
else
if(Eg e (Ah d B))then
some (0,24)
else
(rJ c d e B).bind λi=>
some (i,0)
def Fm:Option Int:=
if(geq A 0)then
some 64
else
(Aj ([(0:UInt8),(1:UInt8),(56:UInt8),(2:UInt8),(57:UInt8),(49:UInt8),(28:UInt8),(3:UInt8),(61:UInt8),(58:UInt8),(42:UInt8),(50:UInt8),(38:UInt8),(29:UInt8),(17:UInt8),(4:UInt8),(62:UInt8),(47:UInt8),(59:UInt8),(36:UInt8),(45:UInt8),(43:UInt8),(51:UInt8),(22:UInt8),(53:UInt8),(39:UInt8),(33:UInt8),(30:UInt8),(24:UInt8),(18:UInt8),(12:UInt8),(5:UInt8),(63:UInt8),(55:UInt8),(48:UInt8),(27:UInt8),(60:UInt8),(41:UInt8),(37:UInt8),(16:UInt8),(46:UInt8),(35:UInt8),(44:UInt8),(21:UInt8),(52:UInt8),(32:UInt8),(23:UInt8),(11:UInt8),(54:UInt8),(26:UInt8),(40:UInt8),(15:UInt8),(34:UInt8),(20:UInt8),(31:UInt8),(10:UInt8),(25:UInt8),(14:UInt8),(19:UInt8),(9:UInt8),(13:UInt8),(8:UInt8),(7:UInt8),(6:UInt8)]:LB) (GI.toZ (Bv (Az (Dr A (pL A)) 285870213051353865) (GI.toZ (58:UInt64)).toNat))).bind λz=>
some (Ae z:Int)
abbrev Hi:=Option (Int×Int×Int)
def E7:Hi:=
some (0,0,24)
def E1:=E7
def Q7(j10:Hi):Hi:=
j10
def P9:=Q7 E1
def lS(j9:Hi)(f a:Int):Hi:=
if(geq f 48)then
some (f,(Ad 0 (Ad a f)),0)
else
j9
def mF:=lS P9
def mB(j8:Int->Int->Hi)(f b a:Int):Hi:=
if(Cg f (Dt 48 (Ah b a)))then
some (f,(Ad (Ad (0:Int) (1:Int)) (Ad a f)),0)
else
j8 f a
def mL:=mB mF
def mI(j7:Int->Int->Int->Hi)(h:Int)(k:UInt64)(a:Int)(g:LB)(b:Int):Hi:=
if(Bc h 0)then
some (0,0,h)
else
(Fm (K2 k)).bind λf=>
j7 f b a
def TM:=mI mL
def Xe(j6:Int->UInt64->Int->LB->Int->Hi)(g:LB)(b a:Int):Hi:=
(Hp g b).bind λm=>
if(Bc m 0)then
some (0,0,m)
else
if(Cg a 0)then
some (0,0,2)
else
if(Je a b)then
some (0,0,24)
else
(
(
(DA g b a (Dt 48 (Ah b a))).bind λ(k,h)=>
j6 h k a g b))
def GM:=Xe TM
abbrev gR:=Option (UInt32×Int×Int)
def ZC:gR:=
(DA D U d C).bind λ(c,i)=>
if(Bc i 0)then
some (0,0,i)
else
if(Cg e 48)then
(Gu (Je z 0)).bind λ_=>
some ((qO (Ct (Ae e:UInt32) (GI.toZ z).toNat) (Ae c:UInt32)),(Ad d C),0)
else
(Ur (Ae c:UInt32) z).bind λj=>
if(!j)then
some (0,0,12)
else
some ((Ae c:UInt32),(Ad d C),0)
def aB:=ZC
def qR(j2:Int->Int->Int->LB->Int->Int->gR)(g:LB)(h v a:Int):gR:=
(Hp g h).bind λo=>
if(Bc o 0)then
some (0,0,o)
else
if((Cg a 0)||(Eg a 24))then
some (0,0,2)
else
(GM g h v).bind λ(f,b,p)=>
if(Bc p 0)then
some (0,0,p)
else
if(geq f 48)then
j2 a b f g h 32
else
j2 a b f g h a
def jY:=qR aB
abbrev Jk:=Option (UInt32×Int×Int×Int×UInt64×UInt64×Int)
def lO:Jk:=
some (P,Y,Bde,l7,(Ad Bc0 (Ah (Ae P:UInt64) (Bv Bc0 (GI.toZ (4:UInt64)).toNat))),Bc3,0)
def lY:=lO
def rH(j10:UInt32->Int->Int->Int->UInt64->UInt64->Jk)(f:UInt32)(k m:Int)(b n:UInt64)(w:Int):Jk:=
j10 f k w m b n
def oX:=rH lY
def sC(j9:UInt32->Int->Int->UInt64->UInt64->Int->Jk)(f:UInt32)(k a:Int)(b:UInt64)(m:Int)(n:UInt64):Jk:=
if(Eg a 0)then
(Gu (Je a 0)).bind λ_=>
if(Cg (Ad b (Ah (Ae f:UInt64) (Bv b (GI.toZ (4:UInt64)).toNat))) (Ct (16:UInt64) (GI.toZ a).toNat))then
j9 f k m b n (Ah a 1)
else
if(Cg a 24)then
(Gu (Je a 0)).bind λ_=>
if(Eg (Ad b (Ah (Ae f:UInt64) (Bv b (GI.toZ (4:UInt64)).toNat))) (Ct (32:UInt64) (GI.toZ a).toNat))then
j9 f k m b n (Ad a 1)
else
j9 f k m b n a
else
j9 f k m b n a
else
if(Cg a 24)then
(Gu (Je a 0)).bind λ_=>
if(Eg (Ad b (Ah (Ae f:UInt64) (Bv b (GI.toZ (4:UInt64)).toNat))) (Ct (32:UInt64) (GI.toZ a).toNat))then
j9 f k m b n (Ad a 1)
else
j9 f k m b n a
else
j9 f k m b n a
def DQ:=sC oX
def YI(j8:UInt32->Int->Int->UInt64->Int->UInt64->Jk)(a h:Int)(b g:UInt64)(f:UInt32)(k:Int):Jk:=
(GQ a h b g f).bind λ(ad,o)=>
if(geq ad 1)then
if(Eg h 0)then
(Gu (Je h 0)).bind λ_=>
if(Cg (Ad g (Ah (Ae o:UInt64) (Bv g (GI.toZ (4:UInt64)).toNat))) (Ct (16:UInt64) (GI.toZ h).toNat))then
j8 f k a b (Ah h 1) (Ad g (Ah (Ae o:UInt64) (Bv g (GI.toZ (4:UInt64)).toNat)))
else
if(Cg h 24)then
(Gu (Je h 0)).bind λ_=>
if(Eg (Ad g (Ah (Ae o:UInt64) (Bv g (GI.toZ (4:UInt64)).toNat))) (Ct (32:UInt64) (GI.toZ h).toNat))then
j8 f k a b (Ad h 1) (Ad g (Ah (Ae o:UInt64) (Bv g (GI.toZ (4:UInt64)).toNat)))
else
j8 f k a b h (Ad g (Ah (Ae o:UInt64) (Bv g (GI.toZ (4:UInt64)).toNat)))
else
j8 f k a b h (Ad g (Ah (Ae o:UInt64) (Bv g (GI.toZ (4:UInt64)).toNat)))
else
if(Cg h 24)then
(Gu (Je h 0)).bind λ_=>
if(Eg (Ad g (Ah (Ae o:UInt64) (Bv g (GI.toZ (4:UInt64)).toNat))) (Ct (32:UInt64) (GI.toZ h).toNat))then
j8 f k a b (Ad h 1) (Ad g (Ah (Ae o:UInt64) (Bv g (GI.toZ (4:UInt64)).toNat)))
else
j8 f k a b h (Ad g (Ah (Ae o:UInt64) (Bv g (GI.toZ (4:UInt64)).toNat)))
else
j8 f k a b h (Ad g (Ah (Ae o:UInt64) (Bv g (GI.toZ (4:UInt64)).toNat)))
else
j8 f k a b h g
def YM:=YI DQ
def YR(j7:Int->Int->UInt64->UInt64->UInt32->Int->Jk)(p:Int)(u:LB)(v a h:Int)(b g:UInt64):Jk:=
(DA u v p 1).bind λ(ae,aa)=>
if(Bc aa 0)then
some (0,0,0,0,0,0,aa)
else
if(geq ae 0)then
(DA u v (Ad p 1) a).bind λ(af,ab)=>
if(Bc ab 0)then
some (0,0,0,0,0,0,ab)
else
j7 a h b g (Ae af:UInt32) (Ad (Ad p 1) a)
else
(jY u v (Ad p 1) h).bind λ(y,ag,ac)=>
if(Bc ac 0)then
some (0,0,0,0,0,0,ac)
else
(Gu (Je a 0)).bind λ_=>
if(Cg (Ad y (Ct (1:UInt32) (GI.toZ a).toNat)) y)then
some (0,0,0,0,0,0,12)
else
j7 a h b g (Ad y (Ct (1:UInt32) (GI.toZ a).toNat)) ag
def sG:=YR YM
def aO(j6:Int->LB->Int->Int->Int->UInt64->UInt64->Jk)(u:LB)(v p a h:Int)(b g:UInt64):Jk:=
(Hp u v).bind λah=>
if(Bc ah 0)then
some (0,0,0,0,0,0,8)
else
(PW a h b g).bind λai=>
if(Bc ai 0)then
some (0,0,0,0,0,0,8)
else
j6 p u v a h b g
def GB:=aO sG
abbrev Br:=Option (LU×Int×Int)
def nR:Br:=
some (X,z,0)
def PY:=nR
def PR(Gc:Int->Int-> (List (Int×Int×UInt64×UInt64×Unit))->LU->Br)(a f:Int)(g:LB)(b k v:Int)(w:UInt32)(h:Int)(ah:List (Int×Int×UInt64×UInt64×Unit))(n:LU):Br:=
(Cm n ([w]:LU)).bind λak=>
Gc (Ad k v) (Ad h 1) ah ak
def OA Gc:=PR Gc
def Yi(j22:Int->Int->UInt32->Int-> (List (Int×Int×UInt64×UInt64×Unit))->LU->Br)(a f:Int)(g:LB)(b k h y:Int)(w:UInt32)(v:Int)(m:List (Int×Int×UInt64×UInt64×Unit))(n:LU)(aa ab:Int)(ac ad:UInt64):Br:=
if(Bc y 0)then
some (([]:LU),0,y)
else
(Gu (Bc a 0)).bind λ_=>
(Aj m (Fi h a)).bind λ_=>
(Jm m (Fi h a) (aa,ab,ac,ad,())).bind λah=>
j22 k v w h ah n
def Pw Gc a f g b:=Yi (OA Gc a f g b) a f g b
def Qn(j21:Int->Int->Int->UInt32->Int-> (List (Int×Int×UInt64×UInt64×Unit))->LU->Int->Int->UInt64->UInt64->Br)(j24:Int->LU->Br)(a f:Int)(g:LB)(b k h:Int)(m:List (Int×Int×UInt64×UInt64×Unit))(n:LU):Br:=
if(Cg h (Az f a))then
(gG g b k (Dt (Ad k 81) b)).bind λ(ag,ae,af)=>
if(Bc af 0)then
some (([]:LU),0,af)
else
(Gu (Bc a 0)).bind λ_=>
(Aj m (Fi h a)).bind λ_=>
(
(
(Aj m (Fi h a)).bind λo=>
(
(GB ag ae 0 o.1 o.2.1 o.2.2.1 o.2.2.2.1).bind λ(w,v,aa,ab,ac,ad,y)=>
j21 k h y w v m n aa ab ac ad)))
else
j24 k n
def Ld:Nat->Int->Int-> (List (Int×Int×UInt64×UInt64×Unit))->LU->Br
|0,_,_,_,_=>none
|c+1,e,i,j,A=>Qn (Pw (Ld c) z d D U) PY z d D U e i j A
def QM a f g b:=Ld a f g b Ap
def NS(j16:Int->Int->LB->Int->Int->Int-> (List (Int×Int×UInt64×UInt64×Unit))->LU->Br)(a f:Int)(g:LB)(b:Int)(p:List (Int×Int×UInt64×UInt64×Unit)):Br:=
j16 a f g b 0 0 p ([]:LU)
def NO:=NS QM
def OC(j15:Int->Int->LB->Int-> (List (Int×Int×UInt64×UInt64×Unit))->Br)(Aph:Int-> (List (Int×Int×UInt64×UInt64×Unit))->Br)(a f:Int)(g:LB)(b u:Int)(p:List (Int×Int×UInt64×UInt64×Unit)):Br:=
if(Cg u 6)then
(oO).bind λ(al,ae,af,am)=>
(Aj p u).bind λ_=>
(Jm p u (al,ae,af,am,())).bind λan=>
Aph (Ad u 1) an
else
j15 a f g b p
def Yf:Nat->Int-> (List (Int×Int×UInt64×UInt64×Unit))->Br
|0,_,_=>none
|c+1,e,i=>OC NO (Yf c) z d D U e i
def Yz a f g b:=Yf a f g b Ap
def CJ(j13:Int->Int->LB->Int->Int-> (List (Int×Int×UInt64×UInt64×Unit))->Br)(a f:Int)(g:LB)(b:Int):Br:=
j13 a f g b 0 (List.replicate 6 ((0:Int),(0:Int),(0:UInt64),(0:UInt64),()))
def CK:=CJ Yz
def Uq:Option Int32:=
some (Tu (Ae (Bv P (GI.toZ (1:UInt64)).toNat):Int32) (pL (Ae (Dr P 1):Int32)))
def iR:Option (Int32×Int×LX×LX×Int):=
(PB z i R).bind λ(c,d)=>
if(Bc d 0)then
some (0,0,(List.replicate 16 (0:Int32)),(List.replicate 16 (0:Int32)),d)
else
(NZ z i R (Ad F c) F).bind λ(e,j,A)=>
some ((Ad F c),e,j,A,0)
def Jv:Option (Int32×Int×Int32×Int×LX×LX×Int):=
(Th z F O l8 l9).bind λc=>
if(Bc c 0)then
some (0,0,0,0,(List.replicate 16 (0:Int32)),(List.replicate 16 (0:Int32)),c)
else
(Ti z F).bind λ(d,e)=>
(iR O l8 l9 Bcz).bind λ(i,j,A,B,C)=>
(
some ((Ad i d),z,(Ad i d),j,A,B,C))
abbrev Ft:=Option (LX×Int)
def kg:Ft:=
some (i,0)
def pR:=kg
def qL(UN:Int->LX->Ft)(b a:Int)(h:LX):Ft:=
UN (Ad a b) h
def ZE UN:=qL UN
def MR(j20:Int->LX->Ft)(R5:Int->LX->Ft)(b a g:Int)(h:LX):Ft:=
if(Je g 0)then
(Gu (decide (0<= (Ad g 1)/\ (Ad g 1)<((Ad a b)-a)))).bind λ_=>
(Gu (decide (0<=g/\g<((Ad a b)-a)))).bind λ_=>
(Aj h (a+(Ad g 1))).bind λn=>
(Aj h (a+g)).bind λo=>
(Gu (decide (0<=g/\g<((Ad a b)-a)))).bind λ_=>
(Jm h (a+g) (Ah n o)).bind λp=>
R5 (Ah g 1) p
else
j20 a h
def Un(UN:Int->LX->Ft)(b a:Int):Nat->Int->LX->Ft
|0,_,_=>none
|q+1,g,h=>MR (ZE UN b) (Un UN b a q) b a g h
def YG UN b a:=Un UN b a Ap
def XR(j18:Int->Int->LX->Ft)(b a:Int)(u:LX):Ft:=
j18 a (Ah (Ah ((Ad a b)-a) 1) 1) u
def ZQ UN b:=XR (YG UN b) b
def YB(j17:Int->LX->Ft)(j22:LX->Ft)(b a:Int)(f:LX):Ft:=
if(Cg a (Ac f))then
(jS (Ac f) a (Ad a b)).bind λ_=>
if(Eg (Ah ((Ad a b)-a) 1) 0)then
(Gu (decide (0<= (Ah ((Ad a b)-a) 1)/\ (Ah ((Ad a b)-a) 1)<((Ad a b)-a)))).bind λ_=>
Option.bind (Gu (decide (0<= (Ah (Ah ((Ad a b)-a) 1) 1)/\ (Ah (Ah ((Ad a b)-a) 1) 1)<((Ad a b)-a)))) λ_=>
(Aj f (a+(Ah ((Ad a b)-a) 1))).bind λv=>
(Aj f (a+(Ah (Ah ((Ad a b)-a) 1) 1))).bind λw=>
(Gu (decide (0<= (Ah ((Ad a b)-a) 1)/\ (Ah ((Ad a b)-a) 1)<((Ad a b)-a)))).bind λ_=>
(Jm f (a+(Ah ((Ad a b)-a) 1)) (Ad v (Bf w 2))).bind λy=>
j17 a y
else
j17 a f
else
j22 f
def Pz:Nat->Int->LX->Ft
|0,_,_=>none
|c+1,d,e=>YB (ZQ (Pz c) z) pR z d e
def qU b:=Pz b Ap
def iU(j12:Int->Int->LX->Ft)(b:Int)(k:LX):Ft:=
(WG b k).bind λm=>
if(Bc m 0)then
some (([]:LX),m)
else
(Ci k).bind λaa=>
j12 b 0 aa
def qA:=iU qU
abbrev Cc:=Option (LX×Int)
def LH:Cc:=
(qA z i).bind λ(c,e)=>
if(Bc e 0)then
some (([]:LX),e)
else
(Mn d c).bind λj=>
if(Bc j 0)then
some (([]:LX),j)
else
some (c,0)
def Kf:=LH
def MA(Aph:Int-> (List (Int×Int32×(Int×LX×LX×Unit)×Unit))->LX->Cc)(a:Int)(f:LU)(b g:Int)(y:Int32)(v:Int)(h:List (Int×Int32×(Int×LX×LX×Unit)×Unit))(k:LX)(aa:Int)(w:Int32)(ab:Int)(ac ad:LX):Cc:=
if(Bc v 0)then
some (([]:LX),v)
else
(Jm h (Fi g a) (aa,w,(ab,ac,ad,()),())).bind λai=>
(Cm k ([y]:LX)).bind λaj=>
Aph (Ad g 1) ai aj
def Vx Aph:=MA Aph
def Kb(j16:Int->Int32->Int-> (List (Int×Int32×(Int×LX×LX×Unit)×Unit))->LX->Int->Int32->Int->LX->LX->Cc)(j18:Int->Int->LX->Cc)(f:LU)(a b g:Int)(h:List (Int×Int32×(Int×LX×LX×Unit)×Unit))(k:LX):Cc:=
if(Cg g (Ac f))then
(Aj f g).bind λag=>
(Gu (Bc a 0)).bind λ_=>
(Aj h (Fi g a)).bind λ_=>
(
(Aj h (Fi g a)).bind λm=>
(
(Uq ag).bind λae=>
(
(Jv m.1 m.2.1 m.2.2.1.1 m.2.2.1.2.1 m.2.2.1.2.2.1 ae).bind λ(y,aa,w,ab,ac,ad,v)=>
j16 g y v h k aa w ab ac ad)))
else
j18 a b k
def Hs:Nat->Int-> (List (Int×Int32×(Int×LX×LX×Unit)×Unit))->LX->Cc
|0,_,_,_=>none
|z+1,c,d,e=>Kb (Vx (Hs z) y8 X y9) Kf X y8 y9 c d e
def MO f a b:=Hs f a b Ap
def MH(j13:LU->Int->Int->Int-> (List (Int×Int32×(Int×LX×LX×Unit)×Unit))->LX->Cc)(f:LU)(a b:Int)(n:List (Int×Int32×(Int×LX×LX×Unit)×Unit)):Cc:=
j13 f a b 0 n ([]:LX)
def MN:=MH MO
def ML(j12:LU->Int->Int-> (List (Int×Int32×(Int×LX×LX×Unit)×Unit))->Cc)(Afp:Int-> (List (Int×Int32×(Int×LX×LX×Unit)×Unit))->Cc)(f:LU)(a b:Int)(o:LX)(p:Int)(n:List (Int×Int32×(Int×LX×LX×Unit)×Unit)):Cc:=
if(Cg p 6)then
(vB b o).bind λ(ak,af,ae,al,am,w)=>
(Aj n p).bind λ_=>
(Jm n p (ak,af,(ae,al,am,()),())).bind λan=>
Afp (Ad p 1) an
else
j12 f a b n
def Wf:Nat->Int-> (List (Int×Int32×(Int×LX×LX×Unit)×Unit))->Cc
|0,_,_=>none
|z+1,c,d=>ML MN (Wf z) X y8 y9 Bda c d
def Wb f a b o:=Wf f a b o Ap
def Yw(j10:LU->Int->Int->LX->Int-> (List (Int×Int32×(Int×LX×LX×Unit)×Unit))->Cc)(a b:Int)(o:LX)(f:LU):Cc:=
j10 f a b o 0 (List.replicate 6 ((0:Int),(0:Int32),((0:Int),(List.replicate 16 (0:Int32)),(List.replicate 16 (0:Int32)),()),()))
def Qr:=Yw Wb
def Lc:Option (LX×Int):=
(Jf z d).bind λc=>
if(Bc c 0)then
some (([]:LX),c)
else
if(Cg C 1)then
some (([]:LX),2)
else
(Gu (Bc z 0)).bind λ_=>
if(Eg C (Bf 4000 z))then
some (([]:LX),2)
else
(CN N).bind λ(e,j)=>
if(Bc j 0)then
some (([]:LX),j)
else
(su e).bind λ(A,B,D)=>
if(Bc D 0)then
some (([]:LX),D)
else
(CK z C A B).bind λ(E,F,G)=>
if(Bc G 0)then
some (([]:LX),G)
else
if(Je (Ah B F) 8)then
some (([]:LX),12)
else
(DA A B F (Ah B F)).bind λ(I,J)=>
if((Bc J 0)||(Bc I 0))then
some (([]:LX),12)
else
(Qr z d i E).bind λ(L,M)=>
some (L,M)
abbrev Cy:=Option (LB×Int)
def xN:Cy:=
some (c,0)
def cC:=xN
def bP(Gc:Int->LB->Cy)(b:Int)(a:LX)(f:Int)(h:LB):Cy:=
Gc (Ad f 1) h
def KQ Gc:=bP Gc
def Xk(j28:Int->LB->Cy)(Afq:Int->LB->Cy)(b:Int)(a:LX)(k:Int32)(f m:Int)(h:LB):Cy:=
if(Cg m (Bf b 8))then
(Gu (Je (Az 8 m) 0)).bind λ_=>
(Cm h ([(Ae (Bv k (GI.toZ (Az 8 m)).toNat):UInt8)]:LB)).bind λp=>
Afq (Ad m 1) p
else
j28 f h
def Hy(Gc:Int->LB->Cy)(b:Int)(a:LX)(k:Int32)(f:Int):Nat->Int->LB->Cy
|0,_,_=>none
|q+1,m,h=>Xk (KQ Gc b a) (Hy Gc b a k f q) b a k f m h
def LA Gc b a k f:=Hy Gc b a k f Ap
def KC(j26:Int32->Int->Int->LB->Cy)(b:Int)(a:LX)(f:Int)(g:LB)(k:Int32):Cy:=
j26 k f 0 g
def Mk Gc b a:=KC (LA Gc b a) b a
def Xr(j25:Int->LB->Int32->Cy)(j30:LB->Cy)(b:Int)(a:LX)(f:Int)(g:LB):Cy:=
if(Cg f (Ac a))then
(Aj a f).bind λn=>
if(geq b 8)then
j25 f g (Ad n 128)
else
j25 f g n
else
j30 g
def Ff:Nat->Int->LB->Cy
|0,_,_=>none
|c+1,d,e=>Xr (Mk (Ff c) z i) cC z i d e
def xX b a:=Ff b a Ap
def PJ(j16:Int->LX->Int->LB->Cy)(b:Int)(a:LX):Cy:=
(Mn b a).bind λo=>
if(Bc o 0)then
some (([]:LB),o)
else
j16 b a 0 ([]:LB)
def Ph:=PJ xX
def Xd:Option Int:=
some (-1:Int)
def Ku:=Xd
def Kx:Option Int:=
if(Cg p8 (Ac Bcx))then
(Aj Bcx p8).bind λz=>
if(geq p9 z)then
some p8
else
Bcs (Ad p8 1)
else
Bcr
def Fy:Nat->Int->Option Int
|0,_=>none
|z+1,c=>Kx Ku (Fy z) j C c
def Xh a b:=Fy a b Ap
def Kw(j4:LI->Int->Int->Option Int)(a:LI)(b:Int):Option Int:=
j4 a b 0
def Mq:=Kw Xh
def Kv:Option Bool:=
(Mq j C).bind λz=>
some (Je z 0)
def Xa:Option Bool:=
(Kv ([(4:Int),(12:Int),(16:Int),(22:Int),(24:Int),(26:Int),(38:Int)]:LI) z).bind λc=>
some c
def rX:Option Int:=
if(!Z)then
some 8
else
some 0
def Jn:=rX
def qX:Option Int:=
r9 ((true==true)&&((geq (0:Int) (0:Int))&&true))
def SI:=qX Jn
def oR:Option Int:=
r9 ((o9==true)&&((geq Bc5 0)&&true))
def BA:=oR Jn
def sE(j13:Bool->Int->Option Int)(g ax:LB)(ay az ab ba af b:Int)(n:Bool)(o:Int)(f:LI)(k:LB):Option Int:=
(CA ay az ab ba af g).bind λdi=>
(Am di).bind λ(dj,ai)=>
j13 dj ai
def RL:=sE BA
def pS:Option Int:=
r9 ((o9==true)&&((geq Bc5 0)&&true))
def Sn:=pS Jn
def pG(j25:Bool->Int->Option Int)(g a:LB)(h p m u v b:Int)(n:Bool)(o:Int)(f:LI)(k:LB)(de:Int):Option Int:=
(Ja h p m u v).bind λ(dm,be)=>
if(Bc be 0)then
(Am be).bind λ(aj,bg)=>
j25 aj bg
else
(Bg a de (Ac a)).bind λdn=>
(YW dn (Ac dm)).bind λ(dp,ab)=>
if(geq ab 24)then
j25 true 0
else
if(Bc ab 0)then
(Am ab).bind λ(dq,af)=>
j25 dq af
else
(Bg a (Ad (Ad de (Az 4 (Ac dp))) 4) (Ac a)).bind λfc=>
j25 false 0
def EA:=pG Sn
def pN(j25:Bool->Int->Option Int)(j24:LB->LB->Int->Int->Int->Int->Int->Int->Bool->Int->LI->LB->Int->Option Int)(bh:Bool)(bf:Int)(g a:LB)(h p m u v b:Int)(n:Bool)(o:Int)(f:LI)(k:LB):Option Int:=
if(Bc bf 0)then
(Am bf).bind λ(dr,be)=>
j25 dr be
else
if(!bh)then
(Am 26).bind λ(aj,bg)=>
j25 aj bg
else
j24 g a h p m u v b n o f k 8
def rF:=pN Sn EA
def rR(j15:Bool->Int->LB->LB->Int->Int->Int->Int->Int->Int->Bool->Int->LI->LB->Option Int)(g a:LB)(h p m u v b:Int)(n:Bool)(o:Int)(f:LI)(k:LB):Option Int:=
(Bg a 0 8).bind λds=>
(NC ds g).bind λ(bh,bf)=>
j15 bh bf g a h p m u v b n o f k
def RK:=rR rF
def pF:Option Int:=
r9 ((o9==true)&&((geq Bc5 0)&&true))
def Se:=pF Jn
def DN(j28:Bool->Int->Option Int)(y ac:Int)(g a:LB)(h p m u v b:Int)(n:Bool)(o:Int)(ak:LX)(f:LI)(k:LB):Option Int:=
if(Bc ac 0)then
(Am ac).bind λ(bi,bj)=>
j28 bi bj
else
(Ph m ak).bind λ(bk,bb)=>
if(Bc bb 0)then
(Am bb).bind λ(bl,bm)=>
j28 bl bm
else
(Cm k bk).bind λdv=>
(
(Bg a y (Ac a)).bind λdw=>
j28 false 0)
def SY:=DN Se
def SG(j27:Int->Int->LB->LB->Int->Int->Int->Int->Int->Int->Bool->Int->LX->LI->LB->Option Int)(y:Int)(g a:LB)(h p m u v b:Int)(n:Bool)(o:Int)(bc:LX)(ag f:LI)(k:LB):Option Int:=
(Aj ag b).bind λ_=>
(Bg a 0 y).bind λdx=>
(Aj ag b).bind λdy=>
(TK h p m u v).bind λ(dz,bd)=>
(Lc dz bd bc dy dx).bind λ(ak,ac)=>
j27 y ac g a h p m u v b n o ak f k
def oY:=SG SY
def GL(j13:Bool->Int->Option Int)(j12:LB->LB->Int->Int->Int->Int->Int->Int->Bool->Int->LI->LB->Option Int)(j25:Bool->Int->Option Int)(j23:LB->LB->Int->Int->Int->Int->Int->Int->Bool->Int->LI->LB->Option Int)(j24:LB->LB->Int->Int->Int->Int->Int->Int->Bool->Int->LI->LB->Int->Option Int)(j28:Bool->Int->Option Int)(j26:Int->LB->LB->Int->Int->Int->Int->Int->Int->Bool->Int->LX->LI->LI->LB->Option Int)(j22:Bool->Option Int)(j21:Option Int)(al am:LB)(an ao ap aq ar:Int)(au:LI)(ad:Int)(ae:LB)(aa:Bool)(w:Int):Option Int:=
if(Eg (Ac al) 64)then
some 8
else
if((geq w 0)&&(!aa))then
(Hj al am an ao ap aq ar au ad ae aa w).bind λ(g,a,h,p,m,u,v,f,b,k,n,o)=>
(YD al am an ao ap aq ar au ad ae aa w).bind λbn=>
if bn then
if(geq h 0)then
(Mr a).bind λ(ah,av)=>
if(geq av 24)then
j13 true 0
else
if(Bc av 0)then
(Am av).bind λ(bp,bq)=>
j13 bp bq
else
(Bg a ah (Ac a)).bind λbr=>
(DZ br).bind λaj=>
if aj then
j13 true 0
else
(Bg a ah (Ac a)).bind λbs=>
(Zt bs).bind λ(ay,az,ab,ba,af,aw)=>
if(geq aw 24)then
j13 true 0
else
if(Bc aw 0)then
(Am aw).bind λ(bt,bu)=>
j13 bt bu
else
(
(Bg a (Ad ah 22) (Ac a)).bind λax=>
(
j12 g ax ay az ab ba af b n o f k))
else
if(geq (Ac f) 0)then
if(geq h 2)then
if(Cg (Ac a) 8)then
j25 true 0
else
j23 g a h p m u v b n o f k
else
j24 g a h p m u v b n o f k 0
else
if(Cg b (Ac f))then
(Aj f b).bind λ_=>
(Aj f b).bind λy=>
if(Cg (Ac a) y)then
j28 true 0
else
(Mh g).bind λ(bc,ai)=>
if(Bc ai 0)then
(Am ai).bind λ(bv,bw)=>
j28 bv bw
else
(Ja h p m u v).bind λ(ag,bx)=>
if((Bc bx 0)||(Je b (Ac ag)))then
(Am 8).bind λ(bz,da)=>
j28 bz da
else
j26 y g a h p m u v b n o bc ag f k
else
if(Eg (Ac a) 4000)then
(Am 38).bind λ(db,bd)=>
j22 ((db==true)&&((geq bd 0)&&true))
else
j21
else
j22 false
else
if((geq (Ac am) 0)&&(geq (Ac au) 0))then
if((((geq an 0)&&((geq ao 0)&&((geq ap 0)&&((geq aq 0)&&((geq ar 0)&&true)))))&&(geq ad 0))&&(xU (Ac ae) 12000))then
if(geq w 0)then
j22 true
else
if(!aa)then
(Xa w).bind λdc=>
j22 dc
else
j22 false
else
j22 false
else
if((false&&(geq ad 0))&&(xU (Ac ae) 12000))then
if(geq w 0)then
j22 true
else
if(!aa)then
(Xa w).bind λdd=>
j22 dd
else
j22 false
else
j22 false
def HJ:=GL BA RL Sn RK EA Se oY Jn SI
def HK:Option (LB×LB×Int×Int×Int×Int×Int×LI×Int×LB×Bool×Int×Int):=
(HJ c G d e B E M j C N I J).bind λz=>
if(Bc z 0)then
some (([]:LB),([]:LB),0,0,0,0,0,([]:LI),0,([]:LB),false,0,z)
else
if(Bc J 0)then
(
(
(Hj c G d e B E M j C N I J).bind λ(i,A,D,F,L,O,P,R,T,U,V,X)=>
(
some (i,A,D,F,L,O,P,R,T,U,V,X,J))))
else
if I then
(Hj c G d e B E M j C N I J).bind λ(Y,Z,l5,l6,l7,l8,l9,o7,o8,o9,p8,p9)=>
some (Y,Z,l5,l6,l7,l8,l9,o7,o8,o9,p8,p9,36)
else
(Hj c G d e B E M j C N I J).bind λ(q9,r9,x9,y5,y7,y8,y9,Bco,Bcp,Bcq,Bcr,Bcs)=>
some (q9,r9,x9,y5,y7,y8,y9,Bco,Bcp,Bcq,Bcr,Bcs,0)
def sD(b g:LB)(h k m n o:Int)(p:LI)(u:Int)(f:LB)(v:Bool)(w a:Int):Option (LB×LB×Int×Int×Int×Int×Int×LI×Int×LB×Bool×Int×Int):=
some (b,([]:LB),0,0,0,0,0,([]:LI),0,f,false,a,a)
abbrev Al:=Option (LB×LB×Int×Int×Int×Int×Int×LI×Int×LB×Bool×Int×Int)
def sP(NH:LB->Int->Int->Int->Int->Int->Int->LI->LB->Al)(a:LB)(b:Bool)(f:Int)(av:LB)(aw ax ay az ba bb:Int)(dy:Bool)(dk:Int)(bc:LI)(bd:LB):Al:=
if dy then
(Hj a av aw ax ay az ba bc bb bd b f).bind λ(dz,fa,fb,ap,be,ae,fc,fd,fe,ff,fg,af)=>
some (dz,fa,fb,ap,be,ae,fc,fd,fe,ff,fg,af,0)
else
if(Bc dk 0)then
(sD a av aw ax ay az ba bc bb bd b f dk).bind λ(fh,fi,fj,fk,fl,fm,fn,fo,fp,fq,fs,ft,fu)=>
some (fh,fi,fj,fk,fl,fm,fn,fo,fp,fq,fs,ft,fu)
else
NH av aw ax ay az ba bb bc bd
def Ir NH:=sP NH
def uV(j71:LB->Int->Int->Int->Int->Int->Int->Bool->Int->LI->LB->Al)(a:LB)(b:Bool)(f:Int)(g:LB)(m o n p u h:Int)(k:LI)(v:LB):Al:=
j71 g m o n p u h true 0 k v
def WE NH a b f:=uV (Ir NH a b f) a b f
def uG(j71:LB->Int->Int->Int->Int->Int->Int->Bool->Int->LI->LB->Al)(a:LB)(b:Bool)(f h:Int)(k:LI)(v:LB)(fv:Bool)(fw:Int)(fx:LB)(fy fz ga gb gc:Int):Al:=
j71 fx fy fz ga gb gc h fv fw k v
def GP NH a b f:=uG (Ir NH a b f) a b f
def uR(j62:Int->LI->LB->Bool->Int->LB->Int->Int->Int->Int->Int->Al)(a:LB)(b:Bool)(f:Int)(ag:LB)(ah ai y aj aa h:Int)(k:LI)(v:LB):Al:=
(CA ah ai y aj aa a).bind λgd=>
(Am gd).bind λ(ge,ak)=>
j62 h k v ge ak ag ah ai y aj aa
def UY NH a b f:=uR (GP NH a b f) a b f
def uE(j71:LB->Int->Int->Int->Int->Int->Int->Bool->Int->LI->LB->Al)(a:LB)(b:Bool)(f m o n p u h:Int)(v:LB)(bf:Bool)(bg:Int)(bh:LB)(bi:LI):Al:=
j71 bh m o n p u h bf bg bi v
def Pb NH a b f:=uE (Ir NH a b f) a b f
def GW(j75:Int->Int->Int->Int->Int->Int->LB->Bool->Int->LB->LI->Al)(a:LB)(b:Bool)(f:Int)(g:LB)(m o n p u h:Int)(k:LI)(v:LB)(dl:Int):Al:=
(Ja m o n p u).bind λ(gf,ar)=>
if(Bc ar 0)then
(Am ar).bind λ(al,bj)=>
j75 m o n p u h v al bj g k
else
(Bg g dl (Ac g)).bind λgg=>
(YW gg (Ac gf)).bind λ(dm,y)=>
if(geq y 24)then
j75 m o n p u h v true 0 g k
else
if(Bc y 0)then
(Am y).bind λ(gh,aa)=>
j75 m o n p u h v gh aa g k
else
(Bg g (Ad (Ad dl (Az 4 (Ac dm))) 4) (Ac g)).bind λgi=>
j75 m o n p u h v false 0 gi dm
def XL NH a b f:=GW (Pb NH a b f) a b f
def WT(j75:Int->Int->Int->Int->Int->Int->LB->Bool->Int->LB->LI->Al)(j74:LB->Int->Int->Int->Int->Int->Int->LI->LB->Int->Al)(a:LB)(b:Bool)(f:Int)(bk:Bool)(au:Int)(g:LB)(m o n p u h:Int)(k:LI)(v:LB):Al:=
if(Bc au 0)then
(Am au).bind λ(gj,ar)=>
j75 m o n p u h v gj ar g k
else
if(!bk)then
(Am 26).bind λ(al,bj)=>
j75 m o n p u h v al bj g k
else
j74 g m o n p u h k v 8
def sN NH a b f:=WT (Pb NH a b f) (XL NH a b f) a b f
def VA(j64:Bool->Int->LB->Int->Int->Int->Int->Int->Int->LI->LB->Al)(a:LB)(b:Bool)(f:Int)(g:LB)(m o n p u h:Int)(k:LI)(v:LB):Al:=
(Bg g 0 8).bind λgk=>
(NC gk a).bind λ(bk,au)=>
j64 bk au g m o n p u h k v
def sV NH a b f:=VA (sN NH a b f) a b f
def tT(j71:LB->Int->Int->Int->Int->Int->Int->Bool->Int->LI->LB->Al)(a:LB)(b:Bool)(f m o n p u:Int)(k:LI)(bl:Bool)(bm:Int)(bn:LB)(bp:Int)(bq:LB):Al:=
j71 bn m o n p u bp bl bm k bq
def GK NH a b f:=tT (Ir NH a b f) a b f
def GD(j78:Int->Int->Int->Int->Int->LI->Bool->Int->LB->Int->LB->Al)(a:LB)(b:Bool)(f w ab:Int)(g:LB)(m o n p u h:Int)(am:LX)(k:LI)(v:LB):Al:=
if(Bc ab 0)then
(Am ab).bind λ(br,bs)=>
j78 m o n p u k br bs g h v
else
(Ph n am).bind λ(bt,af)=>
if(Bc af 0)then
(Am af).bind λ(bu,bv)=>
j78 m o n p u k bu bv g h v
else
(Cm v bt).bind λbw=>
(
(Bg g w (Ac g)).bind λbx=>
j78 m o n p u k false 0 bx (Ad h 1) bw)
def VQ NH a b f:=GD (GK NH a b f) a b f
def UZ(j77:Int->Int->LB->Int->Int->Int->Int->Int->Int->LX->LI->LB->Al)(a:LB)(b:Bool)(f w:Int)(g:LB)(m o n p u h:Int)(aq:LX)(ac k:LI)(v:LB):Al:=
(Aj ac h).bind λ_=>
(Bg g 0 w).bind λgl=>
(Aj ac h).bind λgm=>
(TK m o n p u).bind λ(be,ae)=>
(Lc be ae aq gm gl).bind λ(am,ab)=>
j77 w ab g m o n p u h am k v
def vD NH a b f:=UZ (VQ NH a b f) a b f
def FK(j62:Int->LI->LB->Bool->Int->LB->Int->Int->Int->Int->Int->Al)(j61:LB->Int->Int->Int->Int->Int->Int->LI->LB->Al)(j75:Int->Int->Int->Int->Int->Int->LB->Bool->Int->LB->LI->Al)(j73:LB->Int->Int->Int->Int->Int->Int->LI->LB->Al)(j74:LB->Int->Int->Int->Int->Int->Int->LI->LB->Int->Al)(j78:Int->Int->Int->Int->Int->LI->Bool->Int->LB->Int->LB->Al)(j76:Int->LB->Int->Int->Int->Int->Int->Int->LX->LI->LI->LB->Al)(j71:LB->Int->Int->Int->Int->Int->Int->Bool->Int->LI->LB->Al)(j70:LB->Int->Int->Int->Int->Int->Int->LI->LB->Al)(a:LB)(b:Bool)(f:Int)(g:LB)(m o n p u h:Int)(k:LI)(v:LB):Al:=
if(geq m 0)then
(Mr g).bind λ(ad,an)=>
if(geq an 24)then
j62 h k v true 0 g m o n p u
else
if(Bc an 0)then
(Am an).bind λ(bz,da)=>
j62 h k v bz da g m o n p u
else
(Bg g ad (Ac g)).bind λdb=>
(DZ db).bind λal=>
if al then
j62 h k v true 0 g m o n p u
else
(Bg g ad (Ac g)).bind λdc=>
(Zt dc).bind λ(ah,ai,y,aj,aa,ao)=>
if(geq ao 24)then
j62 h k v true 0 g m o n p u
else
if(Bc ao 0)then
(Am ao).bind λ(dd,de)=>
j62 h k v dd de g m o n p u
else
(
(Bg g (Ad ad 22) (Ac g)).bind λag=>
(
j61 ag ah ai y aj aa h k v))
else
if(geq (Ac k) 0)then
if(geq m 2)then
if(Cg (Ac g) 8)then
j75 m o n p u h v true 0 g k
else
j73 g m o n p u h k v
else
j74 g m o n p u h k v 0
else
if(Cg h (Ac k))then
(Aj k h).bind λ_=>
(Aj k h).bind λw=>
if(Cg (Ac g) w)then
j78 m o n p u k true 0 g h v
else
(Mh a).bind λ(aq,ak)=>
if(Bc ak 0)then
(Am ak).bind λ(df,dg)=>
j78 m o n p u k df dg g h v
else
(Ja m o n p u).bind λ(ac,dh)=>
if((Bc dh 0)||(Je h (Ac ac)))then
(Am 8).bind λ(di,ap)=>
j78 m o n p u k di ap g h v
else
j76 w g m o n p u h aq ac k v
else
if(Eg (Ac g) 4000)then
(Am 38).bind λ(dj,ae)=>
j71 g m o n p u h dj ae k v
else
j70 g m o n p u h k v
def Dl:Nat->LB->Int->Int->Int->Int->Int->Int->LI->LB->Al
|0,_,_,_,_,_,_,_,_,_=>none
|z+1,e,i,j,A,B,C,D,E,F=>FK (GP (Dl z) c Z d) (UY (Dl z) c Z d) (Pb (Dl z) c Z d) (sV (Dl z) c Z d) (XL (Dl z) c Z d) (GK (Dl z) c Z d) (vD (Dl z) c Z d) (Ir (Dl z) c Z d) (WE (Dl z) c Z d) c Z d e i j A B C D E F
def tV a b f:=Dl a b f Ap
def bU(j37:LB->Bool->Int->LB->Int->Int->Int->Int->Int->Int->LI->LB->Al)(gn go:LB)(gp gq gr gs gt:Int)(gu:LI)(gv:Int)(gw:LB)(gx:Bool)(gy:Int)(gz:LB):Al:=
(HK gn go gp gq gr gs gt gu gv gw gx gy).bind λ(a,dn,dp,dq,dr,ds,dt,du,dv,dw,b,f,dx)=>
if(Bc dx 0)then
some (a,dn,dp,dq,dr,ds,dt,du,dv,dw,b,f,dx)
else
(Cm dn gz).bind λha=>
j37 a b f ha dp dq dr ds dt dv du dw
def qH:=bU tV
def dW:Option (Int×Int):=
(HJ c G d e B E M j C N I J).bind λz=>
if(Bc z 0)then
some (0,z)
else
some ((Ad (Ac G) (Az 8 (Ac j))),0)
def Ye:Option Int:=
(wR ([]:LB)).bind λ(z,d,e,i,j,A,B,C,D,E,F,G,I)=>
(qH z d e i j A B C D E F G c).bind λ(J,L,M,N,O,P,R,T,U,V,X,Y,Z)=>
(dW J L M N O P R T U V X Y).bind λ(l5,l6)=>
if(((Bc I 0)||(Bc Z 0))||(Bc l6 0))then
some (-1:Int)
else
some l5
def Pm:Option Bool:=
(wZ 1 8 8000 ([(0:Int32)]:LX) ([]:LB)).bind λ(a,g)=>
if((Bc g 0)||(Bc (Ac a) 36))then
some false
else
(rG 0).bind λ(b,f)=>
(Bg a 0 30).bind λh=>
(Ye h).bind λk=>
if(geq k 8)then
(Bg a 0 35).bind λm=>
(Ye m).bind λn=>
some (((geq n 13)&&(geq f 0))&&(geq b 16022))
else
some ((false&&(geq f 0))&&(geq b 16022))
def Fw:Option (Int×Int):=
if((Cg z 1)||(Eg z 1048576))then
some (0,2)
else
if(geq (Bf (Az z 256) 245) 0)then
some (1,0)
else
some ((Bf (Az z 256) 245),0)
def Hr:Option Int:=
if(geq z 8)then
some 128
else
if(geq z 16)then
some 32768
else
if(geq z 24)then
some 8388608
else
some 0
def Dx:Option Int:=
if((Cg z 1)||(Eg z 6))then
some 2
else
(Hr d).bind λc=>
if(geq c 0)then
some 2
else
some 0
def Gh:Option Int:=
(Fw e).bind λ(c,i)=>
(Dx z d).bind λj=>
if(((Bc j 0)||(Bc i 0))||(Eg (Ac D) 64))then
some 2
else
some 0
def Wz:Option (Int×Bool):=
(Pn e).bind λ(c,i)=>
(Jf z d).bind λj=>
some (c,(((geq j 0)&&(geq i 0))&&(xU (Ac D) 64)))
def AD:Option (Int×Int×Int×LB×LB×LX×(List LB)×LB×Bool×Int×Int):=
(Wz z d e D).bind λ(c,i)=>
if(!i)then
some (0,0,0,([]:LB),([]:LB),([]:LX),([]:List LB),([]:LB),false,0,2)
else
some (z,d,e,D,([]:LB),([]:LX),([]:List LB),([]:LB),false,0,0)
def BK:Option Int:=
some (Bf (Az z d) 8)
def Qx(a h k:Int)(m n:LB)(b:LX)(f:List LB)(o:LB)(p:Bool)(u g:Int):Option Int:=
(Gu (Bc a 0)).bind λ_=>
some (Ad (Az (Ac f) g) (Bf (Ac b) a))
def Qm(a g h:Int)(k m:LB)(n:LX)(o:List LB)(p:LB)(u:Bool)(v b f:Int):Option Bool:=
some ((xU b 1000)&&(xU (Az f a) 4000))
def kW:Option Bool:=
some (!Z)
def kZ:=kW
def kP(j24:Bool->Option Bool)(y:Bool):Option Bool:=
j24 y
def MK:=kP kZ
def kV(j23:Bool->Option Bool):Option Bool:=
j23 (Je (-1:Int) (0:Int))
def LV:=kV MK
def MC(Gc:Int->Option Bool)(b:List LB)(f a h:Int):Option Bool:=
Gc (Ad h 1)
def LY Gc:=MC Gc
def MJ(j23:Bool->Option Bool)(j20:Int->Option Bool)(b:List LB)(f a h:Int)(w:LB):Option Bool:=
if((Cg (Ac w) 5)||(Eg (Ac w) (Ad (Bf (Ad (Az (Az 81 f) a) 7) 8) 4)))then
j23 (Je h 0)
else
j20 h
def Vj Gc b f a:=MJ MK (LY Gc b f a) b f a
def Nk(j19:Int->LB->Option Bool)(j22:Option Bool)(b:List LB)(f a h:Int):Option Bool:=
if(Cg h (Ac b))then
(Aj b h).bind λw=>
j19 h w
else
j22
def Ht:Nat->Int->Option Bool
|0,_=>none
|z+1,c=>Nk (Vj (Ht z) L C Bco) LV L C Bco c
def Vk b f a:=Ht b f a Ap
def Ng(j16:(List LB)->Int->Int->Int->Option Bool)(f a k o:Int)(p m:LB)(g:LX)(b:List LB)(n:LB)(u:Bool)(v:Int):Option Bool:=
j16 b f a 0
def Wh:=Ng Vk
def Ni(j15:Int->Int->Int->Int->LB->LB->LX-> (List LB)->LB->Bool->Int->Option Bool)(f a k o:Int)(p m:LB)(g:LX)(b:List LB)(n:LB)(u:Bool)(v aa:Int):Option Bool:=
(Qx a k o p m g b n u v f).bind λab=>
(Qm a k o p m g b n u v aa ab).bind λac=>
if(!ac)then
some false
else
j15 f a k o p m g b n u v
def Vq:=Ni Wh
def Vv(j14:Int->Int->Int->Int->LB->LB->LX-> (List LB)->LB->Bool->Int->Int->Option Bool)(f a k o:Int)(p m:LB)(g:LX)(b:List LB)(n:LB)(u:Bool)(v:Int):Option Bool:=
(Mn k g).bind λad=>
if(Bc ad 0)then
some false
else
if(Eg (Ac g) 0)then
j14 f a k o p m g b n u v (Ad (Ac b) 1)
else
j14 f a k o p m g b n u v (Ac b)
def Vn:=Vv Vq
def Yg(j13:Int->Int->Int->Int->LB->LB->LX-> (List LB)->LB->Bool->Int->Option Bool)(a k o:Int)(p m:LB)(g:LX)(b:List LB)(n:LB)(u:Bool)(v f:Int):Option Bool:=
if(Eg (Ac n) 0)then
if true then
if true then
if(true||(Eg (Ac b) 1000))then
some false
else
j13 f a k o p m g b n u v
else
(Gu (Bc a 0)).bind λ_=>
if((Je (Bf (Ac g) a) f)||(Eg (Ac b) 1000))then
some false
else
j13 f a k o p m g b n u v
else
(Gu (Bc a 0)).bind λ_=>
if(Bc (Fi (Ac g) a) 0)then
if(true||(Eg (Ac b) 1000))then
some false
else
j13 f a k o p m g b n u v
else
(Gu (Bc a 0)).bind λ_=>
if((Je (Bf (Ac g) a) f)||(Eg (Ac b) 1000))then
some false
else
j13 f a k o p m g b n u v
else
(BK a k).bind λae=>
if(Je (Ac m) ae)then
if true then
if(true||(Eg (Ac b) 1000))then
some false
else
j13 f a k o p m g b n u v
else
(Gu (Bc a 0)).bind λ_=>
if((Je (Bf (Ac g) a) f)||(Eg (Ac b) 1000))then
some false
else
j13 f a k o p m g b n u v
else
(Gu (Bc a 0)).bind λ_=>
if(Bc (Fi (Ac g) a) 0)then
if(true||(Eg (Ac b) 1000))then
some false
else
j13 f a k o p m g b n u v
else
(Gu (Bc a 0)).bind λ_=>
if((Je (Bf (Ac g) a) f)||(Eg (Ac b) 1000))then
some false
else
j13 f a k o p m g b n u v
def Xo:=Yg Vn
def Jb:Option Int:=
(Wz z d e D).bind λ(c,j)=>
if(!j)then
some 8
else
if(Bc J 0)then
if(!(((((geq J 18)||(geq J 24))&&(!I))&&(geq (Ad (Ad (Ac l5) (Ac i)) (Ac L)) 0))&&(geq (Ac T) 0)))then
some 8
else
some 0
else
if I then
if(!((geq (Ad (Ad (Ac l5) (Ac i)) (Ac L)) 0)&&(xU (Ac T) 100000)))then
some 8
else
some 0
else
(Xo z d e D l5 i L T I J c).bind λA=>
if(!A)then
some 8
else
some 0
abbrev Hk:=Option (Int×Int×Int×LB×LB×LX×(List LB)×LB×Bool×Int)
def yE(b f g:Int)(h:LB)(a:List LB)(k:Bool)(m:Int)(u:List LB)(n:LB)(o:LX)(p:LB):Hk:=
some (b,f,g,h,n,o,u,p,k,m)
def bK:=yE
def Xw(j8:Int->Int->Int->LB-> (List LB)->Bool->Int-> (List LB)->LB->LX->LB->Hk)(P5:Int-> (List LB)->Hk)(w a:List LB)(b f g:Int)(h:LB)(k:Bool)(m:Int)(n:LB)(o:LX)(p:LB)(v:Int)(u:List LB):Hk:=
if(Cg v (Ac (XH w a)))then
(Aj u v).bind λ_=>
(Aj u v).bind λy=>
(Bb y).bind λaa=>
(Aj u v).bind λ_=>
(Jm u v aa).bind λab=>
P5 (Ad v 1) ab
else
j8 b f g h a k m u n o p
def Mj:Nat->Int-> (List LB)->Hk
|0,_,_=>none
|z+1,c,d=>Xw bK (Mj z) L Bc8 Bd4 Bd5 Bd6 Bd7 Bd8 Bd9 Bea Bdc Bdd c d
def xT w a b f g h k m n o p:=Mj w a b f g h k m n o p Ap
def KT(j6:(List LB)-> (List LB)->Int->Int->Int->LB->Bool->Int->LB->LX->LB->Int-> (List LB)->Hk)(b f g:Int)(h:LB)(a:List LB)(k:Bool)(m:Int)(n:LB)(o:LX)(p:LB):Hk:=
(mkI (Ac a) ([]:LB)).bind λw=>
(Gu (geq (Ac a) (Ac a))).bind λ_=>
j6 w a b f g h k m n o p 0 (XH w a)
def bL:=KT xT
def KI(j5:Int->Int->Int->LB-> (List LB)->Bool->Int->LB->LX->LB->Hk)(b f g:Int)(h ac:LB)(ad:LX)(a:List LB)(ae:LB)(k:Bool)(m:Int):Hk:=
(Bb ac).bind λn=>
(Ci ad).bind λo=>
(Bb ae).bind λp=>
j5 b f g h a k m n o p
def CW:=KI bL
abbrev KM:=Option (Int×Int×Int×LB×LB×LX×(List LB)×LB×Bool×Int×Int×Int)
def Nz:KM:=
(CW d e B D l5 i L T I J).bind λ(c,j,A,C,E,F,G,M,N,O)=>
some (c,j,A,C,E,F,G,M,N,O,z,Bcw)
def Pe:=Nz
def FL(j2:Int->Int->Int->Int->LB->LB->LX-> (List LB)->LB->Bool->Int->Int->KM)(g h b:Int)(k m:LB)(n:LX)(o:List LB)(p:LB)(f:Bool)(a:Int):KM:=
(Jb g h b k m n o p f a).bind λv=>
if(Bc v 0)then
some (0,0,0,([]:LB),([]:LB),([]:LX),([]:List LB),([]:LB),false,0,0,v)
else
(Pn b).bind λ(u,aj)=>
if(Bc a 0)then
j2 u g h b k m n o p f a a
else
if f then
j2 u g h b k m n o p f a 36
else
j2 u g h b k m n o p f a aj
def My:=FL Pe
abbrev Ce:=Option (LX×Int)
def rC:Ce:=
some (i,0)
def SH:=rC
def Sa(Gc:Int->LX->Ce)(a:Int)(b:LB)(f:Int)(o:LX):Ce:=
Gc (Ad f (Bf a 8)) o
def Hh Gc:=Sa Gc
def AR(j28:Int->LX->Ce)(a:Int)(b:LB)(f:Int)(k:Int32)(g:LX):Ce:=
(Gu (Je (Ah 32 a) 0)).bind λ_=>
(Gu (Je (Ah 32 a) 0)).bind λ_=>
(Cm g ([(Bv (Ct k (GI.toZ (Ah 32 a)).toNat) (GI.toZ (Ah 32 a)).toNat)]:LX)).bind λp=>
j28 f p
def Sm Gc a b:=AR (Hh Gc a b) a b
def Ek(j27:Int->Int32->LX->Ce)(Az1:Int32->Int->Ce)(a:Int)(b:LB)(f:Int)(g:LX)(k:Int32)(h:Int):Ce:=
if(Cg h (Bf a 8))then
(Aj b (Ad f h)).bind λm=>
(Gu (Je (Az 8 h) 0)).bind λ_=>
Az1 (qO k (Ct (Ae m:Int32) (GI.toZ (Az 8 h)).toNat)) (Ad h 1)
else
j27 f k g
def Dq(Gc:Int->LX->Ce)(a:Int)(b:LB)(f:Int)(g:LX):Nat->Int32->Int->Ce
|0,_,_=>none
|q+1,k,h=>Ek (Sm Gc a b) (Dq Gc a b f g q) a b f g k h
def Jq Gc a b f g:=Dq Gc a b f g Ap
def Es(j28:Int->LX->Ce)(j25:Int->LX->Int32->Int->Ce)(j30:LX->Ce)(a:Int)(b:LB)(f:Int)(g:LX):Ce:=
if(Cg f (Ac b))then
if(geq a 8)then
(Aj b f).bind λm=>
(Cm g ([(Ah (Ae m:Int32) 128)]:LX)).bind λu=>
j28 f u
else
j25 f g 0 0
else
j30 g
def Db:Nat->Int->LX->Ce
|0,_,_=>none
|d+1,e,i=>Es (Hh (Db d) z c) (Jq (Db d) z c) SH z c e i
def SS a b:=Db a b Ap
def GN(j16:Int->LB->Int->LX->Ce)(a:Int)(b:LB):Ce:=
(Mu a).bind λ(v,w,n)=>
if(Bc n 0)then
some (([]:LX),n)
else
(Gu (Bc (Bf a 8) 0)).bind λ_=>
if(Bc (Fi (Ac b) (Bf a 8)) 0)then
some (([]:LX),12)
else
(Gu (Bc (Bf a 8) 0)).bind λ_=>
if(Eg (Bf (Ac b) (Bf a 8)) 4000)then
some (([]:LX),4)
else
j16 a b 0 ([]:LX)
def HA:=GN SS
def Qh(b f g:Int)(h k:LB)(m:LX)(n:List LB)(o:LB)(p:Bool)(u a:Int):Option (Int×Int×Int×LB×LB×LX×(List LB)×LB×Bool×Int×Int):=
some (b,f,g,h,([]:LB),([]:LX),([]:List LB),([]:LB),false,a,a)
abbrev Bn:=Option (Int×Int×Int×LB×LB×LX×(List LB)×LB×Bool×Int×Int)
def VB:Bn:=
some (z,d,e,D,l5,i,L,T,o7,U,0)
def GV:=VB
def Uc(jA:Int->LB->LX-> (List LB)->Bn)(p:Int)(n:LB)(a b g:Int)(f:LB)(h:Bool)(k o:Int)(m:LB)(u:Int)(ao:LB)(ap:LX)(aq:List LB):Bn:=
jA (Ad u 1) ao ap aq
def Ky jA:=Uc jA
def Ug(j24:Int->LB->LX-> (List LB)->Bn)(p:Int)(n:LB)(a b g:Int)(f:LB)(h:Bool)(k o:Int)(m:LB)(u ad:Int)(ae:LB)(af:LX)(ag:List LB):Bn:=
if(Bc ad 0)then
(Qh a b g f ae af ag m h k ad).bind λ(ar,au,av,aw,ax,ay,az,ba,bb,bc,bd)=>
some (ar,au,av,aw,ax,ay,az,ba,bb,bc,bd)
else
j24 u ae af ag
def Gq jA p n a b g f h k o m:=Ug (Ky jA p n a b g f h k o m) p n a b g f h k o m
def sQ(j23:Int->Int->LB->LX-> (List LB)->Bn)(p:Int)(n:LB)(a b g:Int)(f:LB)(h:Bool)(k o:Int)(m:LB)(u:Int)(ab:LX)(v:List LB)(be:Int):Bn:=
j23 u be ([]:LB) ab v
def uP jA p n a b g f h k o m:=sQ (Gq jA p n a b g f h k o m) p n a b g f h k o m
def WR(j23:Int->Int->LB->LX-> (List LB)->Bn)(p:Int)(n:LB)(a b g:Int)(f:LB)(h:Bool)(k o:Int)(m:LB)(u:Int)(ac:List LB):Bn:=
j23 u 0 ([]:LB) ([]:LX) ac
def VN jA p n a b g f h k o m:=WR (Gq jA p n a b g f h k o m) p n a b g f h k o m
def VD(j23:Int->Int->LB->LX-> (List LB)->Bn)(j21:Int->LX-> (List LB)->Int->Bn)(j22:Int-> (List LB)->Bn)(p:Int)(n:LB)(a b g:Int)(f:LB)(h:Bool)(k o:Int)(m:LB)(u:Int)(aa:LB)(w:LX)(v:List LB):Bn:=
(HA b aa).bind λ(bf,ah)=>
if(Bc ah 0)then
j23 u ah aa w v
else
(Cm w bf).bind λab=>
if(Cg (Ac ab) (Az o a))then
j23 u 0 ([]:LB) ab v
else
(Mh f).bind λ(bg,ai)=>
if(Bc ai 0)then
j21 u ab v ai
else
(Jl a b bg ab).bind λ(bh,aj)=>
if(Bc aj 0)then
j21 u ab v aj
else
(Cm v ([bh]:List LB)).bind λac=>
j22 u ac
def FT jA p n a b g f h k o m:=VD (Gq jA p n a b g f h k o m) (uP jA p n a b g f h k o m) (VN jA p n a b g f h k o m) p n a b g f h k o m
def Up(j24:Int->LB->LX-> (List LB)->Bn)(j23:Int->Int->LB->LX-> (List LB)->Bn)(j20:Int->LB->LX-> (List LB)->Bn)(j26:Int->Int->Int->LB->Bool->Int->LB->LX-> (List LB)->LB->Bn)(p:Int)(n:LB)(a b g:Int)(f:LB)(h:Bool)(k o:Int)(m:LB)(u:Int)(y:LB)(w:LX)(v:List LB):Bn:=
if(Cg u (Ac n))then
(Aj n u).bind λbi=>
(Cm y ([bi]:LB)).bind λaa=>
if(Cg (Ac aa) p)then
j24 u aa w v
else
(Qx a b g f aa w v m h k o).bind λbj=>
(Qm a b g f aa w v m h k (Ad (Ac v) 1) (Ad bj 1)).bind λbk=>
if(!bk)then
j23 u 18 aa w v
else
j20 u aa w v
else
j26 a b g f h k y w v m
def Gj:Nat->Int->LB->LX-> (List LB)->Bn
|0,_,_,_,_=>none
|i+1,j,A,E,F=>Up (Ky (Gj i) z c d e B D o7 U C N) (Gq (Gj i) z c d e B D o7 U C N) (FT (Gj i) z c d e B D o7 U C N) GV z c d e B D o7 U C N j A E F
def WH p n a b g f h k o m:=Gj p n a b g f h k o m Ap
def Xy(j14:Int->LB->Int->Int->Int->LB->Bool->Int->Int->LB->Int->LB->LX-> (List LB)->Bn)(bl bm bn:Int)(bp bq:LB)(br:LX)(bs:List LB)(bt:LB)(bu:Bool)(bv:Int)(n:LB):Bn:=
(My bl bm bn bp bq br bs bt bu bv).bind λ(a,b,g,f,ak,al,am,m,h,k,o,an)=>
if(Bc an 0)then
some (a,b,g,f,ak,al,am,m,h,k,an)
else
(BK a b).bind λp=>
j14 p n a b g f h k o m 0 ak al am
def Dg:=Xy WH
def yG:Option Int:=
some z
def aU:=yG
def Xs:Option Int:=
if(Cg Bdf (Ac Bdq))then
(Aj Bdq Bdf).bind λz=>
Bct (Ad Bc4 (Ac z)) (Ad Bdf 1)
else
Bcs Bc4
def Me:Nat->Int->Int->Option Int
|0,_,_=>none
|z+1,c,d=>Xs aU (Me z) L c d
def xS a:=Me a Ap
def KR(j4:(List LB)->Int->Int->Option Int)(n o p:Int)(u h:LB)(k:LX)(a:List LB)(m:LB)(v:Bool)(w:Int):Option Int:=
j4 a (Ad (Ad (Ac h) (Az 4 (Ac k))) (Ac m)) 0
def AU:=KR xS
def Ok:Option (Int×Int):=
(Jb z d e D l5 i L T I J).bind λc=>
if(Bc c 0)then
some (0,c)
else
(AU z d e D l5 i L T I J).bind λj=>
some (j,0)
def Ns:Option Int:=
some (Bf (Az z d) 8)
def HL:Option (Int×Int):=
if(Eg (Ac c) 64)then
some (0,2)
else
if(geq (Ac c) 0)then
some (1,0)
else
some (2,0)
abbrev Hg:=Option (LB×Int)
def Xl(f g h:Int)(b k:LB)(m:LX)(a:List LB)(n:LB)(o:Bool)(p:Int)(u:LB)(v:LI):Hg:=
(AI v).bind λ(aa,y)=>
if(Bc y 0)then
some (([]:LB),y)
else
(
(Cm u aa).bind λab=>
(Dm a).bind λac=>
(Cm ab ac).bind λad=>
some (ad,0))
def Qs:=Xl
def Xm(j8:Int->Int->Int->LB->LB->LX-> (List LB)->LB->Bool->Int->LB->LI->Hg)(P5:Int->LI->Hg)(a:List LB)(f g h:Int)(b k:LB)(m:LX)(n:LB)(o:Bool)(p:Int)(u:LB)(w:Int)(v:LI):Hg:=
if(Cg w (Ac a))then
(Aj a w).bind λai=>
(Cm v ([(Ac ai)]:LI)).bind λaj=>
P5 (Ad w 1) aj
else
j8 f g h b k m a n o p u v
def Mi:Nat->Int->LI->Hg
|0,_,_=>none
|z+1,c,d=>Xm Qs (Mi z) L C Bco Bc6 N Bc1 Bdc Bdd Beb Bec Bed c d
def xV a f g h b k m n o p u:=Mi a f g h b k m n o p u Ap
def Xx(j6:(List LB)->Int->Int->Int->LB->LB->LX->LB->Bool->Int->LB->Int->LI->Hg)(f g h:Int)(b k:LB)(m:LX)(a:List LB)(n:LB)(o:Bool)(p:Int)(u:LB):Hg:=
j6 a f g h b k m n o p u 0 ([]:LI)
def KB:=Xx xV
def KE(j5:Int->Int->Int->LB->LB->LX-> (List LB)->LB->Bool->Int->LB->Hg)(f g h:Int)(b k:LB)(m:LX)(a:List LB)(n:LB)(o:Bool)(p ak:Int):Hg:=
(HL b).bind λ(al,ae)=>
if(Bc ae 0)then
some (([]:LB),ae)
else
(CR al f g h ak).bind λ(af,ag)=>
if(Bc ag 0)then
some (([]:LB),ag)
else
if(b !=([]:LB))then
(Um b).bind λ(am,ah)=>
if(Bc ah 0)then
some (([]:LB),ah)
else
(Cm af am).bind λan=>
j5 f g h b k m a n o p an
else
j5 f g h b k m a n o p af
def ND:=KE KB
abbrev Lb:=Option (Int×Int×Int×LB×LB×LX×(List LB)×LB×Bool×Int×Int)
def BL:Lb:=
(ND d e B D l5 R Bc8 T o7 U z).bind λ(c,i)=>
if(Bc i 0)then
(Qh d e B D l5 R Bc8 T o7 U i).bind λ(j,A,C,E,F,G,I,J,L,M,N)=>
some (j,A,C,E,F,G,I,J,L,M,N)
else
some (d,e,B,D,([]:LB),([]:LX),([]:List LB),c,true,0,0)
def So:=BL
def RO(j4:Int->Int->Int->Int->LB->Bool->Int->LB->LB->LX-> (List LB)->Lb)(o a b g:Int)(f:LB)(k:Bool)(m:Int)(h n:LB)(ad:Int)(ae:LX)(af:List LB):Lb:=
if(Bc ad 0)then
(Qh a b g f h ae af n k m ad).bind λ(au,v,w,av,aw,ax,y,aa,ay,az,ba)=>
some (au,v,w,av,aw,ax,y,aa,ay,az,ba)
else
j4 o a b g f k m h n ae af
def RZ:=RO So
def DS(j3:Int->Int->Int->Int->LB->Bool->Int->LB->LB->Int->LX-> (List LB)->Lb)(j4:Int->Int->Int->Int->LB->Bool->Int->LB->LB->LX-> (List LB)->Lb)(bb bc bd:Int)(be bf:LB)(bg:LX)(bh:List LB)(bi:LB)(bj:Bool)(bk:Int):Lb:=
(My bb bc bd be bf bg bh bi bj bk).bind λ(a,b,g,f,h,p,u,n,k,m,bl,ag)=>
if(Bc ag 0)then
some (a,b,g,f,h,p,u,n,k,m,ag)
else
(Qx a b g f h p u n k m bl).bind λo=>
if((Eg (Ac h) 0)||(geq o 0))then
(Qh a b g f h p u n k m 24).bind λ(bm,bn,bp,bq,br,bs,bt,bu,bv,bw,bx)=>
some (bm,bn,bp,bq,br,bs,bt,bu,bv,bw,bx)
else
if(Eg (Ac p) 0)then
(Mh f).bind λ(bz,ah)=>
if(Bc ah 0)then
j3 o a b g f k m h n ah p u
else
(Jl a b bz p).bind λ(da,ai)=>
if(Bc ai 0)then
j3 o a b g f k m h n ai p u
else
(Cm u ([da]:List LB)).bind λdb=>
j3 o a b g f k m h n 0 ([]:LX) db
else
j4 o a b g f k m h n p u
def Dk:=DS RZ So
def Xn:Option Bool:=
if o9 then
some ((Je l6 0)&&(xU l6 100000))
else
if(geq Bcu 3)then
some (geq l6 0)
else
some false
def bI:=Xn
def aV(j2:UInt8->Int->Bool->Option Bool)(a:UInt8)(b:Int):Option Bool:=
if(geq a 1)then
j2 a b (geq a 1)
else
j2 a b (geq a 2)
def ZO:=aV bI
def CV:Option Bool:=
(ZO Bcu l6).bind λz=>
some (!z)
def tC:Option Int:=
some 0
def uK:=tC
def uO:Option Int:=
if o9 then
some 2
else
Bcr
def uQ:=uO uK
def tK:Option Int:=
r9 o9
def VV:=tK uQ
def tW:Option Int:=
r9 (Je (-1:Int) (0:Int))
def VZ:=tW VV
def VU(Api:Int->Option Int)(a:List (UInt8×Int×Unit))(b:Int):Option Int:=
Api (Ad b 1)
def XN Api:=VU Api
def WM(j18:Bool->Option Int)(j15:Int->Option Int)(a:List (UInt8×Int×Unit))(b:Int)(g:Bool):Option Int:=
if g then
j18 (Je b 0)
else
j15 b
def FO Api a:=WM VV (XN Api a) a
def Ul(j14:Int->Bool->Option Int)(j17:Option Int)(a:List (UInt8×Int×Unit))(b:Int):Option Int:=
if(Cg b (Ac a))then
(Aj a b).bind λh=>
(CV h.1 h.2.1).bind λg=>
j14 b g
else
j17
def La:Nat->Int->Option Int
|0,_=>none
|z+1,c=>Ul (FO (La z) x9) VZ x9 c
def uC a:=La a Ap
def KV(j11:(List (UInt8×Int×Unit))->Int->Option Int)(a:List (UInt8×Int×Unit)):Option Int:=
if(Eg (Ac a) 200)then
some 4
else
j11 a 0
def MZ:=KV uC
def Rb:Option (Int×Int×Int×LB×LB×LX×(List LB)×LB×Bool×Int×LB×Int):=
(Jb z d e D l5 i L T I J).bind λc=>
if(Bc c 0)then
some (0,0,0,([]:LB),([]:LB),([]:LX),([]:List LB),([]:LB),false,0,([]:LB),c)
else
if(Cg Bcw 0)then
some (0,0,0,([]:LB),([]:LB),([]:LX),([]:List LB),([]:LB),false,0,([]:LB),2)
else
(CW z d e D l5 i L T I J).bind λ(j,A,B,C,E,F,G,M,N,O)=>
(Bg M 0 (Dt Bcw (Ac M))).bind λP=>
(Bb P).bind λR=>
(Bg M (Dt Bcw (Ac M)) (Ac M)).bind λU=>
some (j,A,B,C,E,F,G,U,N,O,R,0)
abbrev Bi:=Option (Int×Int×Int×LB×LB×LX×(List LB)×LB×Bool×Int×(List (Int×LB×Unit))×Int)
def SD(f g h:Int)(k m:LB)(n:Bool)(o:Int)(a:LB)(w:List (Int×LB×Unit))(p:LB)(u:LX)(v:List LB):Bi:=
some (f,g,h,k,p,u,v,m,n,o,w,0)
def SW:=SD
def TA(j32:Int->Int->Int->LB->LB->Bool->Int->LB-> (List (Int×LB×Unit))->LB->LX-> (List LB)->Bi)(w:List (Int×LB×Unit))(f g h:Int)(k m:LB)(n:Bool)(o:Int)(a p:LB)(u:LX)(v:List LB):Bi:=
j32 f g h k m n o a w p u v
def DU:=TA SW
def Sj(P3:Int->Int->Int->Int->LB->LB->Bool->Int->LB-> (List (Int×LB×Unit))->LB->LX-> (List LB)->Bi)(b:List (UInt8×Int×Unit))(y df dg dh:Int)(di dj:LB)(dk:Bool)(dl:Int)(dm:LB)(dn:List (Int×LB×Unit))(dp:LB)(dq:LX)(dr:List LB):Bi:=
P3 (Ad y 1) df dg dh di dj dk dl dm dn dp dq dr
def Em P3:=Sj P3
def Sf(j29:Int->Int->Int->Int->LB->LB->Bool->Int->LB-> (List (Int×LB×Unit))->LB->LX-> (List LB)->Bi)(b:List (UInt8×Int×Unit))(aa:UInt8×Int×Unit)(a:LB)(ab y f g h:Int)(k p:LB)(u:LX)(v:List LB)(m:LB)(n:Bool)(o ac ad ae:Int)(af:LB)(ag:Bool)(ah:Int)(w:List (Int×LB×Unit))(ai:LB)(aj:LX)(ak:List LB)(al:LB):Bi:=
(
(Bg a (Dt aa.2.1 (Ac a)) (Ac a)).bind λbm=>
(Cm w ([(ab,([]:LB),())]:List (Int×LB×Unit))).bind λbn=>
j29 y ac ad ae af al ag ah bm bn ai aj ak)
def CC P3 b:=Sf (Em P3 b) b
def SO(j29:Int->Int->Int->Int->LB->LB->Bool->Int->LB-> (List (Int×LB×Unit))->LB->LX-> (List LB)->Bi)(b:List (UInt8×Int×Unit))(an y f g h:Int)(k p:LB)(u:LX)(v:List LB)(m:LB)(n:Bool)(o:Int)(a:LB)(ao ap aq:Int)(ar au:LB)(av:Bool)(aw:Int)(ax:LB)(w:List (Int×LB×Unit))(ay:LB)(az:LX)(ba:List LB):Bi:=
(Cm w ([(an,ax,())]:List (Int×LB×Unit))).bind λds=>
j29 y ao ap aq ar au av aw a ds ay az ba
def DT P3 b:=SO (Em P3 b) b
def RQ(j29:Int->Int->Int->Int->LB->LB->Bool->Int->LB-> (List (Int×LB×Unit))->LB->LX-> (List LB)->Bi)(b:List (UInt8×Int×Unit))(bb y f g h:Int)(k p:LB)(u:LX)(v:List LB)(m:LB)(n:Bool)(o:Int)(a:LB)(bc bd be:Int)(bf:LB)(bg:Bool)(bh:Int)(w:List (Int×LB×Unit))(bi:LB)(bj:LX)(bk:List LB)(bl:LB):Bi:=
(Cm w ([(bb,([]:LB),())]:List (Int×LB×Unit))).bind λdt=>
j29 y bc bd be bf bl bg bh a dt bi bj bk
def CZ P3 b:=RQ (Em P3 b) b
def Mo(j26:(UInt8×Int×Unit)->LB->Int->Int->Int->Int->Int->LB->LB->LX-> (List LB)->LB->Bool->Int->Int->Int->Int->LB->Bool->Int-> (List (Int×LB×Unit))->LB->LX-> (List LB)->LB->Bi)(j33:Int->Int->Int->Int->Int->LB->LB->LX-> (List LB)->LB->Bool->Int->LB->Int->Int->Int->LB->LB->Bool->Int->LB-> (List (Int×LB×Unit))->LB->LX-> (List LB)->Bi)(j34:Int->Int->Int->Int->Int->LB->LB->LX-> (List LB)->LB->Bool->Int->LB->Int->Int->Int->LB->Bool->Int-> (List (Int×LB×Unit))->LB->LX-> (List LB)->LB->Bi)(j29:Int->Int->Int->Int->LB->LB->Bool->Int->LB-> (List (Int×LB×Unit))->LB->LX-> (List LB)->Bi)(j31:(List (Int×LB×Unit))->Int->Int->Int->LB->LB->Bool->Int->LB->LB->LX-> (List LB)->Bi)(b:List (UInt8×Int×Unit))(y f g h:Int)(k m:LB)(n:Bool)(o:Int)(a:LB)(w:List (Int×LB×Unit))(p:LB)(u:LX)(v:List LB):Bi:=
if(Cg y (Ac b))then
(Aj b y).bind λaa=>
if(geq aa.1 1)then
(
(
(
(Bg a 0 (Dt aa.2.1 (Ac a))).bind λam=>
(
(Dg f g h k p u v m n o am).bind λ(ac,ad,ae,af,ai,aj,ak,al,ag,ah,ab)=>
j26 aa a ab y f g h k p u v m n o ac ad ae af ag ah w ai aj ak al))))
else
if(geq aa.1 2)then
(
(
(
(Rb f g h k p u v m n o aa.2.1).bind λ(ao,ap,aq,ar,ay,az,ba,au,av,aw,ax,an)=>
j33 an y f g h k p u v m n o a ao ap aq ar au av aw ax w ay az ba)))
else
if(geq aa.1 3)then
(
(
(
(Dk f g h k p u v m n o).bind λ(bc,bd,be,bf,bi,bj,bk,bl,bg,bh,bb)=>
j34 bb y f g h k p u v m n o a bc bd be bf bg bh w bi bj bk bl)))
else
j29 y f g h k m n o a w p u v
else
j31 w f g h k m n o a p u v
def En:Nat->Int->Int->Int->Int->LB->LB->Bool->Int->LB-> (List (Int×LB×Unit))->LB->LX-> (List LB)->Bi
|0,_,_,_,_,_,_,_,_,_,_,_,_,_=>none
|z+1,c,d,e,i,j,A,B,C,D,E,F,G,I=>Mo (CC (En z) x9) (DT (En z) x9) (CZ (En z) x9) (Em (En z) x9) DU x9 c d e i j A B C D E F G I
def pW b:=En b Ap
def GU(j17:(List (UInt8×Int×Unit))->Int->Int->Int->Int->LB->LB->Bool->Int->LB-> (List (Int×LB×Unit))->LB->LX-> (List LB)->Bi)(du dv dw:Int)(dx dy:LB)(b:List (UInt8×Int×Unit)):Bi:=
(MZ b).bind λbq=>
if(Bc bq 0)then
some (0,0,0,([]:LB),([]:LB),([]:LX),([]:List LB),([]:LB),false,0,([]:List (Int×LB×Unit)),bq)
else
(AD du dv dw dx).bind λ(dz,fa,fb,fc,fd,fe,ff,fg,fh,fi,br)=>
if(Bc br 0)then
some (0,0,0,([]:LB),([]:LB),([]:LX),([]:List LB),([]:LB),false,0,([]:List (Int×LB×Unit)),br)
else
j17 b 0 dz fa fb fc fg fh fi dy ([]:List (Int×LB×Unit)) fd fe ff
def GX:=GU pW
abbrev He:=Option (Int×Int)
def XC:He:=
some (z,0)
def FJ:=XC
def FP(bk7:LB->Int->Int->Int->Int->Int->LB->LB->Bool->Int->LB->LX-> (List LB)->He)(a:List (UInt8×Int×Unit))(b f:Int)(au:LB)(ab ac ad:Int)(ae af:LB)(ag:Bool)(ah:Int)(ai:LB)(aj:LX)(ak:List LB):He:=
(AU ab ac ad ae ai aj ak af ag ah).bind λav=>
bk7 au (fP b av) (Ad f 1) ab ac ad ae af ag ah ai aj ak
def Uo bk7:=FP bk7
def Qq(j10:Int->Int->LB->Int->Int->Int->LB->LB->Bool->Int->LB->LX-> (List LB)->He)(j12:Int->He)(a:List (UInt8×Int×Unit))(g:LB)(b f h k m:Int)(n o:LB)(p:Bool)(u:Int)(v:LB)(w:LX)(y:List LB):He:=
if(Cg f (Ac a))then
(Aj a f).bind λaa=>
if(geq aa.1 1)then
(Bg g 0 (Dt aa.2.1 (Ac g))).bind λaw=>
(Dg h k m n v w y o p u aw).bind λ(ax,ay,az,ba,bb,bc,bd,be,bf,bg,dp)=>
(Bg g (Dt aa.2.1 (Ac g)) (Ac g)).bind λbh=>
j10 b f bh ax ay az ba be bf bg bb bc bd
else
if(geq aa.1 2)then
(Rb h k m n v w y o p u aa.2.1).bind λ(bi,bj,bk,bl,bm,bn,bp,bq,br,bs,dq,dr)=>
j10 b f g bi bj bk bl bq br bs bm bn bp
else
if(geq aa.1 3)then
(Dk h k m n v w y o p u).bind λ(bt,bu,bv,bw,bx,bz,da,db,dc,dd,ds)=>
j10 b f g bt bu bv bw db dc dd bx bz da
else
j10 b f g h k m n o p u v w y
else
j12 b
def Mg:Nat->LB->Int->Int->Int->Int->Int->LB->LB->Bool->Int->LB->LX-> (List LB)->He
|0,_,_,_,_,_,_,_,_,_,_,_,_,_=>none
|z+1,c,d,e,i,j,A,B,C,D,E,F,G,I=>Qq (Uo (Mg z) x9) FJ x9 c d e i j A B C D E F G I
def bE a:=Mg a Ap
def KX(j7:(List (UInt8×Int×Unit))->LB->Int->Int->Int->Int->Int->LB->LB->Bool->Int->LB->LX-> (List LB)->He)(al am an:Int)(ao ap:LB)(a:List (UInt8×Int×Unit)):He:=
(GX al am an ao ap a).bind λ(dt,du,dv,dw,dx,dy,dz,fa,fb,fc,fd,aq)=>
if(Bc aq 0)then
some (0,aq)
else
(AD al am an ao).bind λ(de,df,dg,dh,di,dj,dk,dl,dm,dn,ar)=>
if(Bc ar 0)then
some (0,ar)
else
j7 a ap 0 0 de df dg dh dl dm dn di dj dk
def MS:=KX bE
def Sg:Option Bool:=
(Ns E M).bind λj=>
if((Je (Ah d B) (Ad (Az (Az 4 E) e) j))||(Cg d B))then
some false
else
(Dk y5 Bdb Bdu D l5 i L T o7 U).bind λ(A,C,F,I,J,N,O,P,R,V,X)=>
(Ok A C F I J N O P R V).bind λ(Y,l6)=>
(MS E M z c G ([((1:UInt8),(600:Int),()),((3:UInt8),(0:Int),())]:List (UInt8×Int×Unit))).bind λ(l7,l8)=>
if(((Bc l6 0)||(Bc l8 0))||(Bc l7 (fP d Y)))then
some false
else
if(Bc X 0)then
some (Z&&(geq Y 0))
else
some (Z&&(geq Y (Ac P)))
def Gs:=Sg
def Gy(j6:Int->LB->LB->Bool->Int->Int->Int->Int->Int->Int->Int->Int->LB->Bool->Int->LB->LX-> (List LB)->LB->Option Bool)(Nv:Int->Int->Option Bool)(g:Int)(m n:LB)(a:Bool)(h ad b k o p u:Int)(v:LB)(w:Bool)(y:Int)(aa:LB)(ab:LX)(f:List LB)(ac:LB)(ae af:Int):Option Bool:=
if(Cg af (Ac f))then
(Aj f af).bind λ_=>
(Aj f af).bind λaz=>
Nv (Ad ae (Ac az)) (Ad af 1)
else
j6 g m n a h ad ae b k o p u v w y aa ab f ac
def Dd:Nat->Int->Int->Option Bool
|0,_,_=>none
|j+1,A,C=>Gy Gs (Dd j) z c G Z d e B E M y5 Bdb D o7 U l5 i L T A C
def MV g m n a h ad b k o p u v w y aa ab f ac:=Dd g m n a h ad b k o p u v w y aa ab f ac Ap
def Kr(j4:Int->LB->LB->Bool->Int->Int->Int->Int->Int->Int->Int->LB->Bool->Int->LB->LX-> (List LB)->LB->Int->Int->Option Bool)(b k g:Int)(m n:LB):Option Bool:=
(Pm).bind λa=>
(Gh b k g m).bind λba=>
if(((Bc ba 0)||(Eg (Ac n) 600))||(!a))then
some a
else
(AD b k g m).bind λ(bb,bc,bd,be,bf,bg,bh,bi,bj,bk,bl)=>
(Dg bb bc bd be bf bg bh bi bj bk n).bind λ(o,p,u,v,aa,ab,f,ac,w,y,ai)=>
(Ok o p u v aa ab f ac w y).bind λ(h,bm)=>
(Fw g).bind λ(ad,bn)=>
if((Bc bl 0)||(Bc bm 0))then
some false
else
if(Bc ai 0)then
some ((a&&(geq ai 18))&&(geq h 0))
else
j4 g m n a h ad b k o p u v w y aa ab f ac 0 0
def Jc:=Kr MV
def Wa:Option Bool:=
if((((geq z 1)||(geq z 2))&&(Je d 1))&&(xU d 6))then
some ((((((geq e 8)||(geq e 16))||(geq e 24))&&(Je B 1))&&(xU B 1048576))&&(Je E 1))
else
some (((false&&(Je B 1))&&(xU B 1048576))&&(Je E 1))
def Sk:Option Int:=
some (fP 1 (Bf (Az 256 z) 245))
def Ls:Option (LI):=
some j
def Lw:=Ls
def Ik(j6:LI->Option (LI))(Nv:Int->LI->Option (LI))(a f:Int)(b:LI):Option (LI):=
if(Eg f 0)then
(Sk a).bind λg=>
(Cm b ([(Dt f g)]:LI)).bind λh=>
(Sk a).bind λk=>
Nv (Ah f k) h
else
j6 b
def Ef:Nat->Int->LI->Option (LI)
|0,_,_=>none
|c+1,d,e=>Ik Lw (Ef c) z d e
def EJ a:=Ef a Ap
def EU(j4:Int->Int->LI->Option (LI))(a m:Int):Option (LI):=
j4 a m ([]:LI)
def Iv:=EU EJ
def DO(h a k f b:Int):Option Bool:=
(
(Gu (Bc a 0)).bind λ_=>
(
if(Eg b (Bf 4000 a))then
some true
else
(Iv f b).bind λg=>
some (Eg (Ac g) 1000)))
def PA(a f g h k:Int)(b:LB):Option Int:=
if((b==([]:LB)) !=(geq a 1))then
some 26
else
some 0
def ZX:Option Int:=
if(Eg z 100000)then
some 8
else
some 0
def ZJ:=ZX
def dB:Option Int:=
(Aj Bcx p8).bind λz=>
Bct (Ad p9 z) (Ad p8 1)
def dE P5:=dB P5
def dD:Option Int:=
if(Cg Bc9 (Ac Bdg))then
(Aj Bdg Bc9).bind λz=>
if(Cg z 5)then
some 8
else
(Aj Bdg Bc9).bind λc=>
if(Eg c 100000)then
some 8
else
Bct Bdr Bc9
else
Bee Bdr
def FG:Nat->Int->Int->Option Int
|0,_,_=>none
|z+1,c,d=>dD (dE (FG z) j) ZJ j c d
def dJ a:=FG a Ap
def cD(j6:LI->Int->Int->Option Int)(a:LI):Option Int:=
if((Cg (Ac a) 1)||(Eg (Ac a) 1000))then
some 8
else
j6 a 0 0
def mU:=cD dJ
def IY(g h k a b:Int):Option (LI):=
(Iv a b).bind λf=>
some f
def oC(f a b g h:Int):Option (Int×Int):=
some (a,b)
abbrev Ew:=Option (Int×Int)
def cS:Ew:=
some (z,0)
def dM:=cS
def Rr(j6:Int->Ew)(Nv:Int->Int->Ew)(a:LB)(b f:Int):Ew:=
if(Cg f 4)then
(Aj a f).bind λg=>
if(Je g 128)then
some (0,12)
else
(Aj a f).bind λh=>
Nv (Ad (Az 128 b) (Ae h:Int)) (Ad f 1)
else
j6 b
def Im:Nat->Int->Int->Ew
|0,_,_=>none
|z+1,d,e=>Rr dM (Im z) c d e
def EN a:=Im a Ap
def FC(j4:LB->Int->Int->Ew)(a:LB):Ew:=
if(Bc (Ac a) 4)then
some (0,2)
else
j4 a 0 0
def Ys:=FC EN
abbrev Fv:=Option (Int×Int)
def JG:Fv:=
if(Eg d 4000)then
some (0,4)
else
if(Cg (Ac c) d)then
some (0,24)
else
(Aj c 5).bind λz=>
if(geq z 16)then
(Bg c (Ah d 10) d).bind λe=>
(Bg c 3 10).bind λi=>
(Cm ([51,68,73]:LB) i).bind λj=>
if(e !=j)then
some (0,12)
else
some (d,0)
else
some (d,0)
def Sy:=JG
def HU(j6:LB->Int->Fv)(a:LB)(b:Int):Fv:=
(Aj a 5).bind λo=>
if(geq o 16)then
j6 a (Ad (Ad 10 b) 10)
else
j6 a (Ad 10 b)
def Te:=HU Sy
def IJ(j5:LB->Int->Fv)(a:LB):Fv:=
if(Cg (Ac a) 10)then
some (0,24)
else
(Bg a 6 10).bind λp=>
(Ys p).bind λ(b,f)=>
(Aj a 3).bind λu=>
if(Cg u 2)then
if true then
if true then
if(true||(Bc f 0))then
some (0,12)
else
j5 a b
else
(Aj a 5).bind λv=>
if(Bc v 0)then
(Aj a 5).bind λw=>
if(Bc w 16)then
if(true||(Bc f 0))then
some (0,12)
else
j5 a b
else
(Aj a 3).bind λy=>
if((Bc y 4)||(Bc f 0))then
some (0,12)
else
j5 a b
else
if(false||(Bc f 0))then
some (0,12)
else
j5 a b
else
(Aj a 4).bind λaa=>
if(Bc aa 0)then
if(true||(Bc f 0))then
some (0,12)
else
j5 a b
else
(Aj a 5).bind λab=>
if(Bc ab 0)then
(Aj a 5).bind λac=>
if(Bc ac 16)then
if(true||(Bc f 0))then
some (0,12)
else
j5 a b
else
(Aj a 3).bind λad=>
if((Bc ad 4)||(Bc f 0))then
some (0,12)
else
j5 a b
else
if(false||(Bc f 0))then
some (0,12)
else
j5 a b
else
(Aj a 3).bind λae=>
if(Eg ae 4)then
if true then
if(true||(Bc f 0))then
some (0,12)
else
j5 a b
else
(Aj a 5).bind λaf=>
if(Bc af 0)then
(Aj a 5).bind λag=>
if(Bc ag 16)then
if(true||(Bc f 0))then
some (0,12)
else
j5 a b
else
(Aj a 3).bind λah=>
if((Bc ah 4)||(Bc f 0))then
some (0,12)
else
j5 a b
else
if(false||(Bc f 0))then
some (0,12)
else
j5 a b
else
(Aj a 4).bind λai=>
if(Bc ai 0)then
if(true||(Bc f 0))then
some (0,12)
else
j5 a b
else
(Aj a 5).bind λaj=>
if(Bc aj 0)then
(Aj a 5).bind λak=>
if(Bc ak 16)then
if(true||(Bc f 0))then
some (0,12)
else
j5 a b
else
(Aj a 3).bind λal=>
if((Bc al 4)||(Bc f 0))then
some (0,12)
else
j5 a b
else
if(false||(Bc f 0))then
some (0,12)
else
j5 a b
def JY:=IJ Te
def IA(j4:LB->Fv)(a:LB):Fv:=
if(Cg (Ac a) 3)then
some (0,6)
else
(Bg a 0 3).bind λam=>
if(am !=([73,68,51]:LB))then
some (0,6)
else
j4 a
def BR:=IA JY
def NY:Option UInt64:=
some A
def PF:=NY
def Zb:Option UInt64:=
if(Je l7 0)then
(Aj Bcy l7).bind λz=>
Bcq (Ad (Az 256 o8) (Ae z:UInt64)) (Ah l7 1)
else
Bcp o8
def Lm:Nat->UInt64->Int->Option UInt64
|0,_,_=>none
|z+1,d,e=>Zb PF (Lm z) c d e
def OS a:=Lm a Ap
def OQ(j4:LB->UInt64->Int->Option UInt64)(a:LB):Option UInt64:=
j4 a 0 (Ah (Ac a) 1)
def Da:=OQ OS
def BD:Option (Int×Int×Bool):=
(Bg c 12 16).bind λz=>
(Da z).bind λd=>
(Bg c 16 20).bind λe=>
(Da e).bind λi=>
if(((Cg d 32)||(Eg d 3032))||(Eg i 1000))then
some (0,0,false)
else
some ((Ah (Ae d:Int) 32),(Ae i:Int),true)
def Zu:Option (LB):=
some c
def Zg:=Zu
def Pa(j6:LB->Option (LB))(Nv:UInt64->Int->LB->Option (LB))(b:Int)(f:UInt64)(g:Int)(a:LB):Option (LB):=
if(Cg g b)then
(Cm a ([(Ae (AN f 256):UInt8)]:LB)).bind λh=>
Nv (Bf f 256) (Ad g 1) h
else
j6 a
def Gk:Nat->UInt64->Int->LB->Option (LB)
|0,_,_,_=>none
|c+1,d,e,i=>Pa Zg (Gk c) z d e i
def Zs b:=Gk b Ap
def AB(j4:Int->UInt64->Int->LB->Option (LB))(k:UInt64)(b:Int):Option (LB):=
j4 b k 0 ([]:LB)
def Ds:=AB Zs
def On:Option (LB):=
(Ds 2000 4).bind λc=>
(Cm ([(65:UInt8),(80:UInt8),(69:UInt8),(84:UInt8),(65:UInt8),(71:UInt8),(69:UInt8),(88:UInt8)]:LB) c).bind λe=>
(Ds (Ae (Ad z 32):UInt64) 4).bind λi=>
(Cm e i).bind λj=>
(Ds (Ae d:UInt64) 4).bind λB=>
(Cm j B).bind λC=>
(Ds A 4).bind λD=>
(Cm C D).bind λE=>
(mkI (8:Int) (0:UInt8)).bind λF=>
(Cm E F).bind λG=>
some G
def RT:Option (LB):=
(On z d 2684354560).bind λc=>
some c
def SX:Option (LB):=
if o7 then
(On z d 2147483648).bind λc=>
some c
else
(On z d 0).bind λe=>
some e
abbrev Ji:=Option (Int×Int)
def EY:Ji:=
if(Cg (Ac c) (Ad 64 d))then
some (0,24)
else
(Bg c (Ah (Ad 64 d) 32) (Ad 64 d)).bind λz=>
(SX d e true).bind λi=>
if(z !=i)then
some (0,12)
else
some ((Ad 64 d),0)
def FI:=EY
def EP(j4:LB->Int->Int->Ji)(a:LB):Ji:=
if(Cg (Ac a) 32)then
some (0,24)
else
(Bg a 0 32).bind λk=>
(BD k).bind λ(b,f,m)=>
if(!m)then
some (0,12)
else
(Bg a 0 32).bind λn=>
(RT b f).bind λo=>
if(n !=o)then
some (0,12)
else
j4 a b f
def EX:=EP FI
def EL(j3:LB->Ji)(a:LB):Ji:=
if(Cg (Ac a) 8)then
some (0,6)
else
(Bg a 0 8).bind λp=>
if(p !=([65,80,69,84,65,71,69,88]:LB))then
some (0,6)
else
j3 a
def Yn:=EL EX
abbrev Ey:=Option (LI×Int)
def EW(P5:Int->LI->Ey)(a:LB)(b:Int)(f:LI)(g h:Int):Ey:=
if(geq h 6)then
some (f,0)
else
if(Bc h 0)then
some (([]:LI),h)
else
if(Eg (Ad b g) 4000)then
some (([]:LI),4)
else
(Cm f ([g]:LI)).bind λm=>
P5 (Ad b g) m
def Lu P5:=EW P5
def Rt(j9:Int->LI->Int->Int->Ey)(a:LB)(b:Int)(f:LI):Ey:=
(Bg a b (Ac a)).bind λn=>
(BR n).bind λ(o,k)=>
if(geq k 6)then
(Bg a b (Ac a)).bind λp=>
(Yn p).bind λ(u,v)=>
j9 b f u v
else
j9 b f o k
def Lq:Nat->Int->LI->Ey
|0,_,_=>none
|z+1,d,e=>Rt (Lu (Lq z) c) c d e
def dO a:=Lq a Ap
def cI(j6:LB->Int->LI->Ey)(a:LB):Ey:=
j6 a 0 ([]:LI)
def OG:=cI dO
abbrev Fc:=Option (Int×Int)
def EK:Fc:=
some (d,z)
def FH:=EK
def Rg(j6:Int->Int->Fc)(Nv:Int->Int->Fc)(a:Int)(b:LI)(f g:Int):Fc:=
if(Cg g (Ac b))then
(Aj b g).bind λ_=>
(Aj b g).bind λh=>
Nv (Ad f h) (Ad g 1)
else
j6 a f
def If:Nat->Int->Int->Fc
|0,_,_=>none
|c+1,d,e=>Rg FH (If c) z j d e
def Rh a b:=If a b Ap
def EV(j4:Int->LI->Int->Int->Fc)(k:LB):Fc:=
(OG k).bind λ(b,a)=>
j4 a b 0 0
def Qo:=EV Rh
def Nr:Option Bool:=
if(Cg (Ac c) (Ac G))then
(Bg G 0 (Ac c)).bind λz=>
some (c==z)
else
some false
def JD:Option UInt32:=
if o9 then
some (Tu (Bf P 2) 3988292384)
else
some (Bf P 2)
def HW:=JD
def HN(j2:UInt32->Bool->Option UInt32)(a:UInt32)(f:Int):Option UInt32:=
if(geq f 1)then
j2 a (!(geq (AN a 2) 1))
else
j2 a (geq (AN a 2) 1)
def DE:=HN HW
def JO:Option UInt32:=
some P
def KA:=JO
def Tr(j6:UInt32->Option UInt32)(Nv:UInt32->UInt8->Int->Option UInt32)(a:UInt32)(b:UInt8)(f:Int):Option UInt32:=
if(Cg f 8)then
(DE a (Ae (AN b 2):Int)).bind λg=>
Nv g (Bf b 2) (Ad f 1)
else
j6 a
def Jg:Nat->UInt32->UInt8->Int->Option UInt32
|0,_,_,_=>none
|q+1,a,b,f=>Tr KA (Jg q) a b f
def eV:=Jg Ap
def iT(j4:UInt32->UInt8->Int->Option UInt32)(h:UInt32)(k:UInt8):Option UInt32:=
j4 h k 0
def SP:=iT eV
def CI:Option UInt32:=
some P
def EB:=CI
def Pp(j6:UInt32->Option UInt32)(Nv:UInt32->Int->Option UInt32)(a:LB)(b:UInt32)(f:Int):Option UInt32:=
if(Cg f (Ac a))then
(Aj a f).bind λg=>
(SP b g).bind λh=>
Nv h (Ad f 1)
else
j6 b
def Hm:Nat->UInt32->Int->Option UInt32
|0,_,_=>none
|z+1,d,e=>Pp EB (Hm z) c d e
def CY a:=Hm a Ap
def CD(j4:LB->UInt32->Int->Option UInt32)(k:UInt32)(a:LB):Option UInt32:=
j4 a k 0
def LJ:=CD CY
def Qt:Option UInt32:=
(LJ 4294967295 c).bind λz=>
some (Ah 4294967295 z)
abbrev Fu:=Option (Int×Int×Int×Int×Int×Int)
def IV:Fu:=
(Wa (Ae A:Int) (Ae V:Int) (Ae o8:Int) (Ae Bc0:Int) (Ae Bc3:Int)).bind λz=>
if(!z)then
some (0,0,0,0,0,12)
else
(DO (Ae A:Int) (Ae V:Int) (Ae o8:Int) (Ae Bc0:Int) (Ae Bc3:Int)).bind λc=>
if c then
some (0,0,0,0,0,4)
else
some ((Ae A:Int),(Ae V:Int),(Ae o8:Int),(Ae Bc0:Int),(Ae Bc3:Int),0)
def JK:=IV
def IW(j6:UInt64->UInt64->UInt64->UInt64->UInt64->Fu)(a:LB):Fu:=
(Bg a 4 6).bind λu=>
(Bg a 6 8).bind λp=>
(Bg a 8 10).bind λo=>
(Bg a 10 14).bind λn=>
(Bg a 14 18).bind λm=>
(
(Da u).bind λk=>
(
(Da p).bind λh=>
(
(Da o).bind λg=>
(
(Da n).bind λf=>
(
(Da m).bind λb=>
(
j6 k h g f b))))))
def JQ:=IW JK
def IH(j5:LB->Fu)(a:LB):Fu:=
if(Cg (Ac a) 22)then
some (0,0,0,0,0,24)
else
(Bg a 18 22).bind λy=>
(Bg a 0 18).bind λaa=>
(Da y).bind λab=>
(Qt aa).bind λac=>
if(Bc ab (Ae ac:UInt64))then
some (0,0,0,0,0,22)
else
j5 a
def JN:=IH JQ
def IE(j4:LB->Fu)(a:LB):Fu:=
(Bg a 0 (Dt 4 (Ac a))).bind λad=>
(Bg ([84,84,65,49]:LB) 0 (Dt 4 (Ac a))).bind λae=>
if(ad !=ae)then
some (0,0,0,0,0,12)
else
j4 a
def Sp:=IE JN
abbrev Po:=Option (Int×Int×Int×Int×Int×Int×Int)
def Zr:Po:=
(Sp c).bind λ(d,e,i,j,A,B)=>
if(geq B 24)then
some (0,0,0,0,0,0,(-1:Int))
else
some ((Ad z 22),d,e,i,j,A,B)
def Ze:=Zr
def Zh(j2:Int->LB->Po)(f:LB):Po:=
(Qo f).bind λ(b,g)=>
if(geq g 24)then
some (0,0,0,0,0,0,(-1:Int))
else
if(Bc g 0)then
some (0,0,0,0,0,0,g)
else
(Bg f b (Ac f)).bind λa=>
(Nr a ([73,68,51]:LB)).bind λu=>
if u then
some (0,0,0,0,0,0,(-1:Int))
else
(Nr a ([65,80,69,84,65,71,69,88]:LB)).bind λv=>
if v then
some (0,0,0,0,0,0,(-1:Int))
else
j2 b a
def Tl:=Zh Ze
def JP:Option UInt64:=
if o9 then
some (Tu (Az A 2) 4823603603198064275)
else
some (Az A 2)
def Ta:=JP
def IP(j2:UInt64->Bool->Option UInt64)(a:UInt64)(f:Int):Option UInt64:=
if(geq f 1)then
j2 a (!(Je a 9223372036854775808))
else
j2 a (Je a 9223372036854775808)
def DF:=IP Ta
def JS:Option UInt64:=
some A
def HP:=JS
def Tw:Option UInt64:=
if(Eg l6 0)then
(Gu (Bc l6 0)).bind λ_=>
(DF Bds (Fi (Bf (Ae Bcu:Int) l6) 2)).bind λz=>
Bcq z (Bf l6 2)
else
Bcp Bds
def Jh:Nat->UInt64->Int->Option UInt64
|0,_,_=>none
|z+1,c,d=>Tw HP (Jh z) Bcu c d
def eO b:=Jh b Ap
def fD(j4:UInt8->UInt64->Int->Option UInt64)(h:UInt64)(b:UInt8):Option UInt64:=
j4 b h 128
def RH:=fD eO
def CX:Option UInt64:=
some A
def CT:=CX
def Py:Option UInt64:=
if(Cg l7 (Ac Bcy))then
(Aj Bcy l7).bind λz=>
(RH o8 z).bind λc=>
Bcq c (Ad l7 1)
else
Bcp o8
def Hl:Nat->UInt64->Int->Option UInt64
|0,_,_=>none
|z+1,d,e=>Py CT (Hl z) c d e
def ZD a:=Hl a Ap
def XY(j4:LB->UInt64->Int->Option UInt64)(k:UInt64)(a:LB):Option UInt64:=
j4 a k 0
def Vp:=XY ZD
def qJ:Option UInt64:=
(Vp 0 c).bind λz=>
some z
def JJ:Option (LB):=
(qJ c).bind λz=>
(Ds z 8).bind λd=>
some d
abbrev Dh:=Option (LI×Int)
def gN:Dh:=
(mU j).bind λz=>
if(Bc z 0)then
some (([]:LI),12)
else
some (j,0)
def fY:=gN
def fK(j8:LI->Dh)(P5:Int->LI->Dh)(b:LB)(a g:Int)(f:LI):Dh:=
if(Cg g a)then
(Bg b (Az 4 g) (Ad (Az 4 g) 4)).bind λk=>
(Da k).bind λm=>
(Cm f ([(Ae m:Int)]:LI)).bind λn=>
P5 (Ad g 1) n
else
j8 f
def IB:Nat->Int->LI->Dh
|0,_,_=>none
|z+1,e,i=>fK fY (IB z) c d e i
def iG b a:=IB b a Ap
def dV(j6:LB->Int->Int->LI->Dh)(b:LB)(a:Int):Dh:=
j6 b a 0 ([]:LI)
def fL:=dV iG
def eC(j5:LB->Int->Dh)(b:LB)(a:Int):Dh:=
if((Cg a 1)||(Eg a 1000))then
some (([]:LI),2)
else
if(Cg (Ac b) (Ad (Az 4 a) 4))then
some (([]:LI),24)
else
(Bg b (Az 4 a) (Ad (Az 4 a) 4)).bind λo=>
(Bg b 0 (Az 4 a)).bind λp=>
(Da o).bind λu=>
(Qt p).bind λv=>
if(Bc u (Ae v:UInt64))then
some (([]:LI),22)
else
j5 b a
def SN:=eC fL
abbrev Io:=Option (Int×LI×Int)
def ZY:Io:=
if(geq d 24)then
some (0,([]:LI),(-1:Int))
else
some ((Ad (Ad z (Az 4 (Ac j))) 4),j,d)
def ZG:=ZY
def aL(j4:Int->Int->LI->Io)(a:LB)(b k m n o f:Int):Io:=
(Bg a f (Ac a)).bind λp=>
(IY b k m n o).bind λu=>
(SN p (Ac u)).bind λ(h,g)=>
j4 f g h
def ZK:=aL ZG
def aA(j3:LB->Int->Int->Int->Int->Int->Int->Io)(a:LB)(b k m n o:Int)(v:LB):Io:=
if(geq b 2)then
if(Cg (Ac a) 8)then
some (0,([]:LI),(-1:Int))
else
(Bg a 0 8).bind λw=>
(JJ v).bind λy=>
if(w !=y)then
some (0,([]:LI),26)
else
j3 a b k m n o 8
else
j3 a b k m n o 0
def kX:=aA ZK
def SF:Option (UInt64×Int):=
if(Eg (Ac q9) 100000)then
some (0,4)
else
(Vp A q9).bind λz=>
some (z,0)
def WN:Option (UInt64×Int):=
(SF 0 c).bind λ(z,d)=>
some (z,d)
def lB:Option (LX):=
some i
def kT:=lB
def PD(P5:UInt64->Int->LX->Option (LX))(b:UInt64)(f:Int)(a:LX)(g:Int32):Option (LX):=
(Aj a f).bind λ_=>
(Jm a f g).bind λh=>
P5 (Bf b 256) (Ad f 1) h
def Yo P5:=PD P5
def Yh(j8:UInt64->Int->LX->Int32->Option (LX))(j10:LX->Option (LX))(b:UInt64)(f:Int)(a:LX):Option (LX):=
if(Cg f 8)then
if(Eg (Ae (AN b 256):Int32) 127)then
j8 b f a (Ah (Ae (AN b 256):Int32) 256)
else
j8 b f a (Ae (AN b 256):Int32)
else
j10 a
def Iy:Nat->UInt64->Int->LX->Option (LX)
|0,_,_,_=>none
|q+1,b,f,a=>Yh (Yo (Iy q)) kT b f a
def mX:=Iy Ap
def oI(j6:UInt64->Int->LX->Option (LX))(k:UInt64):Option (LX):=
j6 k 0 (List.replicate 16 (0:Int32))
def bH:=oI mX
def Rz:Option (LX×Int):=
if(Eg (Ac c) 64)then
some (([(0:Int32),(0:Int32),(0:Int32),(0:Int32),(0:Int32),(0:Int32),(0:Int32),(0:Int32),(0:Int32),(0:Int32),(0:Int32),(0:Int32),(0:Int32),(0:Int32),(0:Int32),(0:Int32)]:LX),2)
else
(WN c).bind λ(z,d)=>
(bH z).bind λe=>
some (e,0)
def Yv:Option Int:=
(Dx z d).bind λc=>
if((Bc c 0)||(Cg e 1))then
some 2
else
(Gu (Bc z 0)).bind λ_=>
if(Eg e (Bf 4000 z))then
some 2
else
some 0
def Vs:Option (LB):=
(Qt c).bind λz=>
(Cm ([]:LB) c).bind λd=>
(Cm d ([(Ae z:UInt8),(Ae (Bv z (GI.toZ (8:UInt64)).toNat):UInt8),(Ae (Bv z (GI.toZ (16:UInt64)).toNat):UInt8),(Ae (Bv z (GI.toZ (24:UInt64)).toNat):UInt8)]:LB)).bind λe=>
some e
def Nn:Option Int:=
if(Cg (Ac c) 5)then
some 24
else
if(Eg (Ac c) 41254)then
some 4
else
(Bg c 0 (Ah (Ac c) 4)).bind λz=>
(Vs z).bind λd=>
if(d !=c)then
some 22
else
some 0
def Lg:Option (Int×Int×UInt64×UInt64):=
some (10,10,16384,16384)
def cX:Option UInt64:=
some A
def cH:=cX
def Rs:Option UInt64:=
if(Cg l7 Y)then
Bcq (Az o8 2) (Ad l7 1)
else
Bcp o8
def Ic:Nat->UInt64->Int->Option UInt64
|0,_,_=>none
|c+1,d,e=>Rs cH (Ic c) z d e
def cU b:=Ic b Ap
def cE(j4:Int->UInt64->Int->Option UInt64)(b:Int):Option UInt64:=
j4 b 1 0
def Ez:=cE cU
def FZ(a g:Int)(h k:UInt64)(b:UInt32):Option Bool:=
(Ez a).bind λf=>
some (Cg (Ae b:UInt64) f)
def CO(a g:Int)(h k:UInt64)(b:UInt32):Option UInt32:=
(Ez a).bind λf=>
some (Ae (Ah (Ae b:UInt64) f):UInt32)
abbrev Wi:=Option (Int×UInt64)
def JV:Wi:=
if(Cg z 24)then
(Ez (Ad z 5)).bind λc=>
if(Eg (Ah (Ad A V) (Bf A 16)) c)then
some ((Ad z 1),(Ah (Ad A V) (Bf A 16)))
else
some (z,(Ah (Ad A V) (Bf A 16)))
else
some (z,(Ah (Ad A V) (Bf A 16)))
def Tc:=JV
def IK(j2:Int->UInt64->UInt64->Wi)(b:Int)(a f:UInt64):Wi:=
if(Eg b 0)then
(Ez (Ad b 4)).bind λh=>
if(Cg (Ah (Ad a f) (Bf a 16)) h)then
some ((Ah b 1),(Ah (Ad a f) (Bf a 16)))
else
j2 b a f
else
j2 b a f
def Sd:=IK Tc
abbrev Ro:=Option (Int×Int×UInt64×UInt64)
def DD(f:UInt32)(g a:Int)(h b:UInt64)(w:Int)(y:UInt64):Ro:=
(Sd g h (Ae f:UInt64)).bind λ(aa,ab)=>
some (aa,w,ab,y)
def Ps:=DD
def BI(j2:UInt32->Int->Int->UInt64->UInt64->Int->UInt64->Ro)(g a:Int)(h b:UInt64)(f:UInt32):Ro:=
(FZ g a h b f).bind λo=>
if(!o)then
(
(
(CO g a h b f).bind λk=>
(Sd a b (Ae k:UInt64)).bind λ(m,n)=>
j2 f g a h b m n))
else
j2 f g a h b a b
def Vi:=BI Ps
abbrev Eh:=Option (Int×Int×UInt64×UInt64)
def ZB:Eh:=
some (z,d,A,V)
def XW:=ZB
def DB(j6:Int->Int->UInt64->UInt64->Eh)(Nv:Int->Int->Int->UInt64->UInt64->Eh)(a:Int)(b:LU)(m f g:Int)(h k:UInt64):Eh:=
if(Cg m (Ac b))then
(Aj b m).bind λn=>
(Vi f g h k n).bind λ(o,p,u,v)=>
Nv (Ad m a) o p u v
else
j6 f g h k
def Ks:Nat->Int->Int->Int->UInt64->UInt64->Eh
|0,_,_,_,_,_=>none
|c+1,d,e,i,j,A=>DB XW (Ks c) z X d e i j A
def aJ a b:=Ks a b Ap
def BZ(j4:Int->LU->Int->Int->Int->UInt64->UInt64->Eh)(a:Int)(b:LU):Eh:=
(Lg).bind λ(w,y,aa,ab)=>
(Gu (Bc a 0)).bind λ_=>
j4 a b (Fi (Ac b) a) w y aa ab
def Nj:=BZ aJ
def QC:Option Int:=
some (Fi z 2)
def QR:=QC
def Yp:Option Int:=
if(Cg Bc4 (Fi p9 8))then
Bct (Bf p8 2) (Ad Bc4 1)
else
Bcs p8
def Lp:Nat->Int->Int->Option Int
|0,_,_=>none
|c+1,d,e=>Yp QR (Lp c) z d e
def QD a:=Lp a Ap
def QF(j4:Int->Int->Int->Option Int)(g:LB)(k a:Int):Option Int:=
(Aj g (Bf a 8)).bind λh=>
j4 a (Ae h:Int) 0
def Ju:=QF QD
abbrev Du:=Option (LB×Int)
def LR:Du:=
(Aj D (Bf e 8)).bind λ_=>
(Aj D (Bf e 8)).bind λc=>
(Aj D (Bf e 8)).bind λ_=>
(Jm D (Bf e 8) (Ad c (Ae (Az z d):UInt8))).bind λi=>
some (i,(Ad e 1))
def Vl:=LR
def Wk(j8:Int->Int->Int->LB->Du)(P5:Int->Int->Du)(b a:Int)(f:LB)(g h:Int):Du:=
if(Cg h (Fi a 8))then
P5 (Az g 2) (Ad h 1)
else
j8 b g a f
def Km:Nat->Int->Int->Du
|0,_,_=>none
|c+1,e,i=>Wk Vl (Km c) z d D e i
def LO b a f:=Km b a f Ap
def MF(j6:Int->Int->LB->Int->Int->Du)(b a:Int)(f:LB):Du:=
j6 b a f 1 0
def Vr:=MF LO
def LW(j5:Int->Int->LB->Du)(k:LB)(a b:Int):Du:=
if(geq (Fi a 8) 0)then
(Cm k ([(0:UInt8)]:LB)).bind λo=>
j5 b a o
else
j5 b a k
def Uf:=LW Vr
abbrev Dy:=Option (LB×Int)
def XK:Dy:=
some (c,z)
def WU:=XK
def Oz(j6:Int->LB->Dy)(Nv:Int->Int->LB->Dy)(f:Int)(g:LB)(h k a:Int)(b:LB):Dy:=
if(Cg k f)then
(Ju g h k).bind λm=>
(Uf b a m).bind λ(n,o)=>
Nv (Ad k 1) o n
else
j6 a b
def Gm:Nat->Int->Int->LB->Dy
|0,_,_,_=>none
|e+1,i,j,A=>Oz WU (Gm e) z c d i j A
def WQ f g h:=Gm f g h Ap
def XM(j4:Int->LB->Int->Int->Int->LB->Dy)(g:LB)(h p f:Int):Dy:=
j4 f g h p 0 ([]:LB)
def IZ:=XM WQ
def dH:Option UInt64:=
some A
def cM:=dH
def Rq:Option UInt64:=
if(Je l7 0)then
(Ju Bcy Bde (Ad Y l7)).bind λz=>
Bcq (Ad (Az 2 o8) (Ae z:UInt64)) (Ah l7 1)
else
Bcp o8
def Ie:Nat->UInt64->Int->Option UInt64
|0,_,_=>none
|e+1,i,j=>Rq cM (Ie e) z c d i j
def ER b f g:=Ie b f g Ap
def EZ(j4:Int->LB->Int->UInt64->Int->Option UInt64)(f:LB)(g b m:Int):Option UInt64:=
j4 b f g 0 (Ah m 1)
def Qg:=EZ ER
abbrev Ge:=Option (Int×Int)
def MI(b a:Int)(g:LB)(f:Int):Ge:=
if(geq a 48)then
some (a,(Ad b a))
else
if(Je (Ad b a) f)then
some ((-1:Int),0)
else
some (a,(Ad (Ad b a) 1))
def Wj:=MI
def We(j6:Int->Int->LB->Int->Ge)(Nv:Int->Ge)(b:Int)(g:LB)(f a:Int):Ge:=
if((Cg (Ad b a) f)&&(Cg a 48))then
(Ju g f (Ad b a)).bind λh=>
if(geq h 1)then
Nv (Ad a 1)
else
j6 b a g f
else
j6 b a g f
def Jz:Nat->Int->Ge
|0,_=>none
|e+1,i=>We Wj (Jz e) z c d i
def kR b g f:=Jz b g f Ap
def lD(j4:Int->LB->Int->Int->Ge)(g:LB)(f b:Int):Ge:=
j4 b g f 0
def VF:=lD kR
def AZ:Option Int:=
(Ez Y).bind λz=>
(Gu (Bc z 0)).bind λ_=>
some (Ae (Dt 48 (Bf (Ae P:UInt64) z)):Int)
abbrev Yj:=Option (UInt32×Int×Int)
def Vu:Yj:=
if((Cg d 0)||(Cg (Ah U e) C))then
some (0,0,24)
else
(Qg D U e C).bind λc=>
if(Cg d 48)then
(Ez z).bind λi=>
some ((Ae (Ad (Az (Ae d:UInt64) i) c):UInt32),(Ad e C),0)
else
(AZ (Ae c:UInt32) z).bind λj=>
if(Cg j d)then
some (0,0,12)
else
some ((Ae c:UInt32),(Ad e C),0)
def Wg:=Vu
def LK(j2:Int->Int->Int->LB->Int->Int->Yj)(h:LB)(f n g:Int):Yj:=
if(Je n f)then
some (0,0,24)
else
(VF h f n).bind λ(a,b)=>
if(geq a 48)then
j2 g a b h f 32
else
j2 g a b h f g
def GG:=LK Wg
def GC(g:LB)(b a f n:Int)(v w:UInt64):Option (UInt32×Int×Int):=
if(Je a b)then
some (0,0,24)
else
(Ju g b a).bind λo=>
if(geq o 0)then
if(Cg (Ah (Ah b a) 1) f)then
some (0,0,24)
else
(Qg g b (Ad a 1) f).bind λp=>
some ((Ae p:UInt32),(Ad (Ad a 1) f),0)
else
(GG g b (Ad a 1) n).bind λ(h,u,k)=>
if(Bc k 0)then
some (0,0,k)
else
(Ez f).bind λm=>
if(Eg (Ad (Ae h:UInt64) m) 4294967295)then
some (0,0,12)
else
some ((Ae (Ad (Ae h:UInt64) m):UInt32),u,0)
abbrev Bj:=Option (LU×Int)
def dK:Bj:=
some (X,0)
def cR:=dK
def Rl(j18:LU->Bj)(Gc:Int->Bj)(a:LB)(b:LU)(m:Int):Bj:=
if(Cg m (Az 8 (Ac a)))then
(Ju a (Az 8 (Ac a)) m).bind λn=>
if(Bc n 0)then
some (b,12)
else
Gc (Ad m 1)
else
j18 b
def Ii:Nat->Int->Bj
|0,_=>none
|z+1,d=>Rl cR (Ii z) c X d
def ES a b:=Ii a b Ap
def EM(j16:LB->LU->Int->Bj)(f:Int)(a:LB)(b:LU):Bj:=
if(Eg (Ah (Az 8 (Ac a)) f) 7)then
some (b,12)
else
j16 a b f
def Ru:=EM ES
def FA(Afp:Int->Int->LU->Bj)(g h:Int)(a:LB)(f k:Int)(b:LU)(p u:Int)(v w:UInt64):Bj:=
(IZ a (Az 8 (Ac a)) f (Dt (Ad f 81) (Az 8 (Ac a)))).bind λ(y,aa)=>
(GC y aa 0 p u v w).bind λ(ab,ac,o)=>
if(Bc o 0)then
some (b,o)
else
(Cm b ([ab]:LU)).bind λad=>
Afp (Ad f ac) (Ad k 1) ad
def Ig Afp:=FA Afp
def FF(j13:Int->Int->LU->Int->Int->UInt64->UInt64->Bj)(j15:Int->LB->LU->Bj)(g h:Int)(a:LB)(f k:Int)(b:LU):Bj:=
if(Cg k (Az h g))then
(Lg).bind λ(n,ae,af,ag)=>
if(Je k g)then
(Nj g b).bind λ(ah,ai,aj,ak)=>
j13 f k b ah ai aj ak
else
j13 f k b n ae af ag
else
j15 f a b
def Ei:Nat->Int->Int->LU->Bj
|0,_,_,_=>none
|c+1,e,i,j=>FF (Ig (Ei c) z d D) Ru z d D e i j
def cK g h a:=Ei g h a Ap
def JL(j10:Int->Int->LB->Int->Int->LU->Bj)(g h:Int)(a:LB):Bj:=
j10 g h a 0 0 ([]:LU)
def BC:=JL cK
def oJ:Option (Int×Int):=
if(geq z 8)then
some (4,0)
else
if((geq z 16)||(geq z 24))then
some (5,0)
else
some (0,2)
def sO:Option (Int×LX×LX×Int):=
(oJ z).bind λ(c,d)=>
if(Bc d 0)then
some (0,(List.replicate 16 (0:Int32)),(List.replicate 16 (0:Int32)),2)
else
if(geq z 16)then
some (9,i,(List.replicate 16 (0:Int32)),0)
else
some (10,i,(List.replicate 16 (0:Int32)),0)
def UQ:Option (Int×Int32×Int×LX×LX×Int):=
(sO z i).bind λ(c,d,e,j)=>
if(Bc j 0)then
some (0,0,0,(List.replicate 16 (0:Int32)),(List.replicate 16 (0:Int32)),2)
else
some (z,0,c,d,e,0)
def BU:Option Int32:=
if(geq (AN P 2) 0)then
some (Ae (Bf P 2):Int32)
else
some (Ae (Bf (pL (Ad (Ae P:Int) 1)) 2):Int32)
def Cl:Option Int32:=
some (Ae (Ae (Ae z:UInt64):UInt32):Int32)
def MM:Option Int32:=
some (Ae z:Int32)
def LN:=MM
def Vh(j6:Int->Option Int32)(Nv:Int->Int->Option Int32)(h:Int)(b f:LX)(g a:Int):Option Int32:=
if(Cg a 16)then
(Aj b a).bind λ_=>
(Aj f a).bind λ_=>
(Aj b a).bind λk=>
(Aj f a).bind λm=>
(Cl (Az (Ae k:Int) (Ae m:Int))).bind λn=>
(Cl (Ad g (Ae n:Int))).bind λo=>
Nv (Ae o:Int) (Ad a 1)
else
j6 g
def Kg:Nat->Int->Int->Option Int32
|0,_,_=>none
|c+1,d,e=>Vh LN (Kg c) z i R d e
def kN h b f:=Kg h b f Ap
def lC(j4:Int->LX->LX->Int->Int->Option Int32)(h:Int)(b f:LX):Option Int32:=
j4 h b f 0 0
def UU:=lC kN
def HR:Option Int32:=
(UU z i R).bind λc=>
(Cl (Ad (Ae c:Int) (Bf Bcv 2))).bind λd=>
(Gu (Bc Bcv 0)).bind λ_=>
(Gu (Bc Bcv 0)).bind λ_=>
if(Cg (Fi (Ae d:Int) Bcv) 0)then
some (Ae (Ah (Bf (Ae d:Int) Bcv) 1):Int32)
else
some (Ae (Bf (Ae d:Int) Bcv):Int32)
def Ts:=HR
def HX(j2:Int->LX->LX->Int->Option Int32)(b:Int)(f g:LX):Option Int32:=
if(geq b 9)then
j2 b f g 512
else
j2 b f g 1024
def CF:=HX Ts
def DP:Option Int32:=
if(geq z 0)then
some 4
else
if(xU z 3)then
some 2
else
some 1
def Rw:Option Int32:=
if(Cg F 0)then
some (-1:Int32)
else
if(Eg F 0)then
some 1
else
some 0
abbrev Dw:=Option (Int×LX×LX)
def XQ:Dw:=
some (z,i,R)
def XJ:=XQ
def Od(j6:Int->LX->LX->Dw)(Nv:Int->LX->Dw)(h:Int32)(g:Int)(b:LX)(a:Int)(f:LX):Dw:=
if(Cg a 16)then
(Aj f a).bind λ_=>
(Aj b a).bind λ_=>
(Aj f a).bind λk=>
(Aj b a).bind λm=>
(DP a).bind λn=>
(Rw m).bind λo=>
(Rw h).bind λp=>
(Aj f a).bind λ_=>
(Jm f a (Ad k (Az (Az n o) p))).bind λu=>
Nv (Ad a 1) u
else
j6 g f b
def Gp:Nat->Int->LX->Dw
|0,_,_=>none
|z+1,c,d=>Od XJ (Gp z) F O l8 c d
def WI h g b:=Gp h g b Ap
def VW(j4:Int32->Int->LX->Int->LX->Dw)(g:Int)(v b:LX)(h:Int32):Dw:=
j4 h g b 0 v
def HQ:=VW WI
abbrev Ee:=Option (Int×LX×LX)
def BY:Ee:=
(Aj l9 0).bind λ_=>
(Jm l9 0 F).bind λz=>
some (O,l8,z)
def AX:=BY
def Qk(j6:Int32->Int->LX->LX->Ee)(Nv:Int->LX->Ee)(b:Int32)(f:Int)(g:LX)(h:Int)(a:LX):Ee:=
if(Eg h 0)then
(Aj a (Ah h 1)).bind λ_=>
(Aj a (Ah h 1)).bind λm=>
(Aj a h).bind λ_=>
(Jm a h m).bind λn=>
Nv (Ah h 1) n
else
j6 b f g a
def Ho:Nat->Int->LX->Ee
|0,_,_=>none
|z+1,c,d=>Qk AX (Ho z) F O l8 c d
def ZF b f g:=Ho b f g Ap
def YJ(j4:Int32->Int->LX->Int->LX->Ee)(f:Int)(g o:LX)(b:Int32):Ee:=
j4 b f g 15 o
def LG:=YJ ZF
def Tg:Option (Int32×Int×LX×LX):=
(CF z i R).bind λc=>
(Cl (Ad (Ae F:Int) (Ae c:Int))).bind λd=>
(HQ z i R F).bind λ(e,j,A)=>
(LG e j A d).bind λ(B,C,D)=>
some (d,B,C,D)
def BB:Option Int32:=
(Gu (Bc O 0)).bind λ_=>
(Gu (Bc O 0)).bind λ_=>
if(Cg (Fi (Az (Ah O 1) (Ae F:Int)) O) 0)then
some (Ae (Ah (Bf (Az (Ah O 1) (Ae F:Int)) O) 1):Int32)
else
some (Ae (Bf (Az (Ah O 1) (Ae F:Int)) O):Int32)
def Qe:=BB
def DG(j2:Int32->Int->Option Int32)(f:Int)(b:Int32):Option Int32:=
if(geq f 5)then
j2 b 32
else
j2 b 16
def Nq:=DG Qe
def Vy(b:Int)(a:Int32)(h:Int)(k m:LX):Option Int:=
if(geq b 8)then
(Nq 4 a).bind λf=>
some (Ae f:Int)
else
(Nq 5 a).bind λg=>
some (Ae g:Int)
def Td:Option (Int32×Int×Int32×Int×LX×LX):=
(Tg O l8 l9 Bcz).bind λ(c,d,e,i)=>
(Vy z F O l8 l9).bind λj=>
(Cl (Ad (Ae c:Int) j)).bind λA=>
some (A,z,A,d,e,i)
def Pu:Option Int:=
if((Cg z 1)||(Eg z 6))then
some 2
else
if(Eg (Ac i) 4000)then
some 4
else
(Gu (Bc z 0)).bind λ_=>
if(Eg (Fi (Ac i) z) 0)then
some 2
else
some 0
def WY:Option (LX):=
some i
def WJ:=WY
def Ot(j8:LX->Option (LX))(P5:Int->LX->Option (LX))(a:LX)(f:Int)(b:LX):Option (LX):=
if(Je f 0)then
(Aj b (Ad f 1)).bind λ_=>
(Aj a f).bind λk=>
(Aj b (Ad f 1)).bind λm=>
(Cl (Ah (Ae m:Int) (Ae k:Int))).bind λn=>
(Aj b f).bind λ_=>
(Jm b f n).bind λo=>
P5 (Ah f 1) o
else
j8 b
def Gl:Nat->Int->LX->Option (LX)
|0,_,_=>none
|z+1,c,d=>Ot WJ (Gl z) i c d
def UT a:=Gl a Ap
def AK(j6:LX->Int->LX->Option (LX))(a p:LX):Option (LX):=
j6 a (Ah (Ac a) 2) p
def Og:=AK UT
def Zk(j5:LX->LX->Option (LX))(a:LX):Option (LX):=
(mkI (Ac a) (0:Int32)).bind λh=>
(Gu (geq (Ac a) (Ac a))).bind λ_=>
(Aj a (Ah (Ac a) 1)).bind λu=>
(Aj h (Ah (Ac a) 1)).bind λ_=>
(Jm h (Ah (Ac a) 1) u).bind λg=>
if(Eg (Ac a) 1)then
(Aj a (Ah (Ac a) 1)).bind λv=>
(Aj a (Ah (Ac a) 2)).bind λw=>
(Cl (Ad (Ae v:Int) (Bf (Ae w:Int) 2))).bind λy=>
(Aj g (Ah (Ac a) 1)).bind λ_=>
(Jm g (Ah (Ac a) 1) y).bind λaa=>
j5 a aa
else
j5 a g
def Tq:=Zk Og
abbrev Fq:=Option (LX×Int)
def iA:Fq:=
some (i,0)
def iM:=iA
def JX(j6:LX->Fq)(Nv:Int->LX->Fq)(a:Int)(b:LX)(g:Int)(f:LX):Fq:=
if(Cg g (Ac b))then
(Bg b g (Ad g a)).bind λh=>
(Tq h).bind λk=>
(Cm f k).bind λm=>
Nv (Ad g a) m
else
j6 f
def Mp:Nat->Int->LX->Fq
|0,_,_=>none
|c+1,d,e=>JX iM (Mp c) z i d e
def gL a b:=Mp a b Ap
def HV(j4:Int->LX->Int->LX->Fq)(a:Int)(b:LX):Fq:=
(Pu a b).bind λn=>
if(Bc n 0)then
(Pu a b).bind λo=>
some (([]:LX),o)
else
j4 a b 0 ([]:LX)
def BW:=HV gL
def Zx(b f:Int)(w:LX):Option (LX):=
(BW b w).bind λ(aj,ai)=>
some aj
def Oe:=Zx
def AA(R5:Int->LX->Option (LX))(a:LU)(b f:Int)(g:LX)(h:Int)(m:LX):Option (LX):=
R5 (Ad h 1) m
def Zm R5:=AA R5
def Zp(Afq:Int->LX->Int->Int32->Int->LX->LX->Option (LX))(a:LU)(h b f:Int)(g:LX)(k:Int)(ah:LX)(y:Int)(aa:Int32)(ab:Int)(ac ad:LX):Option (LX):=
Afq (Ad k b) ah y aa ab ac ad
def Zf Afq:=Zp Afq
def Zw(j30:Int->LX->Int->Int32->Int->LX->LX->Option (LX))(a:LU)(h b f:Int)(g:LX)(k:Int)(ae:Int32)(m:LX)(n:Int)(o:Int32)(p:Int)(u v:LX)(y:Int)(aa:Int32)(ab:Int)(ac ad:LX):Option (LX):=
(Aj m k).bind λ_=>
(Jm m k ae).bind λah=>
j30 k ah y aa ab ac ad
def AE Afq a h b f g:=Zw (Zf Afq a h b f g) a h b f g
def Zv(j29:Int->Int32->LX->Int->Int32->Int->LX->LX->Int->Int32->Int->LX->LX->Option (LX))(j32:Int->LX->Option (LX))(a:LU)(b f:Int)(g:LX)(h k:Int)(m:LX)(n:Int)(o:Int32)(p:Int)(u v:LX):Option (LX):=
if(Cg k (Ac a))then
(Aj a k).bind λag=>
(
(BU ag).bind λaf=>
(
(Td n o p u v af).bind λ(ae,y,aa,ab,ac,ad)=>
j29 k ae m n o p u v y aa ab ac ad))
else
j32 h m
def Jp(R5:Int->LX->Option (LX))(a:LU)(b f:Int)(g:LX)(h:Int):Nat->Int->LX->Int->Int32->Int->LX->LX->Option (LX)
|0,_,_,_,_,_,_,_=>none
|q+1,k,m,n,o,p,u,v=>Zv (AE (Jp R5 a b f g h q) a h b f g) (Zm R5 a b f g) a b f g h k m n o p u v
def Zz R5 a b f g h:=Jp R5 a b f g h Ap
def Of(j26:Int->Int->LX->Int->Int32->Int->LX->LX->Option (LX))(j34:Int->Int->LX->Option (LX))(a:LU)(b f:Int)(g:LX)(h:Int)(w:LX):Option (LX):=
if(Cg h b)then
(UQ f g).bind λ(ak,ai,al,am,an,aq)=>
j26 h h w ak ai al am an
else
j34 b f w
def Eu:Nat->Int->LX->Option (LX)
|0,_,_=>none
|z+1,c,d=>Of (Zz (Eu z) X y8 y9 Bda) Oe X y8 y9 Bda c d
def AL a b f g:=Eu a b f g Ap
def BQ(j18:LU->Int->Int->LX->Int->LX->Option (LX))(b f:Int)(g:LX)(a:LU):Option (LX):=
(mkI (Ac a) (0:Int32)).bind λao=>
(Gu (geq (Ac a) (Ac a))).bind λ_=>
j18 a b f g 0 ao
def Nl:=BQ AL
def cY:Option Int:=
some 0
def cG:=cY
def Df:Option Int:=
if(Cg p9 (Ac y7))then
(Aj y7 p9).bind λz=>
if(Cg (Ae z:Int) (pL O))then
some 16
else
(Aj y7 p9).bind λc=>
if(Je (Ae c:Int) O)then
some 16
else
Bcs (Ad p9 1)
else
Bcr
def Bm:Nat->Int->Option Int
|0,_=>none
|z+1,c=>Df cG (Bm z) i C c
def dL a b:=Bm a b Ap
def Ih(j4:LX->Int->Int->Option Int)(k:Int)(a:LX):Option Int:=
(Hr k).bind λb=>
if(geq b 0)then
some 2
else
if(Eg (Ac a) 4000)then
some 4
else
j4 a b 0
def Bk:=Ih dL
def Wd(g f:Int)(a:LX):Option (LX×Int):=
(Bk f a).bind λb=>
if(Bc b 0)then
some (([]:LX),b)
else
some (a,0)
abbrev Ri:=Option (LX×Int)
def Qi:Ri:=
if(Bc z 0)then
some (([]:LX),z)
else
(
(
(Nl d e i X).bind λc=>
(Wd d e c).bind λ(j,A)=>
some (j,A)))
def Pv:=Qi
def EF(j2:Int->Int->Int->LX->LU->Ri)(a b:Int)(g:LX)(p:Int)(k:LB):Ri:=
(Yv a b p).bind λy=>
if(Bc y 0)then
some (([]:LX),2)
else
(Nn k).bind λaa=>
if(Bc aa 0)then
(Nn k).bind λab=>
some (([]:LX),ab)
else
(Bg k 0 (Ah (Ac k) 4)).bind λac=>
(BC a p ac).bind λ(h,f)=>
j2 f a b g h
def Ki:=EF Pv
def Vz:Option (LB):=
if(geq z 24)then
(Cm ([(Ae (Fi d 256):UInt8),(Ae (Fi (Bf d 256) 256):UInt8)]:LB) ([(Ae (Bf d 65536):UInt8)]:LB)).bind λc=>
some c
else
some ([(Ae (Fi d 256):UInt8),(Ae (Fi (Bf d 256) 256):UInt8)]:LB)
def Kh:=Vz
def ME(j2:Int->Int->Option (LB))(a:Int)(f:Int32):Option (LB):=
if(geq a 8)then
some ([(Ae (Ad (Ae f:Int) 128):UInt8)]:LB)
else
if(Cg (Ae f:Int) 0)then
(Hr a).bind λh=>
j2 a (Ad (Ae f:Int) (Az 2 h))
else
j2 a (Ae f:Int)
def FM:=ME Kh
abbrev Fa:=Option (LB×Int)
def cP:Fa:=
some (c,0)
def cT:=cP
def Rp(j6:LB->Fa)(Nv:Int->LB->Fa)(b:Int)(a:LX)(g:Int)(f:LB):Fa:=
if(Cg g (Ac a))then
(Aj a g).bind λh=>
(FM b h).bind λk=>
(Cm f k).bind λm=>
Nv (Ad g 1) m
else
j6 f
def Ij:Nat->Int->LB->Fa
|0,_,_=>none
|c+1,d,e=>Rp cT (Ij c) z i d e
def dC b a:=Ij b a Ap
def FB(j4:Int->LX->Int->LB->Fa)(b:Int)(a:LX):Fa:=
(Bk b a).bind λn=>
if(Bc n 0)then
(Bk b a).bind λo=>
some (([]:LB),o)
else
j4 b a 0 ([]:LB)
def Pq:=FB dC
abbrev Rn:=Option (LB×Int)
def XV(o:LX)(f:Int)(p g:LB)(h k a m n:Int)(u:LI)(b:Int)(v:LB)(w:Bool)(y:Int):Rn:=
if(Bc f 0)then
some (([]:LB),f)
else
(Pq a o).bind λ(ac,ai)=>
some (ac,0)
def aN:=XV
def aD(j2:LX->Int->LB->LB->Int->Int->Int->Int->Int->LI->Int->LB->Bool->Int->Rn)(p g:LB)(h k a m n:Int)(u:LI)(b:Int)(v:LB)(w:Bool)(y:Int):Rn:=
(Aj u b).bind λaa=>
if(Cg (Ac g) aa)then
some (([]:LB),(-1:Int))
else
(Rz p).bind λ(ad,aj)=>
(Bg g 0 aa).bind λae=>
(oC h k a m n).bind λ(af,ag)=>
(IY h k a m n).bind λab=>
(Aj ab b).bind λ_=>
(Aj ab b).bind λah=>
(Ki af ag ad ah ae).bind λ(o,f)=>
j2 o f p g h k a m n u b v w y
def LM:=aD aN
abbrev Ka:=Option (LB×LB×Int×Int×Int×Int×Int×LI×Int×LB×Bool×Int×Int)
def II:Ka:=
if(geq (Ac j) 0)then
(kX G d e B E M c).bind λ(z,i,A)=>
if(Bc A 0)then
some (c,G,d,e,B,E,M,j,C,N,I,J,A)
else
(Bg G z (Ac G)).bind λD=>
some (c,D,d,e,B,E,M,i,C,N,I,J,0)
else
if(geq C (Ac j))then
if(Eg (Ac G) 4000)then
some (c,G,d,e,B,E,M,j,C,N,I,J,38)
else
some (c,G,d,e,B,E,M,j,C,N,I,J,(-1:Int))
else
(LM c G d e B E M j C N I J).bind λ(F,L)=>
if(Bc L 0)then
some (c,G,d,e,B,E,M,j,C,N,I,J,L)
else
(Cm ([]:LB) N).bind λO=>
(Cm O F).bind λP=>
(
(
(
(Aj j C).bind λR=>
(
(Bg G R (Ac G)).bind λT=>
some (c,T,d,e,B,E,M,j,(Ad C 1),P,I,J,0)))))
def JA:=II
def IC:Ka:=
(PA d e B E M c).bind λz=>
some (c,G,d,e,B,E,M,j,C,N,I,J,z)
def IG:=IC
def Tk(j3:LB->LB->Int->Int->Int->Int->Int->LI->Int->LB->Bool->Int->Ka)(j4:LB->LB->Int->Int->Int->Int->Int->LI->Int->LB->Bool->Int->Ka)(g a:LB)(m n o p u:Int)(b:LI)(f:Int)(v:LB)(h:Bool)(k:Int):Ka:=
if(geq m 0)then
(Tl a).bind λ(ac,ae,w,af,ag,y,ai)=>
if(Bc ai 0)then
some (g,a,m,n,o,p,u,b,f,v,h,k,ai)
else
(
(Bg a ac (Ac a)).bind λad=>
(
j3 g ad ae w af ag y b f v h k))
else
j4 g a m n o p u b f v h k
def Jo:=Tk IG JA
abbrev Vm:=Option (LB×LB×Int×Int×Int×Int×Int×LI×Int×LB×Bool×Int)
def HZ:Vm:=
(Cm ([]:LI) j).bind λz=>
some (c,Bd2,d,e,B,E,M,z,C,Bd3,I,J)
def ID:=HZ
def HO(j2:LB->Int->Int->Int->Int->Int->LI->Int->Bool->Int->LB->LB->Vm)(f w:LB)(g h k m n:Int)(o:LI)(p:Int)(y:LB)(u:Bool)(v:Int):Vm:=
(
(
(
(Cm ([]:LB) w).bind λa=>
(
(Cm ([]:LB) y).bind λb=>
j2 f g h k m n o p u v a b))))
def BH:=HO ID
def rO(a m:LB)(n o p u v:Int)(w:LI)(y:Int)(b:LB)(aa:Bool)(ab:Int):Option (LB×LB×Int×Int×Int×Int×Int×LI×Int×LB×Bool×Int):=
(
(
(Cm ([]:LB) b).bind λf=>
some (a,([]:LB),0,0,0,0,0,([]:LI),0,f,false,0)))
def lE:Option (LB×LB×Int×Int×Int×Int×Int×LI×Int×LB×Bool×Int×Int):=
(rO c G d e B E M j C N I J).bind λ(z,i,A,D,F,L,O,P,R,T,U,V)=>
some (z,i,A,D,F,L,O,P,R,T,U,Bcw,Bcw)
abbrev Vw:=Option (LB×LB×Int×Int×Int×Int×Int×LI×Int×LB×Bool×Int×Int)
def IX(bk3:LB->LB->Int->Int->Int->Int->Int->LI->Int->LB->Bool->Int->Vw)(a b:LB)(f g h k m:Int)(n:LI)(o:Int)(p:LB)(u:Bool)(v:Int):Vw:=
(Jo a b f g h k m n o p u v).bind λ(bb,bc,bd,be,bf,bg,bh,bi,bj,bk,bl,bm,w)=>
if(geq w (-1:Int))then
(BH a b f g h k m n o p u v).bind λ(bn,bp,bq,br,bs,bt,bu,bv,bw,bx,bz,da)=>
some (bn,bp,bq,br,bs,bt,bu,bv,bw,bx,bz,da,0)
else
if(Bc w 0)then
(lE a b f g h k m n o p u v w).bind λ(db,dc,dd,de,df,dg,dh,di,dj,dk,dl,dm,dn)=>
some (db,dc,dd,de,df,dg,dh,di,dj,dk,dl,dm,dn)
else
bk3 bb bc bd be bf bg bh bi bj bk bl bm
def Tt:Nat->LB->LB->Int->Int->Int->Int->Int->LI->Int->LB->Bool->Int->Vw
|0,_,_,_,_,_,_,_,_,_,_,_,_=>none
|q+1,a,b,f,g,h,k,m,n,o,p,u,v=>IX (Tt q) a b f g h k m n o p u v
abbrev oL:=Option (Int×Int)
def wV:oL:=
(Bg c (Ah (Ac c) 32) (Ac c)).bind λz=>
(NJ z 0).bind λ(d,e,i)=>
if i then
if(Cg (Ah (Ac c) 32) d)then
some (0,24)
else
some ((Ad d 32),0)
else
(Bg c (Ah (Ac c) 32) (Ac c)).bind λj=>
(NJ j 2147483648).bind λ(A,B,C)=>
if(!C)then
some (0,12)
else
if(Cg (Ac c) (Ad A 64))then
some (0,24)
else
(Bg c (Ah (Ac c) (Ad A 64)) (Ad (Ah (Ac c) (Ad A 64)) 32)).bind λD=>
(jP A B 2684354560).bind λE=>
(Mt D E).bind λF=>
if(!F)then
some (0,12)
else
some ((Ad A 64),0)
def vE:=wV
def wJ(j2:LB->oL)(a:LB):oL:=
if(Cg (Ah (Ac a) 32) 0)then
some (0,6)
else
(Bg a (Ah (Ac a) 32) (Ac a)).bind λv=>
(Jt v ([(65:UInt8),(80:UInt8),(69:UInt8),(84:UInt8),(65:UInt8),(71:UInt8),(69:UInt8),(88:UInt8)]:LB)).bind λw=>
if(!w)then
some (0,6)
else
j2 a
def D9:=wJ vE
abbrev Ex:=Option (Int×Int)
def uH:Ex:=
some (z,0)
def uS:=uH
def XG(bk8:Int->LB->Ex)(a:Int)(g:LB):Ex:=
bk8 (Ad a 1) g
def XB bk8:=XG bk8
def WX(j12:Int->LB->Ex)(a f:Int)(b:LB):Ex:=
if(geq f 0)then
some (0,38)
else
(Bg b 0 (Ah (Ac b) f)).bind λg=>
j12 a g
def VP bk8:=WX (XB bk8)
def bX(j11:Int->Int->LB->Ex)(j14:Int->Ex)(a:Int)(b:LB):Ex:=
if(Eg (Ac b) 0)then
(D9 b).bind λ(f,k)=>
j11 a f b
else
j14 a
def Xj:Nat->Int->LB->Ex
|0,_,_=>none
|q+1,a,b=>bX (VP (Xj q)) uS a b
def xW:=Xj Ap
def bS(j8:Int->LB->Ex)(h:LB):Ex:=
if(Eg (Ac h) 4000)then
some (0,38)
else
j8 0 h
def YL:=bS xW
abbrev TF:=Option (Int×Int×Int×Int×Int×Int×LI×Int)
def E9:TF:=
(Ja d e B E M).bind λ(z,i)=>
if(Bc i 0)then
some (0,0,0,0,0,0,([]:LI),i)
else
(Bg c y5 (Ac c)).bind λj=>
(YW j (Ac z)).bind λ(A,C)=>
if(Bc C 0)then
some (0,0,0,0,0,0,([]:LI),C)
else
some (d,e,B,E,M,(Ad (Ad y5 (Az 4 (Ac A))) 4),A,0)
def G3:=E9
def B3(j2:LB->Int->Int->Int->Int->Int->Int->TF)(a n:LB):TF:=
if(Eg (Ac n) 64)then
some (0,0,0,0,0,0,([]:LI),2)
else
if(Eg (Ac a) 100000)then
some (0,0,0,0,0,0,([]:LI),4)
else
(Mr a).bind λ(f,w)=>
if(Bc w 0)then
some (0,0,0,0,0,0,([]:LI),w)
else
(Bg a f (Ac a)).bind λad=>
(Zt ad).bind λ(b,g,h,k,m,y)=>
if(Bc y 0)then
some (0,0,0,0,0,0,([]:LI),y)
else
if((n==([]:LB)) !=(geq b 1))then
some (0,0,0,0,0,0,([]:LI),26)
else
if(n !=([]:LB))then
if(Cg (Ac a) (Ad (Ad f 22) 8))then
some (0,0,0,0,0,0,([]:LI),24)
else
(Bg a (Ad f 22) (Ad (Ad f 22) 8)).bind λae=>
(NC ae n).bind λ(af,aa)=>
if(Bc aa 0)then
some (0,0,0,0,0,0,([]:LI),aa)
else
if(!af)then
some (0,0,0,0,0,0,([]:LI),26)
else
j2 a b g h k m (Ad (Ad f 22) 8)
else
j2 a b g h k m (Ad f 22)
def Aci:=B3 G3
abbrev Ib:=Option (Int×Int×Int×Int×Int×Int×LI×Int)
def YK:Ib:=
if(Bc d 0)then
some (0,0,0,0,0,0,([]:LI),d)
else
some (e,B,E,M,y5,(Ad (Ad z (Az 4 (Ac j))) 4),j,0)
def XZ:=YK
def YE(j4:Int->Int->Int->Int->Int->Int->Int->LI->Ib)(a:LB)(b h k f g n:Int):Ib:=
(Bg a n (Ac a)).bind λy=>
(Iv f g).bind λaa=>
(SN y (Ac aa)).bind λ(p,o)=>
j4 n o b h k f g p
def XU:=YE XZ
def XS(j3:LB->Int->Int->Int->Int->Int->Int->Ib)(a u:LB):Ib:=
if(Eg (Ac a) 100000)then
some (0,0,0,0,0,0,([]:LI),4)
else
(Qo a).bind λ(m,v)=>
if(Bc v 0)then
some (0,0,0,0,0,0,([]:LI),v)
else
(Bg a m (Ac a)).bind λab=>
(Sp ab).bind λ(b,h,k,f,g,w)=>
if(Bc w 0)then
some (0,0,0,0,0,0,([]:LI),w)
else
if((u==([]:LB)) !=(geq b 1))then
some (0,0,0,0,0,0,([]:LI),26)
else
if(geq b 2)then
if(Cg (Ah (Ac a) (Ad m 22)) 8)then
some (0,0,0,0,0,0,([]:LI),24)
else
(Bg a (Ad m 22) (Ad (Ad m 22) 8)).bind λac=>
(JJ u).bind λad=>
if(ac !=ad)then
some (0,0,0,0,0,0,([]:LI),26)
else
j3 a b h k f g (Ad (Ad m 22) 8)
else
j3 a b h k f g (Ad m 22)
def lA:=XS XU
def dN:Option Int:=
some z
def cW:=dN
def Rk(j6:Int->Option Int)(Nv:Int->Int->Option Int)(b h k m n o f:Int)(g:LI)(a p:Int):Option Int:=
if(Cg p b)then
(Aj g p).bind λu=>
Nv (Ad a u) (Ad p 1)
else
j6 a
def Il:Nat->Int->Int->Option Int
|0,_,_=>none
|c+1,i,A=>Rk cW (Il c) z d e B E M y5 j i A
def cF b h k m n o f g:=Il b h k m n o f g Ap
def cV(j4:Int->Int->Int->Int->Int->Int->Int->LI->Int->Int->Option Int)(h k m n o f:Int)(g:LI)(b:Int):Option Int:=
j4 b h k m n o f g f 0
def NQ:=cV cF
abbrev Yu:=Option (LB×Int)
def MG(u:LX)(n o g f h k p:Int)(b:LI):Yu:=
if(Bc n 0)then
some (([]:LB),n)
else
(Pq f u).bind λ(af,ai)=>
some (af,0)
def MB:=MG
def LZ(j2:LX->Int->Int->Int->Int->Int->Int->Int->LI->Yu)(v y:LB)(o g f h k p:Int)(b:LI)(a:Int):Yu:=
(NQ o g f h k p b a).bind λm=>
(Aj b a).bind λaa=>
if(Cg (Ah (Ac v) m) aa)then
some (([]:LB),24)
else
(Rz y).bind λ(ab,ag)=>
(Aj b a).bind λac=>
(Bg v m (Ad m ac)).bind λad=>
(
(Iv h k).bind λw=>
(Aj w a).bind λ_=>
(Aj w a).bind λae=>
(Ki g f ab ae ad).bind λ(u,n)=>
j2 u n o g f h k p b)
def Oo:=LZ MB
abbrev Qd:=Option (Int×Int×Int×LX×Int)
def dS:Qd:=
(Bg c d (Ac c)).bind λz=>
(YL z).bind λ(j,A)=>
if(Bc A 0)then
some (0,0,0,([]:LX),38)
else
some (e,B,E,i,0)
def fQ:=dS
def fM(Afo:Int->Int->LX->Qd)(a:LB)(w:LI)(m f g h o p n b ab ae:Int)(ac:LX)(k:LI)(y aj ak aa:Int)(an ad:LX):Qd:=
if(Bc ak 0)then
some (0,0,0,([]:LX),ak)
else
(Cm ad an).bind λau=>
Afo (Ad y aj) (Ad aa 1) au
def fN Afo:=fM Afo
def PK(j24:Int->Int->Int->Int->LX->LX->Qd)(j26:LB->Int->Int->Int->Int->LX->Qd)(a:LB)(w:LI)(m f g h o p n b ab ae:Int)(ac:LX)(k:LI)(y aa:Int)(ad:LX):Qd:=
if(Cg aa (Ac w))then
(Aj w aa).bind λ_=>
(Aj w aa).bind λaj=>
if(Cg (Ac a) (Ad y aj))then
some (0,0,0,([]:LX),24)
else
(Aj k aa).bind λ_=>
(Bg a y (Ad y aj)).bind λav=>
(Aj k aa).bind λaw=>
(Lc f g ac aw av).bind λ(an,ak)=>
j24 y aj ak aa an ad
else
j26 a y f g h ad
def BN:Nat->Int->Int->LX->Qd
|0,_,_,_=>none
|z+1,d,e,i=>PK (fN (BN z) c j C Bco Bc6 Bdj Bdk Bdl Bdm Bdn Bdo Bdp R Bc7) fQ c j C Bco Bc6 Bdj Bdk Bdl Bdm Bdn Bdo Bdp R Bc7 d e i
end Go.Pl
